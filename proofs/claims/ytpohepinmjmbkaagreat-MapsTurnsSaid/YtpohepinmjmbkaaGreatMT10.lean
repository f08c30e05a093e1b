import Derived.Test.YtpohepinmjmbkaaGreatMT9
namespace Go.Proofs.YtpohepinmjmbkaaGreat.MT
open Go Go.RowKit Go.Proofs.YtpohepinmjmbkaaGreat.Sl
set_option linter.unusedVariables false
set_option linter.unusedSimpArgs false
set_option maxHeartbeats 4000000
set_option maxRecDepth 100000
def qBy.f(k:Nat)(x:qC)(y:qC):Option Bool:=if x.f0=y.f0 then ((qN.f k x.f1 y.f1).bind fun t9=>(some t9)) else (some false)
def qBy.Post(W F:World)(r:Bool)(v:Value)(w':World):Prop:=∃(F':World),v = .bool r∧Sm W F w' F' []
theorem qBy.calls(k:Nat)(x:qC)(y:qC)(A0_1:OA)(c0_1:Nat)(A1_1:OA)(c1_1:Nat)(r:Bool)(W F:World)(hown:Sub F W)(g0_1:Rd qF.k F A0_1 c0_1 x.f1)(g1_1:Rd qF.k F A1_1 c1_1 y.f1)(H:qBy.f k x y=some r):
    Cr 92 #[.agg #[iv x.f0,.slice A0_1 x.f1.length c0_1],.agg #[iv y.f0,.slice A1_1 y.f1.length c1_1]] W (qBy.Post W F r):=by
 have S:=St.start (Own.nil hown)
 unfold qBy.f at H
 refine ent 17 rfl rfl rfl (fun a E=>?_)
 refine sq fun K1 hK1=>pl0 (ple E (.bx (t:=49) S [iv x.f0,.slice A0_1 x.f1.length c0_1]) ?_)
 rintro _ u3 a ⟨b2,rfl,hb2,S,hg⟩ E
 refine ple E (.bx (t:=49) S [iv y.f0,.slice A1_1 y.f1.length c1_1]) ?_
 rintro _ u5 a ⟨b4,rfl,hb4,S,hg⟩ E
 refine plc E (.r 2 1 .nil) (fun a E=>pld (hK1 _ _ (sq fun K6 hK6=>pl0 ?_)))
 have hb2:=S.ba 1
 refine plc E (.r 0 1<|.b 1 0 hb2<|.r 2 1<|.b 3 0 hb4<|.r 4 2<|.nil) (fun a E=>?_)
 rcases sp H with ⟨c7,H⟩ | ⟨c7,H⟩
 ·
  replace E:=E.kt 10 c7
  refine plc E (.r 6 1<|.b 7 1 hb2<|.r 8 1<|.b 9 1 hb4<|.nil) (fun a E=>?_)
  obtain ⟨t9,h10,H⟩:=bd H
  refine ple E (.cl en147 (qN.calls k x.f1 y.f1 _ _ _ _ _ _ _ S.own.sub g0_1 g1_1 h10)) ?_
  rintro _ u8 a ⟨_,rfl,hC⟩ E
  replace S:=S.lent hC
  refine plc E (.r 11 2 .nil) (fun a E=>pld (hK6 _ _ (wp_ret ?_)))
  replace S:=S.pm [] 2
  obtain rfl:=si H
  exact rt1 E ⟨_,rfl,_,rfl,S⟩
 replace E:=E.kf 10 c7
 refine plc E (.r 6 7 .nil) (fun a E=>pld (hK6 _ _ (wp_ret ?_)))
 replace S:=S.pm [] 2
 obtain rfl:=si H
 exact rt1 E ⟨_,rfl,_,rfl,S⟩
def qL.l9:Nat→List qD→List qD→Int→Option Bool
 | 0,_,_,_=>none
 | k+1,x,y,x8=>if x8<(x.length:Int) then (if 0≤x8∧x8<(x.length:Int) then (if 0≤x8∧x8<(y.length:Int) then ((qBq.f k (nth qD.z x x8) (nth qD.z y x8)).bind fun t43=>(if t43=true then (qL.l9 k x y (w64 (x8+1))) else (some false))) else (none)) else (none)) else (some true)
theorem qL.l9_s k x y x8:type_of% (qL.l9.eq_2 x y x8 k):=qL.l9.eq_2 x y x8 k
def qL.f(k:Nat)(x:List qD)(y:List qD):Option Bool:=if (x.length:Int)=(y.length:Int) then (qL.l9 k x y 0) else (some false)
def qL.Post(W F:World)(r:Bool)(v:Value)(w':World):Prop:=∃(F':World),v = .bool r∧Sm W F w' F' []
theorem qL.calls(k:Nat)(x:List qD)(y:List qD)(A0_0:OA)(c0_0:Nat)(A1_0:OA)(c1_0:Nat)(r:Bool)(W F:World)(hown:Sub F W)(g0_0:Rd qD.k F A0_0 c0_0 x)(g1_0:Rd qD.k F A1_0 c1_0 y)(H:qL.f k x y=some r):
    Cr 88 #[.slice A0_0 x.length c0_0,.slice A1_0 y.length c1_0,.func (.func 89) #[] #[]] W (qL.Post W F r):=by
 have S:=St.start (Own.nil hown)
 unfold qL.f at H
 refine ent 32 rfl rfl rfl (fun a E=>?_)
 refine rr E fun a E=>(sq fun K2 hK2=>rr E fun a E=>?_)
 refine E.ikn 14 H (fun c4 E H=>?_) fun c4 E H=>?_
 ·
  refine wp_skip (hK2 _ _ (sq fun K6 hK6=>rr E fun a E=>(wp_block ?_)))
  refine wp_loop_ghost (fun kq10 a w'=>∃(G:NV)(x8:Int),kq10≤k∧Env 32 G a∧At G [(1,.slice A1_0 y.length c1_0),(2,.func (.func 89) #[] #[]),(15,.slice A0_0 x.length c0_0),(16,iv (x.length:Int)),(17,iv x8)]∧Sm W F w' F []∧qL.l9 kq10 x y x8=some r) k ⟨_,0,Nat.le_refl _,E,.of,S,H⟩ ?_
  rintro kq10 a u12 ⟨G,x8,hkq,E,A,S,H⟩
  obtain _ | k11:=kq10
  ·
   exact zz H
  rw [qL.l9_s]at H
  obtain ⟨J,E⟩:=E.at A
  refine rr E fun a E=>(sq fun K14 hK14=>?_)
  refine E.ik 18 H (fun c15 E H=>?_) fun c15 E H=>?_
  ·
   refine wp_skip (hK14 _ _ (sq fun K16 hK16=>wp_block (sq fun K17 hK17=>pl0 ?_)))
   obtain ⟨c18,H⟩:=gd H
   have hE_:=E
   obtain ⟨ad19,rfl⟩:=g0_0.addr c18.1 c18.2
   replace E:=hE_
   obtain ⟨cs21,⟨A23,c24,rfl,g25⟩,hc22⟩:=g0_0.el qD.z x8 c18.1 c18.2
   refine plc E (.r 0 1<|.x 1 c18<|.cs 2 (S.fcs hc22)<|.nil) (fun a E=>ple E (.al (t:=97) S [iv 0,.slice none 0 0]) ?_)
   rintro _ u27 a ⟨b26,rfl,hb26,S,hg⟩ E
   refine plc E (.r 4 1 .nil) (fun a E=>ple E (.sto S [iv ((nth qD.z x x8).f0),.slice A23 (((nth qD.z x x8).f1).length) c24]) ?_)
   rintro _ u28 a ⟨rfl,hb26,S,hz⟩ E
   refine pld (hK17 _ _ (sq fun K29 hK29=>pl0 ?_))
   obtain ⟨c30,H⟩:=gd H
   have hE_:=E
   obtain ⟨ad31,rfl⟩:=g1_0.addr c30.1 c30.2
   replace E:=hE_
   obtain ⟨cs33,⟨A35,c36,rfl,g37⟩,hc34⟩:=g1_0.el qD.z x8 c30.1 c30.2
   refine plc E (.r 0 2<|.x 2 c30<|.cs 3 (S.fcs hc34)<|.nil) (fun a E=>ple E (.al (t:=97) S [iv 0,.slice none 0 0]) ?_)
   rintro _ u39 a ⟨b38,rfl,hb38,S,hg⟩ E
   refine ple E (.sto S [iv ((nth qD.z y x8).f0),.slice A35 (((nth qD.z y x8).f1).length) c36]) ?_
   rintro _ u40 a ⟨rfl,hb38,S,hz⟩ E
   refine pld (hK29 _ _ (sq fun K41 hK41=>pl0 ?_))
   have hb26:=S.ba 1
   refine plc E (.r 0 1<|.bn 1 0 2 hb26<|.bn 2 0 2 hb38<|.nil) (fun a E=>?_)
   obtain ⟨t43,h44,H⟩:=bd H
   refine ple E (.cl en89 (qBq.calls k11 (nth qD.z x x8) (nth qD.z y x8) _ _ _ _ _ _ _ S.own.sub g25 g37 h44)) ?_
   rintro _ u42 a ⟨_,rfl,hC⟩ E
   replace S:=S.lent hC
   refine plc E (.r 4 1 .nil) (fun a E=>pld (hK41 _ _ ?_))
   refine E.ibn 30 H (fun c45 E H=>?_) fun c45 E H=>?_
   ·
    refine wp_skip ?_
    refine qCQ ?_
    refine hK16 _ _ (pl0 (plc E (.r 0 2 .nil) (fun a E=>pld ?_)))
    replace S:=S.pm [] 2
    exact qCR ⟨k11,by omega,_,(w64 (x8+1)),by omega,E,.of,S,H⟩
   refine rr E fun a E=>(wp_ret (qCP (qCO (qCO (qCP (qCO ?_))))))
   replace S:=S.pm [] 2
   obtain rfl:=si H
   exact rt1 E ⟨_,rfl,_,rfl,S⟩
  refine wp_exit ?_
  refine hK6 _ _ (rr E fun a E=>(wp_ret ?_))
  obtain rfl:=si H
  exact rt1 E ⟨_,rfl,_,rfl,S⟩
 refine rr E fun a E=>(wp_ret (qCO ?_))
 obtain rfl:=si H
 exact rt1 E ⟨_,rfl,_,rfl,S⟩
def qK.l9:Nat→List qC→List qC→Int→Option Bool
 | 0,_,_,_=>none
 | k+1,x,y,x8=>if x8<(x.length:Int) then (if 0≤x8∧x8<(x.length:Int) then (if 0≤x8∧x8<(y.length:Int) then ((qBy.f k (nth qC.z x x8) (nth qC.z y x8)).bind fun t43=>(if t43=true then (qK.l9 k x y (w64 (x8+1))) else (some false))) else (none)) else (none)) else (some true)
theorem qK.l9_s k x y x8:type_of% (qK.l9.eq_2 x y x8 k):=qK.l9.eq_2 x y x8 k
def qK.f(k:Nat)(x:List qC)(y:List qC):Option Bool:=if (x.length:Int)=(y.length:Int) then (qK.l9 k x y 0) else (some false)
def qK.Post(W F:World)(r:Bool)(v:Value)(w':World):Prop:=∃(F':World),v = .bool r∧Sm W F w' F' []
theorem qK.calls(k:Nat)(x:List qC)(y:List qC)(A0_0:OA)(c0_0:Nat)(A1_0:OA)(c1_0:Nat)(r:Bool)(W F:World)(hown:Sub F W)(g0_0:Rd qC.k F A0_0 c0_0 x)(g1_0:Rd qC.k F A1_0 c1_0 y)(H:qK.f k x y=some r):
    Cr 91 #[.slice A0_0 x.length c0_0,.slice A1_0 y.length c1_0,.func (.func 92) #[] #[]] W (qK.Post W F r):=by
 have S:=St.start (Own.nil hown)
 unfold qK.f at H
 refine ent 32 rfl rfl rfl (fun a E=>?_)
 refine rr E fun a E=>(sq fun K2 hK2=>rr E fun a E=>?_)
 refine E.ikn 14 H (fun c4 E H=>?_) fun c4 E H=>?_
 ·
  refine wp_skip (hK2 _ _ (sq fun K6 hK6=>rr E fun a E=>(wp_block ?_)))
  refine wp_loop_ghost (fun kq10 a w'=>∃(G:NV)(x8:Int),kq10≤k∧Env 32 G a∧At G [(1,.slice A1_0 y.length c1_0),(2,.func (.func 92) #[] #[]),(15,.slice A0_0 x.length c0_0),(16,iv (x.length:Int)),(17,iv x8)]∧Sm W F w' F []∧qK.l9 kq10 x y x8=some r) k ⟨_,0,Nat.le_refl _,E,.of,S,H⟩ ?_
  rintro kq10 a u12 ⟨G,x8,hkq,E,A,S,H⟩
  obtain _ | k11:=kq10
  ·
   exact zz H
  rw [qK.l9_s]at H
  obtain ⟨J,E⟩:=E.at A
  refine rr E fun a E=>(sq fun K14 hK14=>?_)
  refine E.ik 18 H (fun c15 E H=>?_) fun c15 E H=>?_
  ·
   refine wp_skip (hK14 _ _ (sq fun K16 hK16=>wp_block (sq fun K17 hK17=>pl0 ?_)))
   obtain ⟨c18,H⟩:=gd H
   have hE_:=E
   obtain ⟨ad19,rfl⟩:=g0_0.addr c18.1 c18.2
   replace E:=hE_
   obtain ⟨cs21,⟨A23,c24,rfl,g25⟩,hc22⟩:=g0_0.el qC.z x8 c18.1 c18.2
   refine plc E (.r 0 1<|.x 1 c18<|.cs 2 (S.fcs hc22)<|.nil) (fun a E=>ple E (.al (t:=49) S [iv 0,.slice none 0 0]) ?_)
   rintro _ u27 a ⟨b26,rfl,hb26,S,hg⟩ E
   refine plc E (.r 4 1 .nil) (fun a E=>ple E (.sto S [iv ((nth qC.z x x8).f0),.slice A23 (((nth qC.z x x8).f1).length) c24]) ?_)
   rintro _ u28 a ⟨rfl,hb26,S,hz⟩ E
   refine pld (hK17 _ _ (sq fun K29 hK29=>pl0 ?_))
   obtain ⟨c30,H⟩:=gd H
   have hE_:=E
   obtain ⟨ad31,rfl⟩:=g1_0.addr c30.1 c30.2
   replace E:=hE_
   obtain ⟨cs33,⟨A35,c36,rfl,g37⟩,hc34⟩:=g1_0.el qC.z x8 c30.1 c30.2
   refine plc E (.r 0 2<|.x 2 c30<|.cs 3 (S.fcs hc34)<|.nil) (fun a E=>ple E (.al (t:=49) S [iv 0,.slice none 0 0]) ?_)
   rintro _ u39 a ⟨b38,rfl,hb38,S,hg⟩ E
   refine ple E (.sto S [iv ((nth qC.z y x8).f0),.slice A35 (((nth qC.z y x8).f1).length) c36]) ?_
   rintro _ u40 a ⟨rfl,hb38,S,hz⟩ E
   refine pld (hK29 _ _ (sq fun K41 hK41=>pl0 ?_))
   have hb26:=S.ba 1
   refine plc E (.r 0 1<|.bn 1 0 2 hb26<|.bn 2 0 2 hb38<|.nil) (fun a E=>?_)
   obtain ⟨t43,h44,H⟩:=bd H
   refine ple E (.cl en92 (qBy.calls k11 (nth qC.z x x8) (nth qC.z y x8) _ _ _ _ _ _ _ S.own.sub g25 g37 h44)) ?_
   rintro _ u42 a ⟨_,rfl,hC⟩ E
   replace S:=S.lent hC
   refine plc E (.r 4 1 .nil) (fun a E=>pld (hK41 _ _ ?_))
   refine E.ibn 30 H (fun c45 E H=>?_) fun c45 E H=>?_
   ·
    refine wp_skip ?_
    refine qCQ ?_
    refine hK16 _ _ (pl0 (plc E (.r 0 2 .nil) (fun a E=>pld ?_)))
    replace S:=S.pm [] 2
    exact qCR ⟨k11,by omega,_,(w64 (x8+1)),by omega,E,.of,S,H⟩
   refine rr E fun a E=>(wp_ret (qCP (qCO (qCO (qCP (qCO ?_))))))
   replace S:=S.pm [] 2
   obtain rfl:=si H
   exact rt1 E ⟨_,rfl,_,rfl,S⟩
  refine wp_exit ?_
  refine hK6 _ _ (rr E fun a E=>(wp_ret ?_))
  obtain rfl:=si H
  exact rt1 E ⟨_,rfl,_,rfl,S⟩
 refine rr E fun a E=>(wp_ret (qCO ?_))
 obtain rfl:=si H
 exact rt1 E ⟨_,rfl,_,rfl,S⟩
def qCC.f(k:Nat)(x:qE)(y:qE):Option Bool:=if x.f0=y.f0 then (if x.f1=y.f1 then (if x.f2=y.f2 then (if x.f3=y.f3 then ((qCF.f k x.f4 y.f4).bind fun t12=>(if t12=true then ((qL.f k x.f5 y.f5).bind fun t16=>(if t16=true then ((qK.f k x.f6 y.f6).bind fun t20=>(some t20)) else (some false))) else (some false))) else (some false)) else (some false)) else (some false)) else (some false)
def qCC.Post(W F:World)(r:Bool)(v:Value)(w':World):Prop:=∃(F':World),v = .bool r∧Sm W F w' F' []
theorem qCC.calls(k:Nat)(x:qE)(y:qE)(A0_4:OA)(c0_4:Nat)(A0_5:OA)(c0_5:Nat)(A0_6:OA)(c0_6:Nat)(A1_4:OA)(c1_4:Nat)(A1_5:OA)(c1_5:Nat)(A1_6:OA)(c1_6:Nat)(r:Bool)(W F:World)(hown:Sub F W)(g0_4:Rd qA.k F A0_4 c0_4 x.f4)(g0_5:Rd qD.k F A0_5 c0_5 x.f5)(g0_6:Rd qC.k F A0_6 c0_6 x.f6)(g1_4:Rd qA.k F A1_4 c1_4 y.f4)(g1_5:Rd qD.k F A1_5 c1_5 y.f5)(g1_6:Rd qC.k F A1_6 c1_6 y.f6)(H:qCC.f k x y=some r):
    Cr 35 #[.agg #[iv x.f0,iv x.f1,iv x.f2,iv x.f3,.slice A0_4 x.f4.length c0_4,.slice A0_5 x.f5.length c0_5,.slice A0_6 x.f6.length c0_6],.agg #[iv y.f0,iv y.f1,iv y.f2,iv y.f3,.slice A1_4 y.f4.length c1_4,.slice A1_5 y.f5.length c1_5,.slice A1_6 y.f6.length c1_6]] W (qCC.Post W F r):=by
 have S:=St.start (Own.nil hown)
 unfold qCC.f at H
 refine ent 52 rfl rfl rfl (fun a E=>?_)
 refine sq fun K1 hK1=>pl0 (ple E (.bx (t:=26) S [iv x.f0,iv x.f1,iv x.f2,iv x.f3,.slice A0_4 x.f4.length c0_4,.slice A0_5 x.f5.length c0_5,.slice A0_6 x.f6.length c0_6]) ?_)
 rintro _ u3 a ⟨b2,rfl,hb2,S,hg⟩ E
 refine ple E (.bx (t:=26) S [iv y.f0,iv y.f1,iv y.f2,iv y.f3,.slice A1_4 y.f4.length c1_4,.slice A1_5 y.f5.length c1_5,.slice A1_6 y.f6.length c1_6]) ?_
 rintro _ u5 a ⟨b4,rfl,hb4,S,hg⟩ E
 refine plc E (.r 2 1 .nil) (fun a E=>pld (hK1 _ _ (sq fun K6 hK6=>pl0 ?_)))
 have hb2:=S.ba 1
 refine plc E (.r 0 1<|.b 1 0 hb2<|.r 2 1<|.b 3 0 hb4<|.r 4 2<|.nil) (fun a E=>?_)
 rcases sp H with ⟨c7,H⟩ | ⟨c7,H⟩
 ·
  replace E:=E.kt 10 c7
  refine plc E (.r 6 1<|.b 7 1 hb2<|.r 8 1<|.b 9 1 hb4<|.r 10 3<|.nil) (fun a E=>?_)
  rcases sp H with ⟨c8,H⟩ | ⟨c8,H⟩
  ·
   replace E:=E.kt 17 c8
   refine plc E (.r 13 1<|.b 14 2 hb2<|.r 15 1<|.b 16 2 hb4<|.r 17 3<|.nil) (fun a E=>?_)
   rcases sp H with ⟨c9,H⟩ | ⟨c9,H⟩
   ·
    replace E:=E.kt 24 c9
    refine plc E (.r 20 1<|.b 21 3 hb2<|.r 22 1<|.b 23 3 hb4<|.r 24 3<|.nil) (fun a E=>?_)
    rcases sp H with ⟨c10,H⟩ | ⟨c10,H⟩
    ·
     replace E:=E.kt 31 c10
     refine plc E (.r 27 1<|.b 28 4 hb2<|.r 29 1<|.b 30 4 hb4<|.nil) (fun a E=>?_)
     obtain ⟨t12,h13,H⟩:=bd H
     refine ple E (.cl en87 (qCF.calls k x.f4 y.f4 _ _ _ _ _ _ _ S.own.sub g0_4 g1_4 h13)) ?_
     rintro _ u11 a ⟨_,rfl,hC⟩ E
     replace S:=S.lent hC
     refine plc E (.r 32 2 .nil) (fun a E=>?_)
     rcases sp H with ⟨c14,H⟩ | ⟨c14,H⟩
     ·
      replace E:=E.bt 38 c14
      have hb2:=S.ba 1
      have hb4:=S.ba 0
      refine plc E (.r 34 1<|.b 35 5 hb2<|.r 36 1<|.b 37 5 hb4<|.nil) (fun a E=>?_)
      obtain ⟨t16,h17,H⟩:=bd H
      refine ple E (.cl en88 (qL.calls k x.f5 y.f5 _ _ _ _ _ _ _ S.own.sub g0_5 g1_5 h17)) ?_
      rintro _ u15 a ⟨_,rfl,hC⟩ E
      replace S:=S.lent hC
      refine plc E (.r 39 2 .nil) (fun a E=>?_)
      rcases sp H with ⟨c18,H⟩ | ⟨c18,H⟩
      ·
       replace E:=E.bt 45 c18
       have hb2:=S.ba 1
       have hb4:=S.ba 0
       refine plc E (.r 41 1<|.b 42 6 hb2<|.r 43 1<|.b 44 6 hb4<|.nil) (fun a E=>?_)
       obtain ⟨t20,h21,H⟩:=bd H
       refine ple E (.cl en91 (qK.calls k x.f6 y.f6 _ _ _ _ _ _ _ S.own.sub g0_6 g1_6 h21)) ?_
       rintro _ u19 a ⟨_,rfl,hC⟩ E
       replace S:=S.lent hC
       refine plc E (.r 46 2 .nil) (fun a E=>pld (hK6 _ _ (wp_ret ?_)))
       replace S:=S.pm [] 2
       obtain rfl:=si H
       exact rt1 E ⟨_,rfl,_,rfl,S⟩
      replace E:=E.bf 45 c18
      refine plc E (.r 41 7 .nil) (fun a E=>pld (hK6 _ _ (wp_ret ?_)))
      replace S:=S.pm [] 2
      obtain rfl:=si H
      exact rt1 E ⟨_,rfl,_,rfl,S⟩
     replace E:=E.bf 38 c14
     refine plc E (.r 34 14 .nil) (fun a E=>pld (hK6 _ _ (wp_ret ?_)))
     replace S:=S.pm [] 2
     obtain rfl:=si H
     exact rt1 E ⟨_,rfl,_,rfl,S⟩
    replace E:=E.kf 31 c10
    refine plc E (.r 27 21 .nil) (fun a E=>pld (hK6 _ _ (wp_ret ?_)))
    replace S:=S.pm [] 2
    obtain rfl:=si H
    exact rt1 E ⟨_,rfl,_,rfl,S⟩
   replace E:=E.kf 24 c9
   refine plc E (.r 20 28 .nil) (fun a E=>pld (hK6 _ _ (wp_ret ?_)))
   replace S:=S.pm [] 2
   obtain rfl:=si H
   exact rt1 E ⟨_,rfl,_,rfl,S⟩
  replace E:=E.kf 17 c8
  refine plc E (.r 13 35 .nil) (fun a E=>pld (hK6 _ _ (wp_ret ?_)))
  replace S:=S.pm [] 2
  obtain rfl:=si H
  exact rt1 E ⟨_,rfl,_,rfl,S⟩
 replace E:=E.kf 10 c7
 refine plc E (.r 6 42 .nil) (fun a E=>pld (hK6 _ _ (wp_ret ?_)))
 replace S:=S.pm [] 2
 obtain rfl:=si H
 exact rt1 E ⟨_,rfl,_,rfl,S⟩
def qAM.j13:Nat→qE→qQ→Bool→Option Bool
 | 0,_,_,_=>none
 | k+1,x,y,y12=>if y12=true then ((qAu.f k).bind fun t21=>(some t21)) else ((qBA.f k x y).bind fun t25=>((qAz.f k x y).bind fun t43=>((qAJ.f k x).bind fun t62=>((qc.f k x).bind fun t65=>(if (t62 == 0)=t65 then ((qc.f k x).bind fun t72=>(if t72=true then ((qx.f k x y).bind fun t118=>(if t25.2=t118.2 then ((qh.f k t25.1 t118.1).bind fun t136=>(if t136=true then ((qc.f k t25.1).bind fun t140=>(if t140=true then ((qAH.f k x y).bind fun t144=>((qh.f k t43 t144).bind fun t157=>(if t157=true then ((qCC.f k x t25.1).bind fun t161=>((qh.f k x t25.1).bind fun t164=>(if t161=t164 then ((qAu.f k).bind fun t168=>(some t168)) else (some false)))) else (some false)))) else (some false))) else (some false))) else (some false))) else (if t25.2=1 then ((qh.f k t25.1 (⟨0,0,0,0,[],[],[]⟩:qE)).bind fun t82=>(if t82=true then ((qh.f k t43 (⟨0,0,0,0,[],[],[]⟩:qE)).bind fun t86=>(if t86=true then ((qBN.f k x [y]).bind fun t96=>((qh.f k t96 (⟨0,0,0,0,[],[],[]⟩:qE)).bind fun t110=>(if t110=true then ((qAu.f k).bind fun t114=>(some t114)) else (some false)))) else (some false))) else (some false))) else (some false)))) else (some false))))))
theorem qAM.j13_s k x y y12:type_of% (qAM.j13.eq_2 x y y12 k):=qAM.j13.eq_2 x y y12 k
def qAM.f(k:Nat)(x:qE)(y:qQ):Option Bool:=(qY.f k x).bind fun t9=>(if t9=true then (qAM.j13 k x y (decide ((y.f6.length:Int)>20))) else (qAM.j13 k x y true))
def qAM.Post(W F:World)(r:Bool)(v:Value)(w':World):Prop:=∃(F':World),v = .bool r∧Sm W F w' F' []
theorem qAM.calls(k:Nat)(x:qE)(y:qQ)(A0_4:OA)(c0_4:Nat)(A0_5:OA)(c0_5:Nat)(A0_6:OA)(c0_6:Nat)(A1_6:OA)(c1_6:Nat)(r:Bool)(W F:World)(hown:Sub F W)(g0_4:Rd qA.k F A0_4 c0_4 x.f4)(g0_5:Rd qD.k F A0_5 c0_5 x.f5)(g0_6:Rd qC.k F A0_6 c0_6 x.f6)(g1_6:Rd ki F A1_6 c1_6 y.f6)(H:qAM.f k x y=some r):
    Cr 8 #[.agg #[iv x.f0,iv x.f1,iv x.f2,iv x.f3,.slice A0_4 x.f4.length c0_4,.slice A0_5 x.f5.length c0_5,.slice A0_6 x.f6.length c0_6],.agg #[iv y.f0,iv y.f1,iv y.f2,iv y.f3,iv y.f4,iv y.f5,.slice A1_6 y.f6.length c1_6]] W (qAM.Post W F r):=by
 have S:=St.start (Own.nil hown)
 unfold qAM.f at H
 refine ent 100 rfl rfl rfl (fun a E=>?_)
 refine sq fun K1 hK1=>pl0 (ple E (.bx (t:=26) S [iv x.f0,iv x.f1,iv x.f2,iv x.f3,.slice A0_4 x.f4.length c0_4,.slice A0_5 x.f5.length c0_5,.slice A0_6 x.f6.length c0_6]) ?_)
 rintro _ u3 a ⟨b2,rfl,hb2,S,hg⟩ E
 refine ple E (.bx (t:=40) S [iv y.f0,iv y.f1,iv y.f2,iv y.f3,iv y.f4,iv y.f5,.slice A1_6 y.f6.length c1_6]) ?_
 rintro _ u5 a ⟨b4,rfl,hb4,S,hg⟩ E
 refine plc E (.r 2 1 .nil) (fun a E=>pld (hK1 _ _ (sq fun K6 hK6=>sq fun K7 hK7=>?_)))
 have J16:∀ kq14,kq14≤k→∀(G:NV)(y12:Bool)(a:Act)(w':World),Env 100 G a→At G [(2,.pointer (pb b2)),(3,.pointer (pb b4)),(19,.bool y12)]→Sm W F w' F [box b4 #[iv y.f0,iv y.f1,iv y.f2,iv y.f3,iv y.f4,iv y.f5,.slice A1_6 y.f6.length c1_6] 40,box b2 #[iv x.f0,iv x.f1,iv x.f2,iv x.f3,.slice A0_4 x.f4.length c0_4,.slice A0_5 x.f5.length c0_5,.slice A0_6 x.f6.length c0_6] 26]→qAM.j13 kq14 x y y12=some r→K7 a w':=by
  intro kq14 hkq G y12 a u17 E A S H
  obtain _ | k15:=kq14
  ·
   exact zz H
  rw [qAM.j13_s]at H
  obtain ⟨J,E⟩:=E.at A
  refine hK7 _ _ ?_
  refine E.ib 19 H (fun c18 E H=>?_) fun c18 E H=>?_
  ·
   refine sq fun K19 hK19=>pl0 ?_
   obtain ⟨t21,h22,H⟩:=bd H
   refine ple E (.cl en17 (qAu.calls k15 _ _ _ S.own.sub h22)) ?_
   rintro _ u20 a ⟨_,rfl,hC⟩ E
   replace S:=S.lent hC
   refine plc E (.r 1 1 .nil) (fun a E=>pld (hK19 _ _ (wp_ret (qCO ?_))))
   replace S:=S.pm [] 2
   obtain rfl:=si H
   exact rt1 E ⟨_,rfl,_,rfl,S⟩
  refine wp_skip (hK6 _ _ (sq fun K23 hK23=>pl0 ?_))
  have hb2:=S.ba 1
  have hb4:=S.ba 0
  refine plc E (.bn 0 0 7 hb2<|.bn 1 0 7 hb4<|.nil) (fun a E=>?_)
  obtain ⟨t25,h26,H⟩:=bd H
  refine ple E (.cl en26 (qBA.calls k15 x y _ _ _ _ _ _ _ _ _ _ _ S.own.sub g0_4 g0_5 g0_6 g1_6 h26)) ?_
  rintro _ u24 a ⟨F27,A28,c29,A31,c32,A34,c35,rfl,hC,g30,g33⟩ E
  have hs:=hC.sub
  replace S:=S.called (X:=[]) hC
  replace g0_4:=g0_4.mono hs
  replace g0_5:=g0_5.mono hs
  replace g0_6:=g0_6.mono hs
  replace g1_6:=g1_6.mono hs
  refine plc E (.r 3 3 .nil) (fun a E=>ple E (.al (t:=26) S [iv 0,iv 0,iv 0,iv 0,.slice none 0 0,.slice none 0 0,.slice none 0 0]) ?_)
  rintro _ u39 a ⟨b38,rfl,hb38,S,hg⟩ E
  refine ple E (.sto S [iv t25.1.f0,iv t25.1.f1,iv t25.1.f2,iv t25.1.f3,.slice A28 t25.1.f4.length c29,.slice A31 t25.1.f5.length c32,.slice A34 t25.1.f6.length c35]) ?_
  rintro _ u40 a ⟨rfl,hb38,S,hz⟩ E
  refine plc E (.r 8 1 .nil) (fun a E=>pld (hK23 _ _ (sq fun K41 hK41=>pl0 ?_)))
  have hb2:=S.ba 3
  have hb4:=S.ba 2
  refine plc E (.bn 0 0 7 hb2<|.bn 1 0 7 hb4<|.nil) (fun a E=>?_)
  obtain ⟨t43,h44,H⟩:=bd H
  refine ple E (.cl en31 (qAz.calls k15 x y _ _ _ _ _ _ _ _ _ _ _ S.own.sub g0_4 g0_5 g0_6 g1_6 h44)) ?_
  rintro _ u42 a ⟨F45,A46,c47,A49,c50,A52,c53,rfl,hC,g48,g51⟩ E
  have hs:=hC.sub
  replace S:=S.called (X:=[]) hC
  replace g30:=g30.mono hs
  replace g33:=g33.mono hs
  replace g0_4:=g0_4.mono hs
  replace g0_5:=g0_5.mono hs
  replace g0_6:=g0_6.mono hs
  replace g1_6:=g1_6.mono hs
  refine ple E (.al (t:=26) S [iv 0,iv 0,iv 0,iv 0,.slice none 0 0,.slice none 0 0,.slice none 0 0]) ?_
  rintro _ u57 a ⟨b56,rfl,hb56,S,hg⟩ E
  refine ple E (.sto S [iv t43.f0,iv t43.f1,iv t43.f2,iv t43.f3,.slice A46 t43.f4.length c47,.slice A49 t43.f5.length c50,.slice A52 t43.f6.length c53]) ?_
  rintro _ u58 a ⟨rfl,hb56,S,hz⟩ E
  refine pld (hK41 _ _ (sq fun K59 hK59=>sq fun K60 hK60=>?_))
  refine drawn 6 ⟨[],[],fun q=>False⟩ mixed rfl (by kernel_rfl) (fun hst=>?_)
  replace S:=S.drew
  have hb2:=S.ba 5
  refine mny 4 hst E (.bn 0 0 7 hb2<|.bn 3 0 7 hb2<|.nil) (fun a E=>?_)
  obtain ⟨t62,h63,H⟩:=bd H
  refine on1 1 E (.cl en32 (qAJ.calls k15 x _ _ _ _ _ _ _ _ _ S.own.sub g0_4 g0_5 g0_6 h63)) ?_
  rintro _ u61 a ⟨_,rfl,hC⟩ E
  refine ⟨.of hC.agr,?_⟩
  replace S:=S.lent hC
  refine mny 2 hst E (.r 2 1 .nil) (fun a E=>?_)
  obtain ⟨t65,h66,H⟩:=bd H
  refine on1 4 E (.cl en19 (qc.calls k15 x _ _ _ _ _ _ _ _ _ S.own.sub g0_4 g0_5 g0_6 h66)) ?_
  rintro _ u64 a ⟨_,rfl,hC⟩ E
  refine ⟨.of hC.agr,?_⟩
  replace S:=S.lent hC
  refine mny 0 hst E (.r 5 1 .nil) (fun a E=>?_)
  refine dn ?_
  refine hK60 _ _ ?_
  refine E.ikn 35 H (fun c67 E H=>?_) fun c67 E H=>?_
  ·
   refine wp_skip (hK59 _ _ (sq fun K69 hK69=>sq fun K70 hK70=>pl0 ?_))
   have hb2:=S.ba 5
   refine plc E (.bn 0 0 7 hb2 .nil) (fun a E=>?_)
   obtain ⟨t72,h73,H⟩:=bd H
   refine ple E (.cl en19 (qc.calls k15 x _ _ _ _ _ _ _ _ _ S.own.sub g0_4 g0_5 g0_6 h73)) ?_
   rintro _ u71 a ⟨_,rfl,hC⟩ E
   replace S:=S.lent hC
   refine plc E (.r 2 1 .nil) (fun a E=>pld (hK70 _ _ ?_))
   refine E.ibn 38 H (fun c74 E H=>?_) fun c74 E H=>?_
   ·
    refine wp_skip (hK69 _ _ (sq fun K116 hK116=>pl0 ?_))
    have hb2:=S.ba 5
    have hb4:=S.ba 4
    refine plc E (.bn 0 0 7 hb2<|.bn 1 0 7 hb4<|.nil) (fun a E=>?_)
    obtain ⟨t118,h119,H⟩:=bd H
    refine ple E (.cl en33 (qx.calls k15 x y _ _ _ _ _ _ _ _ _ _ _ S.own.sub g0_4 g0_5 g0_6 g1_6 h119)) ?_
    rintro _ u117 a ⟨F120,A121,c122,A124,c125,A127,c128,rfl,hC,g123,g126,g129⟩ E
    have hs:=hC.sub
    replace S:=S.called (X:=[]) hC
    replace g30:=g30.mono hs
    replace g33:=g33.mono hs
    replace g0_4:=g0_4.mono hs
    replace g0_5:=g0_5.mono hs
    replace g0_6:=g0_6.mono hs
    replace g1_6:=g1_6.mono hs
    replace g48:=g48.mono hs
    replace g51:=g51.mono hs
    refine plc E (.r 3 3 .nil) (fun a E=>ple E (.al (t:=26) S [iv 0,iv 0,iv 0,iv 0,.slice none 0 0,.slice none 0 0,.slice none 0 0]) ?_)
    rintro _ u131 a ⟨b130,rfl,hb130,S,hg⟩ E
    refine ple E (.sto S [iv t118.1.f0,iv t118.1.f1,iv t118.1.f2,iv t118.1.f3,.slice A121 t118.1.f4.length c122,.slice A124 t118.1.f5.length c125,.slice A127 t118.1.f6.length c128]) ?_
    rintro _ u132 a ⟨rfl,hb130,S,hz⟩ E
    refine plc E (.r 8 1 .nil) (fun a E=>pld (hK116 _ _ (sq fun K133 hK133=>?_)))
    refine drawn 32 ⟨[],[],fun q=>False⟩ mixed rfl (by kernel_rfl) (fun hst=>?_)
    replace S:=S.drew
    refine mny 28 hst E (.r 0 4 .nil) (fun a E=>?_)
    rcases sp H with ⟨c134,H⟩ | ⟨c134,H⟩
    ·
     replace E:=E.kt 72 c134
     have hb38:=S.ba 3
     have hb130:=S.ba 0
     refine mny 26 hst E (.bn 4 0 7 hb38<|.bn 5 0 7 hb130<|.nil) (fun a E=>?_)
     obtain ⟨t136,h137,H⟩:=bd H
     refine on1 6 E (.cl en16 (qh.calls k15 t25.1 t118.1 _ _ _ _ _ _ _ _ _ _ _ _ _ _ _ (Sub.refl _) (g30.mono S.own.sub) (g33.mono S.own.sub) (S.rd_at (i:=4) rfl) (g123.mono S.own.sub) (g126.mono S.own.sub) (g129.mono S.own.sub) h137)) ?_
     rintro _ u135 a ⟨_,rfl,hC⟩ E
     refine ⟨.of hC.agr,?_⟩
     replace S:=S.lent hC
     refine mny 23 hst E (.r 7 2 .nil) (fun a E=>?_)
     rcases sp H with ⟨c138,H⟩ | ⟨c138,H⟩
     ·
      replace E:=E.bt 77 c138
      have hb38:=S.ba 3
      refine mny 22 hst E (.bn 9 0 7 hb38 .nil) (fun a E=>?_)
      obtain ⟨t140,h141,H⟩:=bd H
      refine on1 10 E (.cl en19 (qc.calls k15 t25.1 _ _ _ _ _ _ _ _ _ (Sub.refl _) (g30.mono S.own.sub) (g33.mono S.own.sub) (S.rd_at (i:=4) rfl) h141)) ?_
      rintro _ u139 a ⟨_,rfl,hC⟩ E
      refine ⟨.of hC.agr,?_⟩
      replace S:=S.lent hC
      refine mny 19 hst E (.r 11 2 .nil) (fun a E=>?_)
      rcases sp H with ⟨c142,H⟩ | ⟨c142,H⟩
      ·
       replace E:=E.bt 81 c142
       have hb56:=S.ba 1
       have hb2:=S.ba 6
       have hb4:=S.ba 5
       refine mny 16 hst E (.bn 13 0 7 hb56<|.bn 14 0 7 hb2<|.bn 15 0 7 hb4<|.nil) (fun a E=>?_)
       obtain ⟨t144,h145,H⟩:=bd H
       refine on1 16 E (.cl en34 (qAH.calls k15 x y _ _ _ _ _ _ _ _ _ _ _ S.own.sub g0_4 g0_5 g0_6 g1_6 h145)) ?_
       rintro _ u143 a ⟨F146,A147,c148,A150,c151,A153,c154,rfl,hC,g149,g152,g155⟩ E
       refine ⟨.of hC.agr,?_⟩
       have hs:=hC.sub
       replace S:=S.called (X:=[]) hC
       replace g30:=g30.mono hs
       replace g33:=g33.mono hs
       replace g0_4:=g0_4.mono hs
       replace g0_5:=g0_5.mono hs
       replace g0_6:=g0_6.mono hs
       replace g1_6:=g1_6.mono hs
       replace g48:=g48.mono hs
       replace g51:=g51.mono hs
       replace g123:=g123.mono hs
       replace g126:=g126.mono hs
       replace g129:=g129.mono hs
       obtain ⟨t157,h158,H⟩:=bd H
       refine on1 17 E (.cl en16 (qh.calls k15 t43 t144 _ _ _ _ _ _ _ _ _ _ _ _ _ _ _ (Sub.refl _) (g48.mono S.own.sub) (g51.mono S.own.sub) (S.rd_at (i:=2) rfl) (g149.mono S.own.sub) (g152.mono S.own.sub) (g155.mono S.own.sub) h158)) ?_
       rintro _ u156 a ⟨_,rfl,hC⟩ E
       refine ⟨.of hC.agr,?_⟩
       replace S:=S.lent hC
       refine mny 12 hst E (.r 18 2 .nil) (fun a E=>?_)
       rcases sp H with ⟨c159,H⟩ | ⟨c159,H⟩
       ·
        replace E:=E.bt 88 c159
        have hb2:=S.ba 6
        have hb38:=S.ba 3
        refine mny 8 hst E (.bn 20 0 7 hb2<|.bn 21 0 7 hb38<|.bn 23 0 7 hb2<|.bn 24 0 7 hb38<|.nil) (fun a E=>?_)
        obtain ⟨t161,h162,H⟩:=bd H
        refine on1 22 E (.cl en35 (qCC.calls k15 x t25.1 _ _ _ _ _ _ _ _ _ _ _ _ _ _ _ (Sub.refl _) (g0_4.mono S.own.sub) (g0_5.mono S.own.sub) (g0_6.mono S.own.sub) (g30.mono S.own.sub) (g33.mono S.own.sub) (S.rd_at (i:=4) rfl) h162)) ?_
        rintro _ u160 a ⟨_,rfl,hC⟩ E
        refine ⟨.of hC.agr,?_⟩
        replace S:=S.lent hC
        obtain ⟨t164,h165,H⟩:=bd H
        refine on1 25 E (.cl en16 (qh.calls k15 x t25.1 _ _ _ _ _ _ _ _ _ _ _ _ _ _ _ (Sub.refl _) (g0_4.mono S.own.sub) (g0_5.mono S.own.sub) (g0_6.mono S.own.sub) (g30.mono S.own.sub) (g33.mono S.own.sub) (S.rd_at (i:=4) rfl) h165)) ?_
        rintro _ u163 a ⟨_,rfl,hC⟩ E
        refine ⟨.of hC.agr,?_⟩
        replace S:=S.lent hC
        refine mny 3 hst E (.r 26 3 .nil) (fun a E=>?_)
        rcases sp H with ⟨c166,H⟩ | ⟨c166,H⟩
        ·
         replace E:=E.kt 97 c166
         obtain ⟨t168,h169,H⟩:=bd H
         refine on1 29 E (.cl en17 (qAu.calls k15 _ _ _ S.own.sub h169)) ?_
         rintro _ u167 a ⟨_,rfl,hC⟩ E
         refine ⟨.of hC.agr,?_⟩
         replace S:=S.lent hC
         refine mny 0 hst E (.r 30 2 .nil) (fun a E=>?_)
         refine dn ?_
         refine hK133 _ _ (wp_ret ?_)
         replace S:=S.pm [] 7
         obtain rfl:=si H
         exact rt1 E ⟨_,rfl,_,rfl,S⟩
        replace E:=E.kf 97 c166
        refine mny 0 hst E (.r 29 3 .nil) (fun a E=>?_)
        refine dn ?_
        refine hK133 _ _ (wp_ret ?_)
        replace S:=S.pm [] 7
        obtain rfl:=si H
        exact rt1 E ⟨_,rfl,_,rfl,S⟩
       replace E:=E.bf 88 c159
       refine mny 0 hst E (.r 20 12 .nil) (fun a E=>?_)
       refine dn ?_
       refine hK133 _ _ (wp_ret ?_)
       replace S:=S.pm [] 7
       obtain rfl:=si H
       exact rt1 E ⟨_,rfl,_,rfl,S⟩
      replace E:=E.bf 81 c142
      refine mny 0 hst E (.r 13 19 .nil) (fun a E=>?_)
      refine dn ?_
      refine hK133 _ _ (wp_ret ?_)
      replace S:=S.pm [] 7
      obtain rfl:=si H
      exact rt1 E ⟨_,rfl,_,rfl,S⟩
     replace E:=E.bf 77 c138
     refine mny 0 hst E (.r 9 23 .nil) (fun a E=>?_)
     refine dn ?_
     refine hK133 _ _ (wp_ret ?_)
     replace S:=S.pm [] 7
     obtain rfl:=si H
     exact rt1 E ⟨_,rfl,_,rfl,S⟩
    replace E:=E.kf 72 c134
    refine mny 0 hst E (.r 4 28 .nil) (fun a E=>?_)
    refine dn ?_
    refine hK133 _ _ (wp_ret ?_)
    replace S:=S.pm [] 7
    obtain rfl:=si H
    exact rt1 E ⟨_,rfl,_,rfl,S⟩
   refine sq fun K75 hK75=>pl0 (plc E (.r 0 1 .nil) (fun a E=>ple E (.al (t:=26) S [iv 0,iv 0,iv 0,iv 0,.slice none 0 0,.slice none 0 0,.slice none 0 0]) ?_))
   rintro _ u77 a ⟨b76,rfl,hb76,S,hg⟩ E
   refine ple E (.sto S [iv 0,iv 0,iv 0,iv 0,.slice none 0 0,.slice none 0 0,.slice none 0 0]) ?_
   rintro _ u78 a ⟨rfl,hb76,S,hz⟩ E
   refine pld (hK75 _ _ (sq fun K79 hK79=>?_))
   refine drawn 24 ⟨[],[],fun q=>False⟩ mixed rfl (by kernel_rfl) (fun hst=>?_)
   replace S:=S.drew
   refine mny 21 hst E (.r 0 3 .nil) (fun a E=>?_)
   rcases sp H with ⟨c80,H⟩ | ⟨c80,H⟩
   ·
    replace E:=E.kt 42 c80
    have hb38:=S.ba 3
    have hb76:=S.ba 0
    refine mny 19 hst E (.bn 3 0 7 hb38<|.bn 4 0 7 hb76<|.nil) (fun a E=>?_)
    obtain ⟨t82,h83,H⟩:=bd H
    refine on1 5 E (.cl en16 (qh.calls k15 t25.1 (⟨0,0,0,0,[],[],[]⟩:qE) _ _ _ _ _ _ _ _ _ _ _ _ _ _ _ (Sub.refl _) (g30.mono S.own.sub) (g33.mono S.own.sub) (S.rd_at (i:=4) rfl) (Rd.nil _ _) (Rd.nil _ _) (Rd.nil _ _) h83)) ?_
    rintro _ u81 a ⟨_,rfl,hC⟩ E
    refine ⟨.of hC.agr,?_⟩
    replace S:=S.lent hC
    refine mny 16 hst E (.r 6 2 .nil) (fun a E=>?_)
    rcases sp H with ⟨c84,H⟩ | ⟨c84,H⟩
    ·
     replace E:=E.bt 47 c84
     have hb56:=S.ba 1
     have hb76:=S.ba 0
     refine mny 14 hst E (.bn 8 0 7 hb56<|.bn 9 0 7 hb76<|.nil) (fun a E=>?_)
     obtain ⟨t86,h87,H⟩:=bd H
     refine on1 10 E (.cl en16 (qh.calls k15 t43 (⟨0,0,0,0,[],[],[]⟩:qE) _ _ _ _ _ _ _ _ _ _ _ _ _ _ _ (Sub.refl _) (g48.mono S.own.sub) (g51.mono S.own.sub) (S.rd_at (i:=2) rfl) (Rd.nil _ _) (Rd.nil _ _) (Rd.nil _ _) h87)) ?_
     rintro _ u85 a ⟨_,rfl,hC⟩ E
     refine ⟨.of hC.agr,?_⟩
     replace S:=S.lent hC
     refine mny 11 hst E (.r 11 2 .nil) (fun a E=>?_)
     rcases sp H with ⟨c88,H⟩ | ⟨c88,H⟩
     ·
      replace E:=E.bt 52 c88
      have hb2:=S.ba 6
      have hb4:=S.ba 5
      have hb76:=S.ba 0
      refine mny 8 hst E (.bn 13 0 7 hb2<|.bn 14 0 7 hb4<|.bn 17 0 7 hb76<|.nil) (fun a E=>?_)
      refine on1 15 E (.lit (d:=qQ.k) (e:=40) S [y] (.cons ⟨_,_,rfl,g1_6⟩ .nil)) ?_
      rintro _ u89 a ⟨A90,c91,rfl,S,hg⟩ E
      refine ⟨.of hg,?_⟩
      obtain ⟨F93,hs,g94,S⟩:=S.give
      replace g30:=g30.mono hs
      replace g33:=g33.mono hs
      replace g0_4:=g0_4.mono hs
      replace g0_5:=g0_5.mono hs
      replace g0_6:=g0_6.mono hs
      replace g1_6:=g1_6.mono hs
      replace g48:=g48.mono hs
      replace g51:=g51.mono hs
      obtain ⟨t96,h97,H⟩:=bd H
      refine on1 16 E (.cl en29 (qBN.calls k15 x [y] _ _ _ _ _ _ _ _ _ _ _ S.own.sub g0_4 g0_5 g0_6 g94 h97)) ?_
      rintro _ u95 a ⟨F98,A99,c100,A102,c103,A105,c106,rfl,hC,g101,g104⟩ E
      refine ⟨.of hC.agr,?_⟩
      have hs:=hC.sub
      replace S:=S.called (X:=[]) hC
      replace g30:=g30.mono hs
      replace g33:=g33.mono hs
      replace g0_4:=g0_4.mono hs
      replace g0_5:=g0_5.mono hs
      replace g0_6:=g0_6.mono hs
      replace g1_6:=g1_6.mono hs
      replace g48:=g48.mono hs
      replace g51:=g51.mono hs
      replace g94:=g94.mono hs
      obtain ⟨t110,h111,H⟩:=bd H
      refine on1 18 E (.cl en16 (qh.calls k15 t96 (⟨0,0,0,0,[],[],[]⟩:qE) _ _ _ _ _ _ _ _ _ _ _ _ _ _ _ (Sub.refl _) (g101.mono S.own.sub) (g104.mono S.own.sub) (S.rd_at (i:=0) rfl) (Rd.nil _ _) (Rd.nil _ _) (Rd.nil _ _) h111)) ?_
      rintro _ u109 a ⟨_,rfl,hC⟩ E
      refine ⟨.of hC.agr,?_⟩
      replace S:=S.lent hC
      refine mny 3 hst E (.r 19 2 .nil) (fun a E=>?_)
      rcases sp H with ⟨c112,H⟩ | ⟨c112,H⟩
      ·
       replace E:=E.bt 60 c112
       obtain ⟨t114,h115,H⟩:=bd H
       refine on1 21 E (.cl en17 (qAu.calls k15 _ _ _ S.own.sub h115)) ?_
       rintro _ u113 a ⟨_,rfl,hC⟩ E
       refine ⟨.of hC.agr,?_⟩
       replace S:=S.lent hC
       refine mny 0 hst E (.r 22 2 .nil) (fun a E=>?_)
       refine dn ?_
       refine hK79 _ _ (wp_ret (qCO ?_))
       replace S:=S.pm [] 8
       obtain rfl:=si H
       exact rt1 E ⟨_,rfl,_,rfl,S⟩
      replace E:=E.bf 60 c112
      refine mny 0 hst E (.r 21 3 .nil) (fun a E=>?_)
      refine dn ?_
      refine hK79 _ _ (wp_ret (qCO ?_))
      replace S:=S.pm [] 8
      obtain rfl:=si H
      exact rt1 E ⟨_,rfl,_,rfl,S⟩
     replace E:=E.bf 52 c88
     refine mny 0 hst E (.r 13 11 .nil) (fun a E=>?_)
     refine dn ?_
     refine hK79 _ _ (wp_ret (qCO ?_))
     replace S:=S.pm [] 7
     obtain rfl:=si H
     exact rt1 E ⟨_,rfl,_,rfl,S⟩
    replace E:=E.bf 47 c84
    refine mny 0 hst E (.r 8 16 .nil) (fun a E=>?_)
    refine dn ?_
    refine hK79 _ _ (wp_ret (qCO ?_))
    replace S:=S.pm [] 7
    obtain rfl:=si H
    exact rt1 E ⟨_,rfl,_,rfl,S⟩
   replace E:=E.kf 42 c80
   refine mny 0 hst E (.r 3 21 .nil) (fun a E=>?_)
   refine dn ?_
   refine hK79 _ _ (wp_ret (qCO ?_))
   replace S:=S.pm [] 7
   obtain rfl:=si H
   exact rt1 E ⟨_,rfl,_,rfl,S⟩
  refine rr E fun a E=>(wp_ret (qCO ?_))
  replace S:=S.pm [] 6
  obtain rfl:=si H
  exact rt1 E ⟨_,rfl,_,rfl,S⟩
 refine pl0 ?_
 have hb2:=S.ba 1
 refine plc E (.bn 0 0 7 hb2 .nil) (fun a E=>?_)
 obtain ⟨t9,h10,H⟩:=bd H
 refine ple E (.cl en20 (qY.calls k x _ _ _ _ _ _ _ _ _ S.own.sub g0_4 g0_5 g0_6 h10)) ?_
 rintro _ u8 a ⟨_,rfl,hC⟩ E
 replace S:=S.lent hC
 refine plc E (.r 2 2 .nil) (fun a E=>?_)
 rcases sp H with ⟨c11,H⟩ | ⟨c11,H⟩
 ·
  replace E:=E.btn 14 c11
  have hb4:=S.ba 0
  refine plc E (.r 4 1<|.b 5 6 hb4<|.r 6 3<|.nil) (fun a E=>pld ?_)
  exact J16 _ (by omega) _ (decide ((y.f6.length:Int)>20)) _ _ E .of S H
 replace E:=E.bfn 14 c11
 refine plc E (.r 4 5 .nil) (fun a E=>pld ?_)
 exact J16 _ (by omega) _ true _ _ E .of S H
end Go.Proofs.YtpohepinmjmbkaaGreat.MT
