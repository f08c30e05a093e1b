import Derived.Test.YtpohepinmjmbkaaGreatQD4
namespace Go.Proofs.YtpohepinmjmbkaaGreat.QD
open Go Go.RowKit Go.Proofs.YtpohepinmjmbkaaGreat.Sl
set_option linter.unusedVariables false
set_option linter.unusedSimpArgs false
set_option maxHeartbeats 4000000
set_option maxRecDepth 100000
def qBF.j21:Nat→qJ→qAm→Bool→Option (qJ × Int)
 | 0,_,_,_=>none
 | k+1,x0_,x1_,y20=>if y20=true then ((qAx.f k x0_).bind fun t29=>(some (t29,1))) else (if x0_.f0=2147483647 then ((qAx.f k x0_).bind fun t53=>(some (t53,6))) else ((qAx.f k x0_).bind fun t77=>((qBk.f k t77 x1_).bind fun t95=>(if t95.2=0 then ((qBE.f k x0_ t95.1).bind fun t149=>(some ((⟨(w64 (t95.1.f0+1)),t95.1.f1,t95.1.f2,t95.1.f3,t95.1.f4,t95.1.f5,t149⟩:qJ),0))) else ((qAx.f k x0_).bind fun t125=>(some (t125,t95.2)))))))
theorem qBF.j21_s k x0_ x1_ y20:type_of% (qBF.j21.eq_2 x0_ x1_ y20 k):=qBF.j21.eq_2 x0_ x1_ y20 k
def qBF.f(k:Nat)(x0_:qJ)(x1_:qAm):Option (qJ × Int):=(qAC.f k x0_).bind fun t11=>(if t11=0 then (if x1_.f0<1 then (qBF.j21 k x0_ x1_ true) else (if x1_.f0≥11 then (qBF.j21 k x0_ x1_ true) else ((qBw.f x1_).bind fun t18=>(qBF.j21 k x0_ x1_ (!t18))))) else (some ((⟨0,0,0,0,[],[],[]⟩:qJ),1)))
def qBF.Post(W F:World)(r:qJ × Int)(v:Value)(w':World):Prop:=∃(F':World)(RA0_4:Option Addr)(rc0_4:Nat)(RA0_5:Option Addr)(rc0_5:Nat)(RA0_6:Option Addr)(rc0_6:Nat),v = .tuple #[.agg #[iv r.1.f0,iv r.1.f1,iv r.1.f2,iv r.1.f3,.slice RA0_4 r.1.f4.length rc0_4,.slice RA0_5 r.1.f5.length rc0_5,.slice RA0_6 r.1.f6.length rc0_6],iv r.2]∧St W (mine W []) F w' F' [row qF.k 49 (.slice RA0_6 r.1.f6.length rc0_6) r.1.f6]∧Rd qA.k F' RA0_4 rc0_4 r.1.f4∧Rd qM.k F' RA0_5 rc0_5 r.1.f5
theorem qBF.calls(k:Nat)(x0_:qJ)(x1_:qAm)(A0_4:Option Addr)(c0_4:Nat)(A0_5:Option Addr)(c0_5:Nat)(A0_6:Option Addr)(c0_6:Nat)(A1_6:Option Addr)(c1_6:Nat)(r:qJ × Int)(W F:World)(hown:Sub F W)(g0_4:Rd qA.k F A0_4 c0_4 x0_.f4)(g0_5:Rd qM.k F A0_5 c0_5 x0_.f5)(g0_6:Rd qF.k F A0_6 c0_6 x0_.f6)(g1_6:Rd ki F A1_6 c1_6 x1_.f6)(H:qBF.f k x0_ x1_=some r):
    Calls Tryz.prog 26 #[.agg #[iv x0_.f0,iv x0_.f1,iv x0_.f2,iv x0_.f3,.slice A0_4 x0_.f4.length c0_4,.slice A0_5 x0_.f5.length c0_5,.slice A0_6 x0_.f6.length c0_6],.agg #[iv x1_.f0,iv x1_.f1,iv x1_.f2,iv x1_.f3,iv x1_.f4,iv x1_.f5,.slice A1_6 x1_.f6.length c1_6]] W fun e w'=>∃ v,e = .returned v∧qBF.Post W F r v w':=by
 have hS:=St.start (Own.nil hown)
 unfold qBF.f at H
 refine enter (n:=56) rfl rfl rfl (Nat.le_of_ble_eq_true rfl) (fun a hE=>?_)
 refine sq fun K1 hK1=>pl0 (ple hE (.bx (t:=26) hS [iv x0_.f0,iv x0_.f1,iv x0_.f2,iv x0_.f3,.slice A0_4 x0_.f4.length c0_4,.slice A0_5 x0_.f5.length c0_5,.slice A0_6 x0_.f6.length c0_6]) ?_)
 rintro _ u3 a ⟨b2,rfl,hb2,hS,hg⟩ hE
 refine ple hE (.bx (t:=40) hS [iv x1_.f0,iv x1_.f1,iv x1_.f2,iv x1_.f3,iv x1_.f4,iv x1_.f5,.slice A1_6 x1_.f6.length c1_6]) ?_
 rintro _ u5 a ⟨b4,rfl,hb4,hS,hg⟩ hE
 refine ple hE (.al (t:=26) hS [iv 0,iv 0,iv 0,iv 0,.slice none 0 0,.slice none 0 0,.slice none 0 0]) ?_
 rintro _ u7 a ⟨b6,rfl,hb6,hS,hg⟩ hE
 refine plc hE (.r 3 1 .nil) (fun a hE=>pld (hK1 _ _ (sq fun K8 hK8=>wp_block (sq fun K9 hK9=>pl0 ?_))))
 have hb2:=hS.ba 2
 refine plc hE (.bn 0 0 7 hb2 .nil) (fun a hE=>?_)
 obtain ⟨t11,h12,H⟩:=bd H
 refine ple hE (.cl en32 (qAC.calls k x0_ _ _ _ _ _ _ _ _ _ hS.own.sub g0_4 g0_5 g0_6 h12)) ?_
 rintro _ u10 a ⟨_,rfl,hC⟩ hE
 replace hS:=hS.lent hC
 refine plc hE (.r 2 2 .nil) (fun a hE=>pld (hK9 _ _ ?_))
 refine hE.ikn 8 H (fun c13 hE H=>?_) fun c13 hE H=>?_
 ·
  refine sq fun K14 hK14=>?_
  have J24:∀ kq22,kq22≤k→∀(G:Nat→Value)(y20:Bool)(a:Act)(w':World),Env 56 G a→At G [(2,.pointer (pb b2)),(3,.pointer (pb b4)),(4,.pointer (pb b6)),(13,.bool y20)]→St W (mine W []) F w' F [box b6 #[iv 0,iv 0,iv 0,iv 0,.slice none 0 0,.slice none 0 0,.slice none 0 0] 26,box b4 #[iv x1_.f0,iv x1_.f1,iv x1_.f2,iv x1_.f3,iv x1_.f4,iv x1_.f5,.slice A1_6 x1_.f6.length c1_6] 40,box b2 #[iv x0_.f0,iv x0_.f1,iv x0_.f2,iv x0_.f3,.slice A0_4 x0_.f4.length c0_4,.slice A0_5 x0_.f5.length c0_5,.slice A0_6 x0_.f6.length c0_6] 26]→qBF.j21 kq22 x0_ x1_ y20=some r→K14 a w':=by
   intro kq22 hkq G y20 a u25 hE hA hS H
   obtain _ | k23:=kq22
   ·
    exact zz H
   rw [qBF.j21_s]at H
   obtain ⟨J,hE⟩:=hE.at hA
   refine hK14 _ _ ?_
   refine hE.ib 13 H (fun c26 hE H=>?_) fun c26 hE H=>?_
   ·
    refine sq fun K27 hK27=>pl0 ?_
    have hb2:=hS.ba 2
    refine plc hE (.bn 0 0 7 hb2 .nil) (fun a hE=>?_)
    obtain ⟨t29,h30,H⟩:=bd H
    refine ple hE (.cl en77 (qAx.calls k23 x0_ _ _ _ _ _ _ _ _ _ hS.own.sub g0_4 g0_5 g0_6 h30)) ?_
    rintro _ u28 a ⟨F31,A32,c33,A36,c37,A40,c41,rfl,hC⟩ hE
    have hs:=hC.sub
    replace hS:=hS.called (X:=[]) hC
    replace g0_4:=g0_4.mono hs
    replace g0_5:=g0_5.mono hs
    replace g0_6:=g0_6.mono hs
    replace g1_6:=g1_6.mono hs
    replace hS:=hS.front 3 rfl
    refine ple hE (.sto hS [iv t29.f0,iv t29.f1,iv t29.f2,iv t29.f3,.slice A32 t29.f4.length c33,.slice A36 t29.f5.length c37,.slice A40 t29.f6.length c41]) ?_
    rintro _ u44 a ⟨rfl,hb6,hS,hz⟩ hE
    refine plc hE (.r 3 1 .nil) (fun a hE=>pld (hK27 _ _ (wp_ret (qCE (qCD ?_)))))
    replace hS:=hS.front 1 rfl
    obtain ⟨F45,hs,g46,hS⟩:=hS.give
    replace g0_4:=g0_4.mono hs
    replace g0_5:=g0_5.mono hs
    replace g0_6:=g0_6.mono hs
    replace g1_6:=g1_6.mono hs
    replace hS:=hS.front 1 rfl
    obtain ⟨F47,hs,g48,hS⟩:=hS.give
    replace g0_4:=g0_4.mono hs
    replace g0_5:=g0_5.mono hs
    replace g0_6:=g0_6.mono hs
    replace g46:=g46.mono hs
    replace g1_6:=g1_6.mono hs
    replace hS:=hS.pm [1] 4
    obtain rfl:=si H
    exact retN hE rfl (of_decide_eq_true rfl) (.cell (by kernel_rfl) (qCJ [iv t29.f0,iv t29.f1,iv t29.f2,iv t29.f3,.slice A32 t29.f4.length c33,.slice A36 t29.f5.length c37,.slice A40 t29.f6.length c41] ag26 sz26 hb6 rfl) (.tmp (by kernel_rfl) .nil)) ⟨_,rfl,_,_,_,_,_,_,_,rfl,hS,g46,g48⟩
   refine sq fun K49 hK49=>pl0 ?_
   have hb2:=hS.ba 2
   refine plc hE (.r 0 1<|.b 1 0 hb2<|.r 2 2<|.nil) (fun a hE=>pld (hK49 _ _ ?_))
   refine hE.ik 29 H (fun c50 hE H=>?_) fun c50 hE H=>?_
   ·
    refine sq fun K51 hK51=>pl0 (plc hE (.bn 0 0 7 hb2 .nil) (fun a hE=>?_))
    obtain ⟨t53,h54,H⟩:=bd H
    refine ple hE (.cl en77 (qAx.calls k23 x0_ _ _ _ _ _ _ _ _ _ hS.own.sub g0_4 g0_5 g0_6 h54)) ?_
    rintro _ u52 a ⟨F55,A56,c57,A60,c61,A64,c65,rfl,hC⟩ hE
    have hs:=hC.sub
    replace hS:=hS.called (X:=[]) hC
    replace g0_4:=g0_4.mono hs
    replace g0_5:=g0_5.mono hs
    replace g0_6:=g0_6.mono hs
    replace g1_6:=g1_6.mono hs
    replace hS:=hS.front 3 rfl
    refine ple hE (.sto hS [iv t53.f0,iv t53.f1,iv t53.f2,iv t53.f3,.slice A56 t53.f4.length c57,.slice A60 t53.f5.length c61,.slice A64 t53.f6.length c65]) ?_
    rintro _ u68 a ⟨rfl,hb6,hS,hz⟩ hE
    refine plc hE (.r 3 1 .nil) (fun a hE=>pld (hK51 _ _ (wp_ret (qCE (qCD ?_)))))
    replace hS:=hS.front 1 rfl
    obtain ⟨F69,hs,g70,hS⟩:=hS.give
    replace g0_4:=g0_4.mono hs
    replace g0_5:=g0_5.mono hs
    replace g0_6:=g0_6.mono hs
    replace g1_6:=g1_6.mono hs
    replace hS:=hS.front 1 rfl
    obtain ⟨F71,hs,g72,hS⟩:=hS.give
    replace g0_4:=g0_4.mono hs
    replace g0_5:=g0_5.mono hs
    replace g0_6:=g0_6.mono hs
    replace g70:=g70.mono hs
    replace g1_6:=g1_6.mono hs
    replace hS:=hS.pm [1] 4
    obtain rfl:=si H
    exact retN hE rfl (of_decide_eq_true rfl) (.cell (by kernel_rfl) (qCJ [iv t53.f0,iv t53.f1,iv t53.f2,iv t53.f3,.slice A56 t53.f4.length c57,.slice A60 t53.f5.length c61,.slice A64 t53.f6.length c65] ag26 sz26 hb6 rfl) (.tmp (by kernel_rfl) .nil)) ⟨_,rfl,_,_,_,_,_,_,_,rfl,hS,g70,g72⟩
   refine wp_skip ?_
   refine qCF ?_
   refine hK8 _ _ (sq fun K76 hK76=>?_)
   refine drawn 10 ⟨[3,8],[],fun q=>False⟩ mixed rfl (by kernel_rfl) (fun hst=>?_)
   replace hS:=hS.drew
   have hb2:=hS.ba 2
   have hb4:=hS.ba 1
   refine mny 8 hst hE (.bn 0 0 7 hb2<|.bn 2 0 7 hb4<|.nil) (fun a hE=>?_)
   obtain ⟨t77,h78,H⟩:=bd H
   obtain ⟨t95,h96,H⟩:=bd H
   refine meet2 (fun a w'=>∃(G:Nat→Value)(b93:Nat)(A103:Option Addr)(c104:Nat)(A107:Option Addr)(c108:Nat)(A110:Option Addr)(c111:Nat)(F117:World),Env 56 G a∧At G [(2,.pointer (pb b2)),(4,.pointer (pb b6)),(6,.pointer (pb b93)),(40,.agg #[iv t95.1.f0,iv t95.1.f1,iv t95.1.f2,iv t95.1.f3,.slice A103 t95.1.f4.length c104,.slice A107 t95.1.f5.length c108,.slice A110 t95.1.f6.length c111]),(41,iv t95.2)]∧St W (mine W []) F w' F117 [box b93 #[iv 0,iv 0,iv 0,iv 0,.slice none 0 0,.slice none 0 0,.slice none 0 0] 26,box b6 #[iv 0,iv 0,iv 0,iv 0,.slice none 0 0,.slice none 0 0,.slice none 0 0] 26,box b4 #[iv x1_.f0,iv x1_.f1,iv x1_.f2,iv x1_.f3,iv x1_.f4,iv x1_.f5,.slice A1_6 x1_.f6.length c1_6] 40,box b2 #[iv x0_.f0,iv x0_.f1,iv x0_.f2,iv x0_.f3,.slice A0_4 x0_.f4.length c0_4,.slice A0_5 x0_.f5.length c0_5,.slice A0_6 x0_.f6.length c0_6] 26,row qA.k 104 (.slice A103 t95.1.f4.length c104) t95.1.f4]∧Rd qM.k F117 A107 c108 t95.1.f5∧Rd qF.k F117 A110 c111 t95.1.f6∧Rd ki F117 A1_6 c1_6 x1_.f6∧Rd qA.k F117 A0_4 c0_4 x0_.f4∧Rd qM.k F117 A0_5 c0_5 x0_.f5∧Rd qF.k F117 A0_6 c0_6 x0_.f6) 2 255 ?_ (fun hJb=>?_)
   ·
    rintro a u118 ⟨G,b93,A103,c104,A107,c108,A110,c111,F117,hE,hA,hS,g109,g112,g1_6,g0_4,g0_5,g0_6⟩
    obtain ⟨J,hE⟩:=hE.at hA
    refine on1 8 hE (.sto hS [iv t95.1.f0,iv t95.1.f1,iv t95.1.f2,iv t95.1.f3,.slice A103 t95.1.f4.length c104,.slice A107 t95.1.f5.length c108,.slice A110 t95.1.f6.length c111]) ?_
    rintro _ u119 a ⟨rfl,hb93,hS,hz⟩ hE
    refine ⟨.d,?_⟩
    refine mny 0 hst hE (.r 9 1 .nil) (fun a hE=>?_)
    refine dn ?_
    refine hK76 _ _ (sq fun K120 hK120=>rr hE fun a hE=>?_)
    refine hE.ikn 43 H (fun c122 hE H=>?_) fun c122 hE H=>?_
    ·
     refine wp_skip (hK120 _ _ (sq fun K145 hK145=>pl0 ?_))
     have hb2:=hS.ba 3
     refine plc hE (.bn 0 0 7 hb2<|.bn 1 0 7 hb93<|.nil) (fun a hE=>?_)
     replace hS:=hS.front 4 rfl
     obtain ⟨F146,hs,g147,hS⟩:=hS.give
     replace g109:=g109.mono hs
     replace g112:=g112.mono hs
     replace g0_4:=g0_4.mono hs
     replace g0_5:=g0_5.mono hs
     replace g0_6:=g0_6.mono hs
     replace g1_6:=g1_6.mono hs
     obtain ⟨t149,h150,H⟩:=bd H
     refine ple hE (.cl en79 (qBE.calls k23 x0_ t95.1 _ _ _ _ _ _ _ _ _ _ _ _ _ _ _ hS.own.sub g0_4 g0_5 g0_6 g147 g109 g112 h150)) ?_
     rintro _ u148 a ⟨F151,A152,c153,rfl,hC⟩ hE
     have hs:=hC.sub
     replace hS:=hS.called (X:=[]) hC
     replace g147:=g147.mono hs
     replace g109:=g109.mono hs
     replace g112:=g112.mono hs
     replace g0_4:=g0_4.mono hs
     replace g0_5:=g0_5.mono hs
     replace g0_6:=g0_6.mono hs
     replace g1_6:=g1_6.mono hs
     refine plc hE (.r 3 1 .nil) (fun a hE=>?_)
     replace hS:=hS.front 1 rfl
     refine ple hE (.sto hS [iv t95.1.f0,iv t95.1.f1,iv t95.1.f2,iv t95.1.f3,.slice A103 t95.1.f4.length c104,.slice A107 t95.1.f5.length c108,.slice A152 t149.length c153]) ?_
     rintro _ u156 a ⟨rfl,hb93,hS,hz⟩ hE
     refine pld (hK145 _ _ (sq fun K157 hK157=>pl0 (plc hE (.r 0 1<|.b 1 0 hb93<|.r 2 2<|.nil) (fun a hE=>ple hE (.sto hS [iv (w64 (t95.1.f0+1)),iv t95.1.f1,iv t95.1.f2,iv t95.1.f3,.slice A103 t95.1.f4.length c104,.slice A107 t95.1.f5.length c108,.slice A152 t149.length c153]) ?_))))
     rintro _ u158 a ⟨rfl,hb93,hS,hz⟩ hE
     refine pld (hK157 _ _ (sq fun K159 hK159=>pl0 (plc hE (.bn 0 0 7 hb93 .nil) (fun a hE=>?_))))
     replace hS:=hS.front 2 rfl
     refine ple hE (.sto hS [iv (w64 (t95.1.f0+1)),iv t95.1.f1,iv t95.1.f2,iv t95.1.f3,.slice A103 t95.1.f4.length c104,.slice A107 t95.1.f5.length c108,.slice A152 t149.length c153]) ?_
     rintro _ u160 a ⟨rfl,hb6,hS,hz⟩ hE
     refine plc hE (.r 2 1 .nil) (fun a hE=>pld (hK159 _ _ (wp_ret ?_)))
     replace hS:=hS.pm [2] 5
     obtain rfl:=si H
     exact retN hE rfl (of_decide_eq_true rfl) (.cell (by kernel_rfl) (qCJ [iv (w64 (t95.1.f0+1)),iv t95.1.f1,iv t95.1.f2,iv t95.1.f3,.slice A103 t95.1.f4.length c104,.slice A107 t95.1.f5.length c108,.slice A152 t149.length c153] ag26 sz26 hb6 rfl) (.tmp (by kernel_rfl) .nil)) ⟨_,rfl,_,_,_,_,_,_,_,rfl,hS,g147,g109⟩
    refine sq fun K123 hK123=>pl0 ?_
    have hb2:=hS.ba 3
    refine plc hE (.bn 0 0 7 hb2 .nil) (fun a hE=>?_)
    obtain ⟨t125,h126,H⟩:=bd H
    refine ple hE (.cl en77 (qAx.calls k23 x0_ _ _ _ _ _ _ _ _ _ hS.own.sub g0_4 g0_5 g0_6 h126)) ?_
    rintro _ u124 a ⟨F127,A128,c129,A132,c133,A136,c137,rfl,hC⟩ hE
    have hs:=hC.sub
    replace hS:=hS.called (X:=[]) hC
    replace g109:=g109.mono hs
    replace g112:=g112.mono hs
    replace g0_4:=g0_4.mono hs
    replace g0_5:=g0_5.mono hs
    replace g0_6:=g0_6.mono hs
    replace g1_6:=g1_6.mono hs
    refine plc hE (.r 2 1 .nil) (fun a hE=>?_)
    replace hS:=hS.front 4 rfl
    refine ple hE (.sto hS [iv t125.f0,iv t125.f1,iv t125.f2,iv t125.f3,.slice A128 t125.f4.length c129,.slice A132 t125.f5.length c133,.slice A136 t125.f6.length c137]) ?_
    rintro _ u140 a ⟨rfl,hb6,hS,hz⟩ hE
    refine plc hE (.r 4 1 .nil) (fun a hE=>pld (hK123 _ _ (wp_ret (qCD ?_))))
    replace hS:=hS.front 1 rfl
    obtain ⟨F141,hs,g142,hS⟩:=hS.give
    replace g109:=g109.mono hs
    replace g112:=g112.mono hs
    replace g0_4:=g0_4.mono hs
    replace g0_5:=g0_5.mono hs
    replace g0_6:=g0_6.mono hs
    replace g1_6:=g1_6.mono hs
    replace hS:=hS.front 1 rfl
    obtain ⟨F143,hs,g144,hS⟩:=hS.give
    replace g109:=g109.mono hs
    replace g112:=g112.mono hs
    replace g0_4:=g0_4.mono hs
    replace g0_5:=g0_5.mono hs
    replace g0_6:=g0_6.mono hs
    replace g142:=g142.mono hs
    replace g1_6:=g1_6.mono hs
    replace hS:=hS.pm [1] 6
    obtain rfl:=si H
    exact retN hE rfl (of_decide_eq_true rfl) (.cell (by kernel_rfl) (qCJ [iv t125.f0,iv t125.f1,iv t125.f2,iv t125.f3,.slice A128 t125.f4.length c129,.slice A132 t125.f5.length c133,.slice A136 t125.f6.length c137] ag26 sz26 hb6 rfl) (.tmp (by kernel_rfl) .nil)) ⟨_,rfl,_,_,_,_,_,_,_,rfl,hS,g142,g144⟩
   refine meet2 (fun a w'=>∃(G:Nat→Value)(b93:Nat)(A81:Option Addr)(c82:Nat)(A85:Option Addr)(c86:Nat)(A89:Option Addr)(c90:Nat)(F114:World),Env 56 G a∧At G [(2,.pointer (pb b2)),(4,.pointer (pb b6)),(6,.pointer (pb b93)),(37,.agg #[iv t77.f0,iv t77.f1,iv t77.f2,iv t77.f3,.slice A81 t77.f4.length c82,.slice A85 t77.f5.length c86,.slice A89 t77.f6.length c90]),(38,.agg #[iv x1_.f0,iv x1_.f1,iv x1_.f2,iv x1_.f3,iv x1_.f4,iv x1_.f5,.slice A1_6 x1_.f6.length c1_6])]∧St W (mine W []) F w' F114 [box b93 #[iv 0,iv 0,iv 0,iv 0,.slice none 0 0,.slice none 0 0,.slice none 0 0] 26,box b6 #[iv 0,iv 0,iv 0,iv 0,.slice none 0 0,.slice none 0 0,.slice none 0 0] 26,box b4 #[iv x1_.f0,iv x1_.f1,iv x1_.f2,iv x1_.f3,iv x1_.f4,iv x1_.f5,.slice A1_6 x1_.f6.length c1_6] 40,box b2 #[iv x0_.f0,iv x0_.f1,iv x0_.f2,iv x0_.f3,.slice A0_4 x0_.f4.length c0_4,.slice A0_5 x0_.f5.length c0_5,.slice A0_6 x0_.f6.length c0_6] 26,row qA.k 104 (.slice A81 t77.f4.length c82) t77.f4,row qM.k 97 (.slice A85 t77.f5.length c86) t77.f5,row qF.k 49 (.slice A89 t77.f6.length c90) t77.f6]∧Rd ki F114 A1_6 c1_6 x1_.f6∧Rd qA.k F114 A0_4 c0_4 x0_.f4∧Rd qM.k F114 A0_5 c0_5 x0_.f5∧Rd qF.k F114 A0_6 c0_6 x0_.f6) 6 135 ?_ (fun hJ=>?_)
   ·
    rintro a u115 ⟨G,b93,A81,c82,A85,c86,A89,c90,F114,hE,hA,hS,g1_6,g0_4,g0_5,g0_6⟩
    obtain ⟨J,hE⟩:=hE.at hA
    replace hS:=hS.front 5 rfl
    obtain ⟨F97,hs,g98,hS⟩:=hS.give
    replace g1_6:=g1_6.mono hs
    replace g0_4:=g0_4.mono hs
    replace g0_5:=g0_5.mono hs
    replace g0_6:=g0_6.mono hs
    replace hS:=hS.front 5 rfl
    obtain ⟨F99,hs,g100,hS⟩:=hS.give
    replace g98:=g98.mono hs
    replace g1_6:=g1_6.mono hs
    replace g0_4:=g0_4.mono hs
    replace g0_5:=g0_5.mono hs
    replace g0_6:=g0_6.mono hs
    replace hS:=hS.front 4 rfl
    refine on1 3 hE (.cl en78 (qBk.calls k23 t77 x1_ _ _ _ _ _ _ _ _ _ _ _ (Own.left (X:=[row qA.k 104 (.slice A81 t77.f4.length c82) t77.f4]) hS.own) g98 g100 g1_6 h96)) ?_
    rintro _ u101 a ⟨F102,A103,c104,A107,c108,A110,c111,rfl,hC,g109,g112⟩ hE
    refine ⟨.d,?_⟩
    have hs:=hC.sub
    replace hS:=hS.called (X:=[row qA.k 104 (.slice A81 t77.f4.length c82) t77.f4]) hC
    replace g98:=g98.mono hs
    replace g100:=g100.mono hs
    replace g1_6:=g1_6.mono hs
    replace g0_4:=g0_4.mono hs
    replace g0_5:=g0_5.mono hs
    replace g0_6:=g0_6.mono hs
    refine mny 2 hst hE (.r 4 3 .nil) (fun a hE=>?_)
    replace hS:=hS.pm [1,2,3,4,0] 5
    exact hJb _ _ ⟨_,b93,A103,c104,A107,c108,A110,c111,F102,hE,.of,hS,g109,g112,g1_6,g0_4,g0_5,g0_6⟩
   refine pk2 1 7 ?_ ?_
   ·
    refine pk1 1 hE (.cl en77 (qAx.calls k23 x0_ _ _ _ _ _ _ _ _ _ hS.own.sub g0_4 g0_5 g0_6 h78)) ?_
    rintro _ u79 a ⟨F80,A81,c82,A85,c86,A89,c90,rfl,hC⟩ hE
    refine ⟨.of hC.agr,?_⟩
    have hs:=hC.sub
    replace hS:=hS.called (X:=[]) hC
    replace g0_4:=g0_4.mono hs
    replace g0_5:=g0_5.mono hs
    replace g0_6:=g0_6.mono hs
    replace g1_6:=g1_6.mono hs
    refine pk2 7 3 ?_ ?_
    ·
     refine pk1 7 hE (.al (t:=26) hS [iv 0,iv 0,iv 0,iv 0,.slice none 0 0,.slice none 0 0,.slice none 0 0]) ?_
     rintro _ u94 a ⟨b93,rfl,hb93,hS,hg⟩ hE
     refine ⟨.of hg,?_⟩
     replace hS:=hS.pm [0,4,5,6,1,2,3] 7
     exact hJ _ _ ⟨_,b93,A81,c82,A85,c86,A89,c90,F80,hE,.of,hS,g1_6,g0_4,g0_5,g0_6⟩
    replace hS:=hS.front 1 rfl
    obtain ⟨F97,hs,g98,hS⟩:=hS.give
    replace g0_4:=g0_4.mono hs
    replace g0_5:=g0_5.mono hs
    replace g0_6:=g0_6.mono hs
    replace g1_6:=g1_6.mono hs
    replace hS:=hS.front 1 rfl
    obtain ⟨F99,hs,g100,hS⟩:=hS.give
    replace g0_4:=g0_4.mono hs
    replace g0_5:=g0_5.mono hs
    replace g0_6:=g0_6.mono hs
    replace g98:=g98.mono hs
    replace g1_6:=g1_6.mono hs
    refine pk1 3 hE (.cl en78 (qBk.calls k23 t77 x1_ _ _ _ _ _ _ _ _ _ _ _ (Own.left (X:=[row qA.k 104 (.slice A81 t77.f4.length c82) t77.f4]) hS.own) g98 g100 g1_6 h96)) ?_
    rintro _ u101 a ⟨F102,A103,c104,A107,c108,A110,c111,rfl,hC,g109,g112⟩ hE
    refine ⟨.d,?_⟩
    have hs:=hC.sub
    replace hS:=hS.called (X:=[row qA.k 104 (.slice A81 t77.f4.length c82) t77.f4]) hC
    replace g0_4:=g0_4.mono hs
    replace g0_5:=g0_5.mono hs
    replace g0_6:=g0_6.mono hs
    replace g98:=g98.mono hs
    replace g100:=g100.mono hs
    replace g1_6:=g1_6.mono hs
    refine mny 3 hst hE (.r 4 3 .nil) (fun a hE=>?_)
    refine on1 7 hE (.al (t:=26) hS [iv 0,iv 0,iv 0,iv 0,.slice none 0 0,.slice none 0 0,.slice none 0 0]) ?_
    rintro _ u94 a ⟨b93,rfl,hb93,hS,hg⟩ hE
    refine ⟨.of hg,?_⟩
    replace hS:=hS.pm [0,2,3,4,1] 5
    exact hJb _ _ ⟨_,b93,A103,c104,A107,c108,A110,c111,F102,hE,.of,hS,g109,g112,g1_6,g0_4,g0_5,g0_6⟩
   refine pk1 7 hE (.al (t:=26) hS [iv 0,iv 0,iv 0,iv 0,.slice none 0 0,.slice none 0 0,.slice none 0 0]) ?_
   rintro _ u94 a ⟨b93,rfl,hb93,hS,hg⟩ hE
   refine ⟨.of hg,?_⟩
   refine on1 1 hE (.cl en77 (qAx.calls k23 x0_ _ _ _ _ _ _ _ _ _ hS.own.sub g0_4 g0_5 g0_6 h78)) ?_
   rintro _ u79 a ⟨F80,A81,c82,A85,c86,A89,c90,rfl,hC⟩ hE
   refine ⟨.of hC.agr,?_⟩
   have hs:=hC.sub
   replace hS:=hS.called (X:=[]) hC
   replace g0_4:=g0_4.mono hs
   replace g0_5:=g0_5.mono hs
   replace g0_6:=g0_6.mono hs
   replace g1_6:=g1_6.mono hs
   replace hS:=hS.pm [3,4,5,6,0,1,2] 7
   exact hJ _ _ ⟨_,b93,A81,c82,A85,c86,A89,c90,F80,hE,.of,hS,g1_6,g0_4,g0_5,g0_6⟩
  refine pl0 ?_
  have hb4:=hS.ba 1
  refine plc hE (.r 0 1<|.b 1 0 hb4<|.r 2 2<|.nil) (fun a hE=>?_)
  rcases sp H with ⟨c15,H⟩ | ⟨c15,H⟩
  ·
   replace hE:=hE.kt 17 c15
   refine plc hE (.r 4 10 .nil) (fun a hE=>pld ?_)
   exact J24 _ (by omega) _ true _ _ hE .of hS H
  replace hE:=hE.kf 17 c15
  refine plc hE (.r 4 1<|.b 5 0 hb4<|.r 6 3<|.nil) (fun a hE=>?_)
  rcases sp H with ⟨c16,H⟩ | ⟨c16,H⟩
  ·
   replace hE:=hE.kt 22 c16
   refine plc hE (.r 9 5 .nil) (fun a hE=>pld ?_)
   exact J24 _ (by omega) _ true _ _ hE .of hS H
  replace hE:=hE.kf 22 c16
  refine plc hE (.bn 9 0 7 hb4 .nil) (fun a hE=>?_)
  obtain ⟨t18,h19,H⟩:=bd H
  refine ple hE (.cl en76 (qBw.calls x1_ _ _ _ _ _ hS.own.sub g1_6 h19)) ?_
  rintro _ u17 a ⟨_,rfl,hC⟩ hE
  replace hS:=hS.lent hC
  refine plc hE (.r 11 3 .nil) (fun a hE=>pld ?_)
  exact J24 _ (by omega) _ (!t18) _ _ hE .of hS H
 refine sq fun K73 hK73=>pl0 (plc hE (.r 0 1 .nil) (fun a hE=>ple hE (.sto hS [iv 0,iv 0,iv 0,iv 0,.slice none 0 0,.slice none 0 0,.slice none 0 0]) ?_))
 rintro _ u74 a ⟨rfl,hb6,hS,hz⟩ hE
 refine plc hE (.r 2 1 .nil) (fun a hE=>pld (hK73 _ _ (wp_ret (qCE (qCD ?_)))))
 replace hS:=hS.nilrow qF.k 49
 replace hS:=hS.pm [0] 4
 obtain rfl:=si H
 exact retN hE rfl (of_decide_eq_true rfl) (.cell (by kernel_rfl) (qCJ [iv 0,iv 0,iv 0,iv 0,.slice none 0 0,.slice none 0 0,.slice none 0 0] ag26 sz26 hb6 rfl) (.tmp (by kernel_rfl) .nil)) ⟨_,rfl,_,_,_,_,_,_,_,rfl,hS,(Rd.nil _ _),(Rd.nil _ _)⟩
def qBM.f(x0_:Int)(x1_:Int)(x2_:Int):Option Bool:=if x0_≥x1_ then (some (decide (x0_≤x2_))) else (some false)
def qBM.Post(W F:World)(r:Bool)(v:Value)(w':World):Prop:=∃(F':World),v = .bool r∧St W (mine W []) F w' F' []
theorem qBM.calls(x0_:Int)(x1_:Int)(x2_:Int)(r:Bool)(W F:World)(hown:Sub F W)(H:qBM.f x0_ x1_ x2_=some r):
    Calls Tryz.prog 116 #[iv x0_,iv x1_,iv x2_] W fun e w'=>∃ v,e = .returned v∧qBM.Post W F r v w':=by
 have hS:=St.start (Own.nil hown)
 unfold qBM.f at H
 refine enter (n:=15) rfl rfl rfl (Nat.le_of_ble_eq_true rfl) (fun a hE=>?_)
 refine rr hE fun a hE=>(sq fun K2 hK2=>pl0 (plc hE (.r 0 4 .nil) (fun a hE=>?_)))
 rcases sp H with ⟨c3,H⟩ | ⟨c3,H⟩
 ·
  replace hE:=hE.kt 10 c3
  refine plc hE (.r 4 5 .nil) (fun a hE=>pld (hK2 _ _ (wp_ret ?_)))
  obtain rfl:=si H
  exact rt1 hE ⟨_,rfl,_,rfl,hS⟩
 replace hE:=hE.kf 10 c3
 refine plc hE (.r 4 5 .nil) (fun a hE=>pld (hK2 _ _ (wp_ret ?_)))
 obtain rfl:=si H
 exact rt1 hE ⟨_,rfl,_,rfl,hS⟩
def qBm.f(x0_:qC)(xf0_:Int):Option Bool:=some (x0_.f0 == xf0_)
def qBm.Post(W F:World)(r:Bool)(v:Value)(w':World):Prop:=∃(F':World),v = .bool r∧St W (mine W []) F w' F' []
theorem qBm.calls(x0_:qC)(xf0_:Int)(pf0_:Nat)(r:Bool)(W F:World)(hown:Sub F W)(hpf0_:F.heap[pf0_]? = some (.cells #[iv xf0_] 3 (0,0)))(H:qBm.f x0_ xf0_=some r):
    Calls Tryz.prog 156 #[.agg #[iv x0_.f0,iv x0_.f1,iv x0_.f2,iv x0_.f3,iv x0_.f4],.pointer (pb pf0_)] W fun e w'=>∃ v,e = .returned v∧qBm.Post W F r v w':=by
 have hS:=St.start (Own.nil hown)
 unfold qBm.f at H
 refine enter (n:=8) rfl rfl rfl (Nat.le_of_ble_eq_true rfl) (fun a hE=>?_)
 refine sq fun K1 hK1=>pl0 (ple hE (.bx (t:=86) hS [iv x0_.f0,iv x0_.f1,iv x0_.f2,iv x0_.f3,iv x0_.f4]) ?_)
 rintro _ u3 a ⟨b2,rfl,hb2,hS,hg⟩ hE
 refine plc hE (.r 1 1 .nil) (fun a hE=>pld (hK1 _ _ (rg hE (.r 0 1<|.b 1 0 hb2<|.b 2 0 (hS.own.sub _ _ _ _ hpf0_)<|.r 3 2<|.nil) fun a hE=>(wp_ret ?_))))
 replace hS:=hS.tail
 obtain rfl:=si H
 exact rt1 hE ⟨_,rfl,_,rfl,hS⟩
def qV.l5:Nat→List qC→Int→Int→Option Int
 | 0,_,_,_=>none
 | k+1,x0_,x1c0_,x4=>if x4<(x0_.length:Int) then (if 0≤x4∧x4<(x0_.length:Int) then ((qBm.f (⟨(nth qC.z x0_ x4).f0,(nth qC.z x0_ x4).f1,(nth qC.z x0_ x4).f2,(nth qC.z x0_ x4).f3,(nth qC.z x0_ x4).f4⟩:qC) x1c0_).bind fun t21=>(if t21=true then (some x4) else (qV.l5 k x0_ x1c0_ (w64 (x4+1))))) else (none)) else (some (-1))
theorem qV.l5_s k x0_ x1c0_ x4:type_of% (qV.l5.eq_2 x0_ x1c0_ x4 k):=qV.l5.eq_2 x0_ x1c0_ x4 k
def qV.f(k:Nat)(x0_:List qC)(x1c0_:Int):Option Int:=qV.l5 k x0_ x1c0_ 0
def qV.Post(W F:World)(r:Int)(v:Value)(w':World):Prop:=∃(F':World),v=iv r∧St W (mine W []) F w' F' []
theorem qV.calls(k:Nat)(x0_:List qC)(x1c0_:Int)(A0_0:Option Addr)(c0_0:Nat)(p1c0_:Nat)(r:Int)(W F:World)(hown:Sub F W)(g0_0:Rd qC.k F A0_0 c0_0 x0_)(hp1c0_:F.heap[p1c0_]? = some (.cells #[iv x1c0_] 3 (0,0)))(H:qV.f k x0_ x1c0_=some r):
    Calls Tryz.prog 190 #[.slice A0_0 x0_.length c0_0,.func (.func 156) #[] #[.pointer (pb p1c0_)]] W fun e w'=>∃ v,e = .returned v∧qV.Post W F r v w':=by
 have hS:=St.start (Own.nil hown)
 unfold qV.f at H
 refine enter (n:=19) rfl rfl rfl (Nat.le_of_ble_eq_true rfl) (fun a hE=>?_)
 refine rr hE fun a hE=>(sq fun K2 hK2=>rr hE fun a hE=>(wp_block ?_))
 refine wp_loop_ghost (fun kq6 a w'=>∃(G:Nat→Value)(x4:Int),kq6≤k∧Env 19 G a∧At G [(0,.slice A0_0 x0_.length c0_0),(1,.func (.func 156) #[] #[.pointer (pb p1c0_)]),(7,iv (x0_.length:Int)),(8,iv x4)]∧St W (mine W []) F w' F []∧qV.l5 kq6 x0_ x1c0_ x4=some r) k ⟨_,0,Nat.le_refl _,hE,.of,hS,H⟩ ?_
 rintro kq6 a u8 ⟨G,x4,hkq,hE,hA,hS,H⟩
 obtain _ | k7:=kq6
 ·
  exact zz H
 rw [qV.l5_s]at H
 obtain ⟨J,hE⟩:=hE.at hA
 refine rr hE fun a hE=>(sq fun K10 hK10=>?_)
 refine hE.ik 9 H (fun c11 hE H=>?_) fun c11 hE H=>?_
 ·
  refine wp_skip (hK10 _ _ (sq fun K12 hK12=>wp_block (rr hE fun a hE=>(sq fun K14 hK14=>pl0 ?_))))
  obtain ⟨c15,H⟩:=gd H
  have hE_:=hE
  obtain ⟨ad16,rfl⟩:=g0_0.addr c15.1 c15.2
  replace hE:=hE_
  obtain ⟨cs18,rfl,hc19⟩:=g0_0.el qC.z x4 c15.1 c15.2
  refine plc hE (.r 0 3<|.x 3 c15<|.cs 4 (hS.fcs hc19)<|.nil) (fun a hE=>?_)
  obtain ⟨t21,h22,H⟩:=bd H
  refine ple hE (.cl en156 (qBm.calls (⟨(nth qC.z x0_ x4).f0,(nth qC.z x0_ x4).f1,(nth qC.z x0_ x4).f2,(nth qC.z x0_ x4).f3,(nth qC.z x0_ x4).f4⟩:qC) x1c0_ _ _ _ _ hS.own.sub hp1c0_ h22)) ?_
  rintro _ u20 a ⟨_,rfl,hC⟩ hE
  replace hS:=hS.lent hC
  refine pld (hK14 _ _ ?_)
  refine hE.ib 16 H (fun c23 hE H=>?_) fun c23 hE H=>?_
  ·
   refine rr hE fun a hE=>(wp_ret (qCE (qCD (qCD (qCE (qCD ?_))))))
   obtain rfl:=si H
   exact rt1 hE ⟨_,rfl,_,rfl,hS⟩
  refine wp_skip ?_
  refine qCF ?_
  refine hK12 _ _ (pl0 (plc hE (.r 0 2 .nil) (fun a hE=>pld ?_)))
  exact qCG ⟨k7,by omega,_,(w64 (x4+1)),by omega,hE,.of,hS,H⟩
 refine wp_exit ?_
 refine hK2 _ _ (rr hE fun a hE=>(wp_ret ?_))
 obtain rfl:=si H
 exact rt1 hE ⟨_,rfl,_,rfl,hS⟩
def qu.f(k:Nat)(x0_:List qC)(x1c0_:Int):Option Bool:=(qV.f k x0_ x1c0_).bind fun t4=>(some (decide (t4≥0)))
def qu.Post(W F:World)(r:Bool)(v:Value)(w':World):Prop:=∃(F':World),v = .bool r∧St W (mine W []) F w' F' []
theorem qu.calls(k:Nat)(x0_:List qC)(x1c0_:Int)(A0_0:Option Addr)(c0_0:Nat)(p1c0_:Nat)(r:Bool)(W F:World)(hown:Sub F W)(g0_0:Rd qC.k F A0_0 c0_0 x0_)(hp1c0_:F.heap[p1c0_]? = some (.cells #[iv x1c0_] 3 (0,0)))(H:qu.f k x0_ x1c0_=some r):
    Calls Tryz.prog 155 #[.slice A0_0 x0_.length c0_0,.func (.func 156) #[] #[.pointer (pb p1c0_)]] W fun e w'=>∃ v,e = .returned v∧qu.Post W F r v w':=by
 have hS:=St.start (Own.nil hown)
 unfold qu.f at H
 refine enter (n:=9) rfl rfl rfl (Nat.le_of_ble_eq_true rfl) (fun a hE=>?_)
 refine rr hE fun a hE=>(sq fun K2 hK2=>pl0 (plc hE (.r 0 2 .nil) (fun a hE=>?_)))
 obtain ⟨t4,h5,H⟩:=bd H
 refine ple hE (.cl en190 (qV.calls k x0_ x1c0_ _ _ _ _ _ _ hS.own.sub g0_0 hp1c0_ h5)) ?_
 rintro _ u3 a ⟨_,rfl,hC⟩ hE
 replace hS:=hS.lent hC
 refine plc hE (.r 3 2 .nil) (fun a hE=>pld (hK2 _ _ (wp_ret ?_)))
 obtain rfl:=si H
 exact rt1 hE ⟨_,rfl,_,rfl,hS⟩
def qBd.f(k:Nat)(x0_:List qC)(x1_:Int):Option Bool:=(qu.f k x0_ x1_).bind fun t6=>(some t6)
def qBd.Post(W F:World)(r:Bool)(v:Value)(w':World):Prop:=∃(F':World),v = .bool r∧St W (mine W []) F w' F' []
theorem qBd.calls(k:Nat)(x0_:List qC)(x1_:Int)(A0_0:Option Addr)(c0_0:Nat)(r:Bool)(W F:World)(hown:Sub F W)(g0_0:Rd qC.k F A0_0 c0_0 x0_)(H:qBd.f k x0_ x1_=some r):
    Calls Tryz.prog 105 #[.slice A0_0 x0_.length c0_0,iv x1_] W fun e w'=>∃ v,e = .returned v∧qBd.Post W F r v w':=by
 have hS:=St.start (Own.nil hown)
 unfold qBd.f at H
 refine enter (n:=8) rfl rfl rfl (Nat.le_of_ble_eq_true rfl) (fun a hE=>?_)
 refine sq fun K1 hK1=>pl0 (ple hE (.bx (t:=3) hS [iv x1_]) ?_)
 rintro _ u3 a ⟨b2,rfl,hb2,hS,hg⟩ hE
 refine plc hE (.r 1 1 .nil) (fun a hE=>pld (hK1 _ _ (sq fun K4 hK4=>pl0 (plc hE (.r 0 2 .nil) (fun a hE=>?_)))))
 obtain ⟨t6,h7,H⟩:=bd H
 refine ple hE (.cl en155 (qu.calls k x0_ x1_ _ _ _ _ _ _ (Sub.refl _) (g0_0.mono hS.own.sub) (hS.ba 0) h7)) ?_
 rintro _ u5 a ⟨_,rfl,hC⟩ hE
 replace hS:=hS.lent hC
 refine plc hE (.r 3 1 .nil) (fun a hE=>pld (hK4 _ _ (wp_ret ?_)))
 replace hS:=hS.tail
 obtain rfl:=si H
 exact rt1 hE ⟨_,rfl,_,rfl,hS⟩
mutual
def qAD.l9:Nat→List qC→Int→Option Int
 | 0,_,_=>none
 | k+1,x0_,x8=>if x8<(x0_.length:Int) then (if 0≤x8∧x8<(x0_.length:Int) then ((qBM.f ((nth qC.z x0_ x8).f0) 1 999).bind fun t29=>(if t29=true then (if 0≤x8∧x8≤(x0_.length:Int) then ((qBd.f k (cutl x0_ 0 x8) ((nth qC.z x0_ x8).f0)).bind fun t38=>(qAD.j41 k x0_ x8 t38)) else (none)) else (qAD.j41 k x0_ x8 true))) else (none)) else (some 0)
def qAD.j41:Nat→List qC→Int→Bool→Option Int
 | 0,_,_,_=>none
 | k+1,x0_,x8,y40=>if y40=true then (some 1) else ((qBM.f ((nth qC.z x0_ x8).f1) 0 2147483647).bind fun t50=>(if t50=true then ((qBM.f ((nth qC.z x0_ x8).f2) 0 2147483647).bind fun t54=>(if t54=true then ((qBM.f ((nth qC.z x0_ x8).f3) 0 2147483647).bind fun t58=>(if t58=true then ((qBM.f ((nth qC.z x0_ x8).f4) 0 ((nth qC.z x0_ x8).f3)).bind fun t62=>(qAD.j65 k x0_ x8 (!t62))) else (qAD.j65 k x0_ x8 true))) else (qAD.j65 k x0_ x8 true))) else (qAD.j65 k x0_ x8 true)))
def qAD.j65:Nat→List qC→Int→Bool→Option Int
 | 0,_,_,_=>none
 | k+1,x0_,x8,y64=>if y64=true then (some 1) else (qAD.l9 k x0_ (w64 (x8+1)))
end
theorem qAD.l9_s k x0_ x8:type_of% (qAD.l9.eq_2 x0_ x8 k):=qAD.l9.eq_2 x0_ x8 k
theorem qAD.j41_s k x0_ x8 y40:type_of% (qAD.j41.eq_2 x0_ x8 y40 k):=qAD.j41.eq_2 x0_ x8 y40 k
theorem qAD.j65_s k x0_ x8 y64:type_of% (qAD.j65.eq_2 x0_ x8 y64 k):=qAD.j65.eq_2 x0_ x8 y64 k
def qAD.f(k:Nat)(x0_:List qC):Option Int:=if (x0_.length:Int)>12 then (some 1) else (qAD.l9 k x0_ 0)
def qAD.Post(W F:World)(r:Int)(v:Value)(w':World):Prop:=∃(F':World),v=iv r∧St W (mine W []) F w' F' []
theorem qAD.calls(k:Nat)(x0_:List qC)(A0_0:Option Addr)(c0_0:Nat)(r:Int)(W F:World)(hown:Sub F W)(g0_0:Rd qC.k F A0_0 c0_0 x0_)(H:qAD.f k x0_=some r):
    Calls Tryz.prog 58 #[.slice A0_0 x0_.length c0_0] W fun e w'=>∃ v,e = .returned v∧qAD.Post W F r v w':=by
 have hS:=St.start (Own.nil hown)
 unfold qAD.f at H
 refine enter (n:=52) rfl rfl rfl (Nat.le_of_ble_eq_true rfl) (fun a hE=>?_)
 refine rr hE fun a hE=>(sq fun K2 hK2=>rr hE fun a hE=>?_)
 refine hE.ik 7 H (fun c4 hE H=>?_) fun c4 hE H=>?_
 ·
  refine rr hE fun a hE=>(wp_ret (qCD ?_))
  obtain rfl:=si H
  exact rt1 hE ⟨_,rfl,_,rfl,hS⟩
 refine wp_skip (hK2 _ _ (sq fun K6 hK6=>rr hE fun a hE=>(wp_block ?_)))
 refine wp_loop_ghost (fun kq10 a w'=>∃(G:Nat→Value)(x8:Int),kq10≤k∧Env 52 G a∧At G [(0,.slice A0_0 x0_.length c0_0),(8,.slice A0_0 x0_.length c0_0),(9,iv (x0_.length:Int)),(10,iv x8)]∧St W (mine W []) F w' F []∧qAD.l9 kq10 x0_ x8=some r) k ⟨_,0,Nat.le_refl _,hE,.of,hS,H⟩ ?_
 rintro kq10 a u12 ⟨G,x8,hkq,hE,hA,hS,H⟩
 obtain _ | k11:=kq10
 ·
  exact zz H
 rw [qAD.l9_s]at H
 obtain ⟨J,hE⟩:=hE.at hA
 refine rr hE fun a hE=>(sq fun K14 hK14=>?_)
 refine hE.ik 11 H (fun c15 hE H=>?_) fun c15 hE H=>?_
 ·
  refine wp_skip (hK14 _ _ (sq fun K16 hK16=>wp_block (sq fun K17 hK17=>pl0 ?_)))
  obtain ⟨c18,H⟩:=gd H
  have hE_:=hE
  obtain ⟨ad19,rfl⟩:=g0_0.addr c18.1 c18.2
  replace hE:=hE_
  obtain ⟨cs21,rfl,hc22⟩:=g0_0.el qC.z x8 c18.1 c18.2
  refine plc hE (.r 0 1<|.x 1 c18<|.cs 2 (hS.fcs hc22)<|.nil) (fun a hE=>ple hE (.al (t:=86) hS [iv 0,iv 0,iv 0,iv 0,iv 0]) ?_)
  rintro _ u24 a ⟨b23,rfl,hb23,hS,hg⟩ hE
  refine plc hE (.r 4 1 .nil) (fun a hE=>ple hE (.sto hS [iv ((nth qC.z x0_ x8).f0),iv ((nth qC.z x0_ x8).f1),iv ((nth qC.z x0_ x8).f2),iv ((nth qC.z x0_ x8).f3),iv ((nth qC.z x0_ x8).f4)]) ?_)
  rintro _ u25 a ⟨rfl,hb23,hS,hz⟩ hE
  refine pld (hK17 _ _ (sq fun K26 hK26=>sq fun K27 hK27=>?_))
  have J44:∀ kq42,kq42≤k11→∀(G:Nat→Value)(y40:Bool)(a:Act)(w':World),Env 52 G a→At G [(0,.slice (some ad19) x0_.length c0_0),(4,.pointer (pb b23)),(8,.slice (some ad19) x0_.length c0_0),(9,iv (x0_.length:Int)),(10,iv x8),(26,.bool y40)]→St W (mine W []) F w' F [box b23 #[iv ((nth qC.z x0_ x8).f0),iv ((nth qC.z x0_ x8).f1),iv ((nth qC.z x0_ x8).f2),iv ((nth qC.z x0_ x8).f3),iv ((nth qC.z x0_ x8).f4)] 86]→qAD.j41 kq42 x0_ x8 y40=some r→K27 a w':=by
   intro kq42 hkq G y40 a u45 hE hA hS H
   obtain _ | k43:=kq42
   ·
    exact zz H
   rw [qAD.j41_s]at H
   obtain ⟨J,hE⟩:=hE.at hA
   refine hK27 _ _ ?_
   refine hE.ib 26 H (fun c46 hE H=>?_) fun c46 hE H=>?_
   ·
    refine rr hE fun a hE=>(wp_ret (qCD (qCE (qCD (qCD (qCE (qCD ?_)))))))
    replace hS:=hS.tail
    obtain rfl:=si H
    exact rt1 hE ⟨_,rfl,_,rfl,hS⟩
   refine wp_skip (hK26 _ _ (sq fun K48 hK48=>?_))
   have J68:∀ kq66,kq66≤k43→∀(G:Nat→Value)(y64:Bool)(a:Act)(w':World),Env 52 G a→At G [(0,.slice (some ad19) x0_.length c0_0),(8,.slice (some ad19) x0_.length c0_0),(9,iv (x0_.length:Int)),(10,iv x8),(50,.bool y64)]→St W (mine W []) F w' F [box b23 #[iv ((nth qC.z x0_ x8).f0),iv ((nth qC.z x0_ x8).f1),iv ((nth qC.z x0_ x8).f2),iv ((nth qC.z x0_ x8).f3),iv ((nth qC.z x0_ x8).f4)] 86]→qAD.j65 kq66 x0_ x8 y64=some r→K48 a w':=by
    intro kq66 hkq G y64 a u69 hE hA hS H
    obtain _ | k67:=kq66
    ·
     exact zz H
    rw [qAD.j65_s]at H
    obtain ⟨J,hE⟩:=hE.at hA
    refine hK48 _ _ ?_
    refine hE.ib 50 H (fun c70 hE H=>?_) fun c70 hE H=>?_
    ·
     refine rr hE fun a hE=>(wp_ret (qCE (qCD (qCD (qCE (qCD ?_))))))
     replace hS:=hS.tail
     obtain rfl:=si H
     exact rt1 hE ⟨_,rfl,_,rfl,hS⟩
    refine wp_skip ?_
    refine qCF ?_
    refine hK16 _ _ (pl0 (plc hE (.r 0 2 .nil) (fun a hE=>pld ?_)))
    replace hS:=hS.tail
    exact qCG ⟨k67,by omega,_,(w64 (x8+1)),by omega,hE,.of,hS,H⟩
   refine pl0 ?_
   have hb23:=hS.ba 0
   refine plc hE (.r 0 1<|.b 1 1 hb23<|.nil) (fun a hE=>?_)
   obtain ⟨t50,h51,H⟩:=bd H
   refine ple hE (.cl en116 (qBM.calls ((nth qC.z x0_ x8).f1) 0 2147483647 _ _ _ hS.own.sub h51)) ?_
   rintro _ u49 a ⟨_,rfl,hC⟩ hE
   replace hS:=hS.lent hC
   refine plc hE (.r 3 2 .nil) (fun a hE=>?_)
   rcases sp H with ⟨c52,H⟩ | ⟨c52,H⟩
   ·
    replace hE:=hE.btn 31 c52
    have hb23:=hS.ba 0
    refine plc hE (.r 5 1<|.b 6 2 hb23<|.nil) (fun a hE=>?_)
    obtain ⟨t54,h55,H⟩:=bd H
    refine ple hE (.cl en116 (qBM.calls ((nth qC.z x0_ x8).f2) 0 2147483647 _ _ _ hS.own.sub h55)) ?_
    rintro _ u53 a ⟨_,rfl,hC⟩ hE
    replace hS:=hS.lent hC
    refine plc hE (.r 8 3 .nil) (fun a hE=>?_)
    rcases sp H with ⟨c56,H⟩ | ⟨c56,H⟩
    ·
     replace hE:=hE.btn 37 c56
     have hb23:=hS.ba 0
     refine plc hE (.r 11 1<|.b 12 3 hb23<|.nil) (fun a hE=>?_)
     obtain ⟨t58,h59,H⟩:=bd H
     refine ple hE (.cl en116 (qBM.calls ((nth qC.z x0_ x8).f3) 0 2147483647 _ _ _ hS.own.sub h59)) ?_
     rintro _ u57 a ⟨_,rfl,hC⟩ hE
     replace hS:=hS.lent hC
     refine plc hE (.r 14 3 .nil) (fun a hE=>?_)
     rcases sp H with ⟨c60,H⟩ | ⟨c60,H⟩
     ·
      replace hE:=hE.btn 43 c60
      have hb23:=hS.ba 0
      refine plc hE (.r 17 1<|.b 18 4 hb23<|.r 19 1<|.b 20 3 hb23<|.nil) (fun a hE=>?_)
      obtain ⟨t62,h63,H⟩:=bd H
      refine ple hE (.cl en116 (qBM.calls ((nth qC.z x0_ x8).f4) 0 ((nth qC.z x0_ x8).f3) _ _ _ hS.own.sub h63)) ?_
      rintro _ u61 a ⟨_,rfl,hC⟩ hE
      replace hS:=hS.lent hC
      refine plc hE (.r 22 2 .nil) (fun a hE=>pld ?_)
      exact J68 _ (by omega) _ (!t62) _ _ hE .of hS H
     replace hE:=hE.bfn 43 c60
     refine plc hE (.r 17 7 .nil) (fun a hE=>pld ?_)
     exact J68 _ (by omega) _ true _ _ hE .of hS H
    replace hE:=hE.bfn 37 c56
    refine plc hE (.r 11 13 .nil) (fun a hE=>pld ?_)
    exact J68 _ (by omega) _ true _ _ hE .of hS H
   replace hE:=hE.bfn 31 c52
   refine plc hE (.r 5 19 .nil) (fun a hE=>pld ?_)
   exact J68 _ (by omega) _ true _ _ hE .of hS H
  refine drawn 12 ⟨[],[],fun q=>False⟩ mixed rfl (by kernel_rfl) (fun hst=>?_)
  replace hS:=hS.drew
  have hb23:=hS.ba 0
  refine mny 10 hst hE (.r 0 1<|.b 1 0 hb23<|.nil) (fun a hE=>?_)
  obtain ⟨t29,h30,H⟩:=bd H
  refine on1 2 hE (.cl en116 (qBM.calls ((nth qC.z x0_ x8).f0) 1 999 _ _ _ hS.own.sub h30)) ?_
  rintro _ u28 a ⟨_,rfl,hC⟩ hE
  refine ⟨.of hC.agr,?_⟩
  replace hS:=hS.lent hC
  refine mny 7 hst hE (.r 3 2 .nil) (fun a hE=>?_)
  rcases sp H with ⟨c31,H⟩ | ⟨c31,H⟩
  ·
   replace hE:=hE.btn 19 c31
   obtain ⟨c32,H⟩:=gd H
   obtain ⟨A33,c34,g35,hv36⟩:=qEa (P:=Tryz.prog) g0_0 ⟨Int.le_refl _,c32.1,c32.2⟩ sz86
   have hb23:=hS.ba 0
   refine mny 2 hst hE (.r 5 2<|.y 7 (hv36 (by kernel_rfl))<|.r 8 1<|.b 9 0 hb23<|.nil) (fun a hE=>?_)
   obtain ⟨t38,h39,H⟩:=bd H
   refine on1 10 hE (.cl en105 (qBd.calls k11 (cutl x0_ 0 x8) ((nth qC.z x0_ x8).f0) _ _ _ _ _ hS.own.sub g35 h39)) ?_
   rintro _ u37 a ⟨_,rfl,hC⟩ hE
   refine ⟨.of hC.agr,?_⟩
   replace hS:=hS.lent hC
   refine mny 0 hst hE (.r 11 1 .nil) (fun a hE=>?_)
   refine dn ?_
   exact J44 _ (by omega) _ t38 _ _ hE .of hS H
  replace hE:=hE.bfn 19 c31
  refine mny 0 hst hE (.r 5 7 .nil) (fun a hE=>?_)
  refine dn ?_
  exact J44 _ (by omega) _ true _ _ hE .of hS H
 refine wp_exit ?_
 refine hK6 _ _ (rr hE fun a hE=>(wp_ret ?_))
 obtain rfl:=si H
 exact rt1 hE ⟨_,rfl,_,rfl,hS⟩
def qBS.f(k:Nat)(x0_:qJ)(x1_:Int)(x2_:List qC):Option Bool:=(qAC.f k x0_).bind fun t6=>(if t6=0 then ((qBM.f x1_ 0 (w64 (x0_.f3 - 1))).bind fun t10=>(if t10=true then ((qAD.f k x2_).bind fun t14=>(some (t14 == 0))) else (some false))) else (some false))
def qBS.Post(W F:World)(r:Bool)(v:Value)(w':World):Prop:=∃(F':World),v = .bool r∧St W (mine W []) F w' F' []
theorem qBS.calls(k:Nat)(x0_:qJ)(x1_:Int)(x2_:List qC)(A0_4:Option Addr)(c0_4:Nat)(A0_5:Option Addr)(c0_5:Nat)(A0_6:Option Addr)(c0_6:Nat)(A2_0:Option Addr)(c2_0:Nat)(r:Bool)(W F:World)(hown:Sub F W)(g0_4:Rd qA.k F A0_4 c0_4 x0_.f4)(g0_5:Rd qM.k F A0_5 c0_5 x0_.f5)(g0_6:Rd qF.k F A0_6 c0_6 x0_.f6)(g2_0:Rd qC.k F A2_0 c2_0 x2_)(H:qBS.f k x0_ x1_ x2_=some r):
    Calls Tryz.prog 103 #[.agg #[iv x0_.f0,iv x0_.f1,iv x0_.f2,iv x0_.f3,.slice A0_4 x0_.f4.length c0_4,.slice A0_5 x0_.f5.length c0_5,.slice A0_6 x0_.f6.length c0_6],iv x1_,.slice A2_0 x2_.length c2_0] W fun e w'=>∃ v,e = .returned v∧qBS.Post W F r v w':=by
 have hS:=St.start (Own.nil hown)
 unfold qBS.f at H
 refine enter (n:=22) rfl rfl rfl (Nat.le_of_ble_eq_true rfl) (fun a hE=>?_)
 refine sq fun K1 hK1=>pl0 (ple hE (.bx (t:=26) hS [iv x0_.f0,iv x0_.f1,iv x0_.f2,iv x0_.f3,.slice A0_4 x0_.f4.length c0_4,.slice A0_5 x0_.f5.length c0_5,.slice A0_6 x0_.f6.length c0_6]) ?_)
 rintro _ u3 a ⟨b2,rfl,hb2,hS,hg⟩ hE
 refine plc hE (.r 1 1 .nil) (fun a hE=>pld (hK1 _ _ (sq fun K4 hK4=>pl0 (plc hE (.bn 0 0 7 hb2 .nil) (fun a hE=>?_)))))
 obtain ⟨t6,h7,H⟩:=bd H
 refine ple hE (.cl en32 (qAC.calls k x0_ _ _ _ _ _ _ _ _ _ hS.own.sub g0_4 g0_5 g0_6 h7)) ?_
 rintro _ u5 a ⟨_,rfl,hC⟩ hE
 replace hS:=hS.lent hC
 refine plc hE (.r 2 2 .nil) (fun a hE=>?_)
 rcases sp H with ⟨c8,H⟩ | ⟨c8,H⟩
 ·
  replace hE:=hE.kt 10 c8
  have hb2:=hS.ba 0
  refine plc hE (.r 4 2<|.b 6 3 hb2<|.r 7 1<|.nil) (fun a hE=>?_)
  obtain ⟨t10,h11,H⟩:=bd H
  refine ple hE (.cl en116 (qBM.calls x1_ 0 (w64 (x0_.f3 - 1)) _ _ _ hS.own.sub h11)) ?_
  rintro _ u9 a ⟨_,rfl,hC⟩ hE
  replace hS:=hS.lent hC
  refine plc hE (.r 9 2 .nil) (fun a hE=>?_)
  rcases sp H with ⟨c12,H⟩ | ⟨c12,H⟩
  ·
   replace hE:=hE.bt 17 c12
   refine plc hE (.r 11 1 .nil) (fun a hE=>?_)
   obtain ⟨t14,h15,H⟩:=bd H
   refine ple hE (.cl en58 (qAD.calls k x2_ _ _ _ _ _ hS.own.sub g2_0 h15)) ?_
   rintro _ u13 a ⟨_,rfl,hC⟩ hE
   replace hS:=hS.lent hC
   refine plc hE (.r 13 3 .nil) (fun a hE=>pld (hK4 _ _ (wp_ret ?_)))
   replace hS:=hS.tail
   obtain rfl:=si H
   exact rt1 hE ⟨_,rfl,_,rfl,hS⟩
  replace hE:=hE.bf 17 c12
  refine plc hE (.r 11 5 .nil) (fun a hE=>pld (hK4 _ _ (wp_ret ?_)))
  replace hS:=hS.tail
  obtain rfl:=si H
  exact rt1 hE ⟨_,rfl,_,rfl,hS⟩
 replace hE:=hE.kf 10 c8
 refine plc hE (.r 4 12 .nil) (fun a hE=>pld (hK4 _ _ (wp_ret ?_)))
 replace hS:=hS.tail
 obtain rfl:=si H
 exact rt1 hE ⟨_,rfl,_,rfl,hS⟩
def qBT.j14:Nat→qJ→Int→Bool→Option (List Int)
 | 0,_,_,_=>none
 | k+1,x0_,x1_,y13=>if y13=true then (some []) else ((qBq.f k x0_ x1_).bind fun t24=>(some t24))
theorem qBT.j14_s k x0_ x1_ y13:type_of% (qBT.j14.eq_2 x0_ x1_ y13 k):=qBT.j14.eq_2 x0_ x1_ y13 k
def qBT.f(k:Nat)(x0_:qJ)(x1_:Int):Option (List Int):=(qAC.f k x0_).bind fun t7=>(if t7=0 then ((qBC.f x1_ 0 (w64 (x0_.f3 - 1))).bind fun t11=>(qBT.j14 k x0_ x1_ (!t11))) else (qBT.j14 k x0_ x1_ true))
def qBT.Post(W F:World)(r:List Int)(v:Value)(w':World):Prop:=∃(F':World)(RA0_0:Option Addr)(rc0_0:Nat),v = .slice RA0_0 r.length rc0_0∧St W (mine W []) F w' F' [row ki 3 (.slice RA0_0 r.length rc0_0) r]
theorem qBT.calls(k:Nat)(x0_:qJ)(x1_:Int)(A0_4:Option Addr)(c0_4:Nat)(A0_5:Option Addr)(c0_5:Nat)(A0_6:Option Addr)(c0_6:Nat)(r:List Int)(W F:World)(hown:Sub F W)(g0_4:Rd qA.k F A0_4 c0_4 x0_.f4)(g0_5:Rd qM.k F A0_5 c0_5 x0_.f5)(g0_6:Rd qF.k F A0_6 c0_6 x0_.f6)(H:qBT.f k x0_ x1_=some r):
    Calls Tryz.prog 22 #[.agg #[iv x0_.f0,iv x0_.f1,iv x0_.f2,iv x0_.f3,.slice A0_4 x0_.f4.length c0_4,.slice A0_5 x0_.f5.length c0_5,.slice A0_6 x0_.f6.length c0_6],iv x1_] W fun e w'=>∃ v,e = .returned v∧qBT.Post W F r v w':=by
 have hS:=St.start (Own.nil hown)
 unfold qBT.f at H
 refine enter (n:=19) rfl rfl rfl (Nat.le_of_ble_eq_true rfl) (fun a hE=>?_)
 refine sq fun K1 hK1=>pl0 (ple hE (.bx (t:=26) hS [iv x0_.f0,iv x0_.f1,iv x0_.f2,iv x0_.f3,.slice A0_4 x0_.f4.length c0_4,.slice A0_5 x0_.f5.length c0_5,.slice A0_6 x0_.f6.length c0_6]) ?_)
 rintro _ u3 a ⟨b2,rfl,hb2,hS,hg⟩ hE
 refine plc hE (.r 1 1 .nil) (fun a hE=>pld (hK1 _ _ (sq fun K4 hK4=>sq fun K5 hK5=>?_)))
 have J17:∀ kq15,kq15≤k→∀(G:Nat→Value)(y13:Bool)(a:Act)(w':World),Env 19 G a→At G [(1,iv x1_),(2,.pointer (pb b2)),(15,.bool y13)]→St W (mine W []) F w' F [box b2 #[iv x0_.f0,iv x0_.f1,iv x0_.f2,iv x0_.f3,.slice A0_4 x0_.f4.length c0_4,.slice A0_5 x0_.f5.length c0_5,.slice A0_6 x0_.f6.length c0_6] 26]→qBT.j14 kq15 x0_ x1_ y13=some r→K5 a w':=by
  intro kq15 hkq G y13 a u18 hE hA hS H
  obtain _ | k16:=kq15
  ·
   exact zz H
  rw [qBT.j14_s]at H
  obtain ⟨J,hE⟩:=hE.at hA
  refine hK5 _ _ ?_
  refine hE.ib 15 H (fun c19 hE H=>?_) fun c19 hE H=>?_
  ·
   refine rr hE fun a hE=>(wp_ret (qCD ?_))
   replace hS:=hS.nilrow ki 3
   replace hS:=hS.pm [0] 2
   obtain rfl:=si H
   exact rt1 hE ⟨_,rfl,_,_,_,rfl,hS⟩
  refine wp_skip (hK4 _ _ (sq fun K22 hK22=>pl0 ?_))
  have hb2:=hS.ba 0
  refine plc hE (.bn 0 0 7 hb2<|.r 1 1<|.nil) (fun a hE=>?_)
  obtain ⟨t24,h25,H⟩:=bd H
  refine ple hE (.cl en71 (qBq.calls k16 x0_ x1_ _ _ _ _ _ _ _ _ _ hS.own.sub g0_4 g0_5 g0_6 h25)) ?_
  rintro _ u23 a ⟨F26,A27,c28,rfl,hC⟩ hE
  have hs:=hC.sub
  replace hS:=hS.called (X:=[]) hC
  replace g0_4:=g0_4.mono hs
  replace g0_5:=g0_5.mono hs
  replace g0_6:=g0_6.mono hs
  refine plc hE (.r 3 1 .nil) (fun a hE=>pld (hK22 _ _ (wp_ret ?_)))
  replace hS:=hS.pm [0] 2
  obtain rfl:=si H
  exact rt1 hE ⟨_,rfl,_,_,_,rfl,hS⟩
 refine pl0 (plc hE (.bn 0 0 7 hb2 .nil) (fun a hE=>?_))
 obtain ⟨t7,h8,H⟩:=bd H
 refine ple hE (.cl en32 (qAC.calls k x0_ _ _ _ _ _ _ _ _ _ hS.own.sub g0_4 g0_5 g0_6 h8)) ?_
 rintro _ u6 a ⟨_,rfl,hC⟩ hE
 replace hS:=hS.lent hC
 refine plc hE (.r 2 2 .nil) (fun a hE=>?_)
 rcases sp H with ⟨c9,H⟩ | ⟨c9,H⟩
 ·
  replace hE:=hE.ktn 8 c9
  have hb2:=hS.ba 0
  refine plc hE (.r 4 2<|.b 6 3 hb2<|.r 7 1<|.nil) (fun a hE=>?_)
  obtain ⟨t11,h12,H⟩:=bd H
  refine ple hE (.cl en70 (qBC.calls x1_ 0 (w64 (x0_.f3 - 1)) _ _ _ hS.own.sub h12)) ?_
  rintro _ u10 a ⟨_,rfl,hC⟩ hE
  replace hS:=hS.lent hC
  refine plc hE (.r 9 2 .nil) (fun a hE=>pld ?_)
  exact J17 _ (by omega) _ (!t11) _ _ hE .of hS H
 replace hE:=hE.kfn 8 c9
 refine plc hE (.r 4 7 .nil) (fun a hE=>pld ?_)
 exact J17 _ (by omega) _ true _ _ hE .of hS H
def qBj.f(k:Nat)(x0_:qJ)(x1_:Int):Option (List Int):=(qBT.f k x0_ x1_).bind fun t6=>((qBs.f k x0_ t6).bind fun t14=>(some t14))
def qBj.Post(W F:World)(r:List Int)(v:Value)(w':World):Prop:=∃(F':World)(RA0_0:Option Addr)(rc0_0:Nat),v = .slice RA0_0 r.length rc0_0∧St W (mine W []) F w' F' [row ki 3 (.slice RA0_0 r.length rc0_0) r]
theorem qBj.calls(k:Nat)(x0_:qJ)(x1_:Int)(A0_4:Option Addr)(c0_4:Nat)(A0_5:Option Addr)(c0_5:Nat)(A0_6:Option Addr)(c0_6:Nat)(r:List Int)(W F:World)(hown:Sub F W)(g0_4:Rd qA.k F A0_4 c0_4 x0_.f4)(g0_5:Rd qM.k F A0_5 c0_5 x0_.f5)(g0_6:Rd qF.k F A0_6 c0_6 x0_.f6)(H:qBj.f k x0_ x1_=some r):
    Calls Tryz.prog 24 #[.agg #[iv x0_.f0,iv x0_.f1,iv x0_.f2,iv x0_.f3,.slice A0_4 x0_.f4.length c0_4,.slice A0_5 x0_.f5.length c0_5,.slice A0_6 x0_.f6.length c0_6],iv x1_] W fun e w'=>∃ v,e = .returned v∧qBj.Post W F r v w':=by
 have hS:=St.start (Own.nil hown)
 unfold qBj.f at H
 refine enter (n:=10) rfl rfl rfl (Nat.le_of_ble_eq_true rfl) (fun a hE=>?_)
 refine sq fun K1 hK1=>pl0 (ple hE (.bx (t:=26) hS [iv x0_.f0,iv x0_.f1,iv x0_.f2,iv x0_.f3,.slice A0_4 x0_.f4.length c0_4,.slice A0_5 x0_.f5.length c0_5,.slice A0_6 x0_.f6.length c0_6]) ?_)
 rintro _ u3 a ⟨b2,rfl,hb2,hS,hg⟩ hE
 refine plc hE (.r 1 1 .nil) (fun a hE=>pld (hK1 _ _ (sq fun K4 hK4=>?_)))
 refine drawn 6 ⟨[4],[],fun q=>False⟩ mixed rfl (by kernel_rfl) (fun hst=>?_)
 replace hS:=hS.drew
 have hb2:=hS.ba 0
 refine mny 3 hst hE (.bn 0 0 7 hb2<|.bn 1 0 7 hb2<|.r 2 1<|.nil) (fun a hE=>?_)
 obtain ⟨t6,h7,H⟩:=bd H
 refine on1 3 hE (.cl en22 (qBT.calls k x0_ x1_ _ _ _ _ _ _ _ _ _ hS.own.sub g0_4 g0_5 g0_6 h7)) ?_
 rintro _ u5 a ⟨F8,A9,c10,rfl,hC⟩ hE
 refine ⟨.of hC.agr,?_⟩
 have hs:=hC.sub
 replace hS:=hS.called (X:=[]) hC
 replace g0_4:=g0_4.mono hs
 replace g0_5:=g0_5.mono hs
 replace g0_6:=g0_6.mono hs
 obtain ⟨t14,h15,H⟩:=bd H
 refine on1 4 hE (.cl en74 (qBs.calls k x0_ t6 _ _ _ _ _ _ _ _ _ _ _ (Own.left (X:=[row ki 3 (.slice A9 t6.length c10) t6]) hS.own) g0_4 g0_5 g0_6 h15)) ?_
 rintro _ u13 a ⟨F16,A17,c18,rfl,hC⟩ hE
 refine ⟨.d,?_⟩
 have hs:=hC.sub
 replace hS:=hS.called (X:=[row ki 3 (.slice A9 t6.length c10) t6]) hC
 replace g0_4:=g0_4.mono hs
 replace g0_5:=g0_5.mono hs
 replace g0_6:=g0_6.mono hs
 refine mny 0 hst hE (.r 5 1 .nil) (fun a hE=>?_)
 refine dn ?_
 refine hK4 _ _ (wp_ret ?_)
 replace hS:=hS.pm [0] 2
 obtain rfl:=si H
 exact rt1 hE ⟨_,rfl,_,_,_,rfl,hS⟩
def qAu.f(k:Nat)(x0_:Int)(xf0_:List qC):Option Bool:=(qBd.f k xf0_ x0_).bind fun t4=>(some t4)
def qAu.Post(W F:World)(r:Bool)(v:Value)(w':World):Prop:=∃(F':World),v = .bool r∧St W (mine W []) F w' F' []
theorem qAu.calls(k:Nat)(x0_:Int)(xf0_:List qC)(pf0_:Nat)(Af0_0:Option Addr)(cf0_0:Nat)(r:Bool)(W F:World)(hown:Sub F W)(gf0_0:Rd qC.k F Af0_0 cf0_0 xf0_)(hpf0_:F.heap[pf0_]? = some (.cells #[.slice Af0_0 xf0_.length cf0_0] 72 (0,0)))(H:qAu.f k x0_ xf0_=some r):
    Calls Tryz.prog 104 #[iv x0_,.pointer (pb pf0_)] W fun e w'=>∃ v,e = .returned v∧qAu.Post W F r v w':=by
 have hS:=St.start (Own.nil hown)
 unfold qAu.f at H
 refine enter (n:=7) rfl rfl rfl (Nat.le_of_ble_eq_true rfl) (fun a hE=>?_)
 refine rr hE fun a hE=>(sq fun K2 hK2=>pl0 (plc hE (.b 0 0 (hS.own.sub _ _ _ _ hpf0_)<|.r 1 1<|.nil) (fun a hE=>?_)))
 obtain ⟨t4,h5,H⟩:=bd H
 refine ple hE (.cl en105 (qBd.calls k xf0_ x0_ _ _ _ _ _ hS.own.sub gf0_0 h5)) ?_
 rintro _ u3 a ⟨_,rfl,hC⟩ hE
 replace hS:=hS.lent hC
 refine plc hE (.r 3 1 .nil) (fun a hE=>pld (hK2 _ _ (wp_ret ?_)))
 obtain rfl:=si H
 exact rt1 hE ⟨_,rfl,_,rfl,hS⟩
def qAv.f(k:Nat)(x0_:Int)(xf0n0_:List qC):Option Bool:=(qAu.f k x0_ xf0n0_).bind fun t4=>(some (!t4))
def qAv.Post(W F:World)(r:Bool)(v:Value)(w':World):Prop:=∃(F':World),v = .bool r∧St W (mine W []) F w' F' []
theorem qAv.calls(k:Nat)(x0_:Int)(xf0n0_:List qC)(pf0_:Nat)(pf0n0_:Nat)(Af0n0_0:Option Addr)(cf0n0_0:Nat)(r:Bool)(W F:World)(hown:Sub F W)(gf0n0_0:Rd qC.k F Af0n0_0 cf0n0_0 xf0n0_)(hpf0n0_:F.heap[pf0n0_]? = some (.cells #[.slice Af0n0_0 xf0n0_.length cf0n0_0] 72 (0,0)))(hpf0_:F.heap[pf0_]? = some (.cells #[.func (.func 104) #[] #[.pointer (pb pf0n0_)]] 129 (0,0)))(H:qAv.f k x0_ xf0n0_=some r):
    Calls Tryz.prog 106 #[iv x0_,.pointer (pb pf0_)] W fun e w'=>∃ v,e = .returned v∧qAv.Post W F r v w':=by
 have hS:=St.start (Own.nil hown)
 unfold qAv.f at H
 refine enter (n:=8) rfl rfl rfl (Nat.le_of_ble_eq_true rfl) (fun a hE=>?_)
 refine rr hE fun a hE=>(sq fun K2 hK2=>pl0 (plc hE (.b 0 0 (hS.own.sub _ _ _ _ hpf0_)<|.r 1 1<|.nil) (fun a hE=>?_)))
 obtain ⟨t4,h5,H⟩:=bd H
 refine ple hE (.cl en104 (qAu.calls k x0_ xf0n0_ _ _ _ _ _ _ hS.own.sub gf0n0_0 hpf0n0_ h5)) ?_
 rintro _ u3 a ⟨_,rfl,hC⟩ hE
 replace hS:=hS.lent hC
 refine plc hE (.r 3 2 .nil) (fun a hE=>pld (hK2 _ _ (wp_ret ?_)))
 obtain rfl:=si H
 exact rt1 hE ⟨_,rfl,_,rfl,hS⟩
def qb.l5:Nat→List Int→List qC→Int→Option Int
 | 0,_,_,_=>none
 | k+1,x0_,x1c0n0_,x4=>if x4<(x0_.length:Int) then (if 0≤x4∧x4<(x0_.length:Int) then ((qAv.f k (nth 0 x0_ x4) x1c0n0_).bind fun t21=>(if t21=true then (some x4) else (qb.l5 k x0_ x1c0n0_ (w64 (x4+1))))) else (none)) else (some (-1))
theorem qb.l5_s k x0_ x1c0n0_ x4:type_of% (qb.l5.eq_2 x0_ x1c0n0_ x4 k):=qb.l5.eq_2 x0_ x1c0n0_ x4 k
def qb.f(k:Nat)(x0_:List Int)(x1c0n0_:List qC):Option Int:=qb.l5 k x0_ x1c0n0_ 0
def qb.Post(W F:World)(r:Int)(v:Value)(w':World):Prop:=∃(F':World),v=iv r∧St W (mine W []) F w' F' []
theorem qb.calls(k:Nat)(x0_:List Int)(x1c0n0_:List qC)(A0_0:Option Addr)(c0_0:Nat)(p1c0_:Nat)(p1c0n0_:Nat)(A1c0n0_0:Option Addr)(c1c0n0_0:Nat)(r:Int)(W F:World)(hown:Sub F W)(g0_0:Rd ki F A0_0 c0_0 x0_)(g1c0n0_0:Rd qC.k F A1c0n0_0 c1c0n0_0 x1c0n0_)(hp1c0n0_:F.heap[p1c0n0_]? = some (.cells #[.slice A1c0n0_0 x1c0n0_.length c1c0n0_0] 72 (0,0)))(hp1c0_:F.heap[p1c0_]? = some (.cells #[.func (.func 104) #[] #[.pointer (pb p1c0n0_)]] 129 (0,0)))(H:qb.f k x0_ x1c0n0_=some r):
    Calls Tryz.prog 157 #[.slice A0_0 x0_.length c0_0,.func (.func 106) #[] #[.pointer (pb p1c0_)]] W fun e w'=>∃ v,e = .returned v∧qb.Post W F r v w':=by
 have hS:=St.start (Own.nil hown)
 unfold qb.f at H
 refine enter (n:=19) rfl rfl rfl (Nat.le_of_ble_eq_true rfl) (fun a hE=>?_)
 refine rr hE fun a hE=>(sq fun K2 hK2=>rr hE fun a hE=>(wp_block ?_))
 refine wp_loop_ghost (fun kq6 a w'=>∃(G:Nat→Value)(x4:Int),kq6≤k∧Env 19 G a∧At G [(0,.slice A0_0 x0_.length c0_0),(1,.func (.func 106) #[] #[.pointer (pb p1c0_)]),(7,iv (x0_.length:Int)),(8,iv x4)]∧St W (mine W []) F w' F []∧qb.l5 kq6 x0_ x1c0n0_ x4=some r) k ⟨_,0,Nat.le_refl _,hE,.of,hS,H⟩ ?_
 rintro kq6 a u8 ⟨G,x4,hkq,hE,hA,hS,H⟩
 obtain _ | k7:=kq6
 ·
  exact zz H
 rw [qb.l5_s]at H
 obtain ⟨J,hE⟩:=hE.at hA
 refine rr hE fun a hE=>(sq fun K10 hK10=>?_)
 refine hE.ik 9 H (fun c11 hE H=>?_) fun c11 hE H=>?_
 ·
  refine wp_skip (hK10 _ _ (sq fun K12 hK12=>wp_block (rr hE fun a hE=>(sq fun K14 hK14=>pl0 ?_))))
  obtain ⟨c15,H⟩:=gd H
  have hE_:=hE
  obtain ⟨ad16,rfl⟩:=g0_0.addr c15.1 c15.2
  replace hE:=hE_
  obtain ⟨cs18,rfl,hc19⟩:=g0_0.el 0 x4 c15.1 c15.2
  refine plc hE (.r 0 3<|.x 3 c15<|.c 4 (hS.fc hc19 0)<|.nil) (fun a hE=>?_)
  obtain ⟨t21,h22,H⟩:=bd H
  refine ple hE (.cl en106 (qAv.calls k7 (nth 0 x0_ x4) x1c0n0_ _ _ _ _ _ _ _ hS.own.sub g1c0n0_0 hp1c0n0_ hp1c0_ h22)) ?_
  rintro _ u20 a ⟨_,rfl,hC⟩ hE
  replace hS:=hS.lent hC
  refine pld (hK14 _ _ ?_)
  refine hE.ib 16 H (fun c23 hE H=>?_) fun c23 hE H=>?_
  ·
   refine rr hE fun a hE=>(wp_ret (qCE (qCD (qCD (qCE (qCD ?_))))))
   obtain rfl:=si H
   exact rt1 hE ⟨_,rfl,_,rfl,hS⟩
  refine wp_skip ?_
  refine qCF ?_
  refine hK12 _ _ (pl0 (plc hE (.r 0 2 .nil) (fun a hE=>pld ?_)))
  exact qCG ⟨k7,by omega,_,(w64 (x4+1)),by omega,hE,.of,hS,H⟩
 refine wp_exit ?_
 refine hK2 _ _ (rr hE fun a hE=>(wp_ret ?_))
 obtain rfl:=si H
 exact rt1 hE ⟨_,rfl,_,rfl,hS⟩
def qw.f(k:Nat)(x0_:List Int)(x1c0n0_:List qC):Option Bool:=(qb.f k x0_ x1c0n0_).bind fun t4=>(some (decide (t4≥0)))
def qw.Post(W F:World)(r:Bool)(v:Value)(w':World):Prop:=∃(F':World),v = .bool r∧St W (mine W []) F w' F' []
theorem qw.calls(k:Nat)(x0_:List Int)(x1c0n0_:List qC)(A0_0:Option Addr)(c0_0:Nat)(p1c0_:Nat)(p1c0n0_:Nat)(A1c0n0_0:Option Addr)(c1c0n0_0:Nat)(r:Bool)(W F:World)(hown:Sub F W)(g0_0:Rd ki F A0_0 c0_0 x0_)(g1c0n0_0:Rd qC.k F A1c0n0_0 c1c0n0_0 x1c0n0_)(hp1c0n0_:F.heap[p1c0n0_]? = some (.cells #[.slice A1c0n0_0 x1c0n0_.length c1c0n0_0] 72 (0,0)))(hp1c0_:F.heap[p1c0_]? = some (.cells #[.func (.func 104) #[] #[.pointer (pb p1c0n0_)]] 129 (0,0)))(H:qw.f k x0_ x1c0n0_=some r):
    Calls Tryz.prog 107 #[.slice A0_0 x0_.length c0_0,.func (.func 106) #[] #[.pointer (pb p1c0_)]] W fun e w'=>∃ v,e = .returned v∧qw.Post W F r v w':=by
 have hS:=St.start (Own.nil hown)
 unfold qw.f at H
 refine enter (n:=9) rfl rfl rfl (Nat.le_of_ble_eq_true rfl) (fun a hE=>?_)
 refine rr hE fun a hE=>(sq fun K2 hK2=>pl0 (plc hE (.r 0 2 .nil) (fun a hE=>?_)))
 obtain ⟨t4,h5,H⟩:=bd H
 refine ple hE (.cl en157 (qb.calls k x0_ x1c0n0_ _ _ _ _ _ _ _ _ _ hS.own.sub g0_0 g1c0n0_0 hp1c0n0_ hp1c0_ h5)) ?_
 rintro _ u3 a ⟨_,rfl,hC⟩ hE
 replace hS:=hS.lent hC
 refine plc hE (.r 3 2 .nil) (fun a hE=>pld (hK2 _ _ (wp_ret ?_)))
 obtain rfl:=si H
 exact rt1 hE ⟨_,rfl,_,rfl,hS⟩
def qBG.l6:Nat→List Int→Int→Option Int
 | 0,_,_=>none
 | k+1,x0_,x5=>if x5<(x0_.length:Int) then (if 0≤x5∧x5<(x0_.length:Int) then (if (nth 0 x0_ x5)=0 then (qBG.l6 k x0_ (w64 (x5+1))) else (some (nth 0 x0_ x5))) else (none)) else (some 0)
theorem qBG.l6_s k x0_ x5:type_of% (qBG.l6.eq_2 x0_ x5 k):=qBG.l6.eq_2 x0_ x5 k
def qBG.f(k:Nat)(x0_:List Int):Option Int:=qBG.l6 k x0_ 0
def qBG.Post(W F:World)(r:Int)(v:Value)(w':World):Prop:=∃(F':World),v=iv r∧St W (mine W []) F w' F' []
theorem qBG.calls(k:Nat)(x0_:List Int)(A0_0:Option Addr)(c0_0:Nat)(r:Int)(W F:World)(hown:Sub F W)(g0_0:Rd ki F A0_0 c0_0 x0_)(H:qBG.f k x0_=some r):
    Calls Tryz.prog 160 #[.slice A0_0 x0_.length c0_0] W fun e w'=>∃ v,e = .returned v∧qBG.Post W F r v w':=by
 have hS:=St.start (Own.nil hown)
 unfold qBG.f at H
 refine enter (n:=18) rfl rfl rfl (Nat.le_of_ble_eq_true rfl) (fun a hE=>?_)
 refine rr hE fun a hE=>(rr hE fun a hE=>(sq fun K3 hK3=>rr hE fun a hE=>(wp_block ?_)))
 refine wp_loop_ghost (fun kq7 a w'=>∃(G:Nat→Value)(x5:Int),kq7≤k∧Env 18 G a∧At G [(3,iv 0),(6,.slice A0_0 x0_.length c0_0),(7,iv (x0_.length:Int)),(8,iv x5)]∧St W (mine W []) F w' F []∧qBG.l6 kq7 x0_ x5=some r) k ⟨_,0,Nat.le_refl _,hE,.of,hS,H⟩ ?_
 rintro kq7 a u9 ⟨G,x5,hkq,hE,hA,hS,H⟩
 obtain _ | k8:=kq7
 ·
  exact zz H
 rw [qBG.l6_s]at H
 obtain ⟨J,hE⟩:=hE.at hA
 refine rr hE fun a hE=>(sq fun K11 hK11=>?_)
 refine hE.ik 9 H (fun c12 hE H=>?_) fun c12 hE H=>?_
 ·
  refine wp_skip (hK11 _ _ (sq fun K13 hK13=>wp_block (sq fun K14 hK14=>pl0 ?_)))
  obtain ⟨c15,H⟩:=gd H
  have hE_:=hE
  obtain ⟨ad16,rfl⟩:=g0_0.addr c15.1 c15.2
  replace hE:=hE_
  obtain ⟨cs18,rfl,hc19⟩:=g0_0.el 0 x5 c15.1 c15.2
  refine plc hE (.x 0 c15<|.c 1 (hS.fc hc19 0)<|.r 2 1<|.nil) (fun a hE=>pld (hK14 _ _ (rr hE fun a hE=>?_)))
  refine hE.ikn 14 H (fun c21 hE H=>?_) fun c21 hE H=>?_
  ·
   refine wp_skip ?_
   refine qCF ?_
   refine hK13 _ _ (pl0 (plc hE (.r 0 2 .nil) (fun a hE=>pld ?_)))
   exact qCG ⟨k8,by omega,_,(w64 (x5+1)),by omega,hE,.of,hS,H⟩
  refine rr hE fun a hE=>(wp_ret (qCE (qCD (qCD (qCE (qCD ?_))))))
  obtain rfl:=si H
  exact rt1 hE ⟨_,rfl,_,rfl,hS⟩
 refine wp_exit ?_
 refine hK3 _ _ (rr hE fun a hE=>(wp_ret ?_))
 obtain rfl:=si H
 exact rt1 hE ⟨_,rfl,_,rfl,hS⟩
def qBQ.f(k:Nat)(x0_:qC)(x1_:qC):Option Int:=(qAP.f x1_.f1 x0_.f1).bind fun t8=>((qAP.f x1_.f2 x0_.f2).bind fun t11=>((qAP.f x1_.f3 x0_.f3).bind fun t14=>((qAP.f x0_.f0 x1_.f0).bind fun t17=>((qBG.f k [t8,t11,t14,t17]).bind fun t24=>(some t24)))))
def qBQ.Post(W F:World)(r:Int)(v:Value)(w':World):Prop:=∃(F':World),v=iv r∧St W (mine W []) F w' F' []
theorem qBQ.calls(k:Nat)(x0_:qC)(x1_:qC)(r:Int)(W F:World)(hown:Sub F W)(H:qBQ.f k x0_ x1_=some r):
    Calls Tryz.prog 115 #[.agg #[iv x0_.f0,iv x0_.f1,iv x0_.f2,iv x0_.f3,iv x0_.f4],.agg #[iv x1_.f0,iv x1_.f1,iv x1_.f2,iv x1_.f3,iv x1_.f4]] W fun e w'=>∃ v,e = .returned v∧qBQ.Post W F r v w':=by
 have hS:=St.start (Own.nil hown)
 unfold qBQ.f at H
 refine enter (n:=27) rfl rfl rfl (Nat.le_of_ble_eq_true rfl) (fun a hE=>?_)
 refine sq fun K1 hK1=>pl0 (ple hE (.bx (t:=86) hS [iv x0_.f0,iv x0_.f1,iv x0_.f2,iv x0_.f3,iv x0_.f4]) ?_)
 rintro _ u3 a ⟨b2,rfl,hb2,hS,hg⟩ hE
 refine ple hE (.bx (t:=86) hS [iv x1_.f0,iv x1_.f1,iv x1_.f2,iv x1_.f3,iv x1_.f4]) ?_
 rintro _ u5 a ⟨b4,rfl,hb4,hS,hg⟩ hE
 refine plc hE (.r 2 1 .nil) (fun a hE=>pld (hK1 _ _ (sq fun K6 hK6=>?_)))
 refine drawn 23 ⟨[],[],fun q=>False⟩ mixed rfl (by kernel_rfl) (fun hst=>?_)
 replace hS:=hS.drew
 have hb4:=hS.ba 0
 have hb2:=hS.ba 1
 refine mny 7 hst hE (.r 0 1<|.b 1 1 hb4<|.r 2 1<|.b 3 1 hb2<|.r 5 1<|.b 6 2 hb4<|.r 7 1<|.b 8 2 hb2<|.r 10 1<|.b 11 3 hb4<|.r 12 1<|.b 13 3 hb2<|.r 15 1<|.b 16 0 hb2<|.r 17 1<|.b 18 0 hb4<|.nil) (fun a hE=>?_)
 obtain ⟨t8,h9,H⟩:=bd H
 refine on1 4 hE (.cl en161 (qAP.calls x1_.f1 x0_.f1 _ _ _ hS.own.sub h9)) ?_
 rintro _ u7 a ⟨_,rfl,hC⟩ hE
 refine ⟨.of hC.agr,?_⟩
 replace hS:=hS.lent hC
 obtain ⟨t11,h12,H⟩:=bd H
 refine on1 9 hE (.cl en161 (qAP.calls x1_.f2 x0_.f2 _ _ _ hS.own.sub h12)) ?_
 rintro _ u10 a ⟨_,rfl,hC⟩ hE
 refine ⟨.of hC.agr,?_⟩
 replace hS:=hS.lent hC
 obtain ⟨t14,h15,H⟩:=bd H
 refine on1 14 hE (.cl en161 (qAP.calls x1_.f3 x0_.f3 _ _ _ hS.own.sub h15)) ?_
 rintro _ u13 a ⟨_,rfl,hC⟩ hE
 refine ⟨.of hC.agr,?_⟩
 replace hS:=hS.lent hC
 obtain ⟨t17,h18,H⟩:=bd H
 refine on1 19 hE (.cl en161 (qAP.calls x0_.f0 x1_.f0 _ _ _ hS.own.sub h18)) ?_
 rintro _ u16 a ⟨_,rfl,hC⟩ hE
 refine ⟨.of hC.agr,?_⟩
 replace hS:=hS.lent hC
 refine on1 20 hE (.lit (d:=ki) (e:=3) hS [t8,t11,t14,t17] (.cons rfl<|.cons rfl<|.cons rfl<|.cons rfl .nil)) ?_
 rintro _ u19 a ⟨A20,c21,rfl,hS,hg⟩ hE
 refine ⟨.of hg,?_⟩
 obtain ⟨t24,h25,H⟩:=bd H
 refine on1 21 hE (.cl en160 (qBG.calls k [t8,t11,t14,t17] _ _ _ _ _ (Sub.refl _) (hS.rd_at (i:=0) rfl) h25)) ?_
 rintro _ u23 a ⟨_,rfl,hC⟩ hE
 refine ⟨.of hC.agr,?_⟩
 replace hS:=hS.lent hC
 refine mny 0 hst hE (.r 22 1 .nil) (fun a hE=>?_)
 refine dn ?_
 refine hK6 _ _ (wp_ret ?_)
 replace hS:=hS.pm [] 3
 obtain rfl:=si H
 exact rt1 hE ⟨_,rfl,_,rfl,hS⟩
def qR.l24:Nat→List qC→Int→Int→Int→Int→Int→Int→Option qC
 | 0,_,_,_,_,_,_,_=>none
 | k+1,x0_,x18,x19,x20,x21,x22,x23=>if x18<(x0_.length:Int) then (if 0≤x18∧x18<(x0_.length:Int) then ((qBQ.f k (⟨(nth qC.z x0_ x18).f0,(nth qC.z x0_ x18).f1,(nth qC.z x0_ x18).f2,(nth qC.z x0_ x18).f3,(nth qC.z x0_ x18).f4⟩:qC) (⟨x19,x20,x21,x22,x23⟩:qC)).bind fun t38=>(if t38<0 then (qR.l24 k x0_ (w64 (x18+1)) ((nth qC.z x0_ x18).f0) ((nth qC.z x0_ x18).f1) ((nth qC.z x0_ x18).f2) ((nth qC.z x0_ x18).f3) ((nth qC.z x0_ x18).f4)) else (qR.l24 k x0_ (w64 (x18+1)) x19 x20 x21 x22 x23))) else (none)) else (some (⟨x19,x20,x21,x22,x23⟩:qC))
theorem qR.l24_s k x0_ x18 x19 x20 x21 x22 x23:type_of% (qR.l24.eq_2 x0_ x18 x19 x20 x21 x22 x23 k):=qR.l24.eq_2 x0_ x18 x19 x20 x21 x22 x23 k
def qR.f(k:Nat)(x0_:List qC):Option qC:=if (x0_.length:Int)<1 then (none) else (if 0≤(0:Int)∧0<(x0_.length:Int) then (qR.l24 k x0_ 1 ((nth qC.z x0_ 0).f0) ((nth qC.z x0_ 0).f1) ((nth qC.z x0_ 0).f2) ((nth qC.z x0_ 0).f3) ((nth qC.z x0_ 0).f4)) else (none))
def qR.Post(W F:World)(r:qC)(v:Value)(w':World):Prop:=∃(F':World),v = .agg #[iv r.f0,iv r.f1,iv r.f2,iv r.f3,iv r.f4]∧St W (mine W []) F w' F' []
theorem qR.calls(k:Nat)(x0_:List qC)(A0_0:Option Addr)(c0_0:Nat)(r:qC)(W F:World)(hown:Sub F W)(g0_0:Rd qC.k F A0_0 c0_0 x0_)(H:qR.f k x0_=some r):
    Calls Tryz.prog 114 #[.slice A0_0 x0_.length c0_0,.func (.func 115) #[] #[]] W fun e w'=>∃ v,e = .returned v∧qR.Post W F r v w':=by
 have hS:=St.start (Own.nil hown)
 unfold qR.f at H
 refine enter (n:=33) rfl rfl rfl (Nat.le_of_ble_eq_true rfl) (fun a hE=>?_)
 refine sq fun K1 hK1=>pl0 (ple hE (.al (t:=86) hS [iv 0,iv 0,iv 0,iv 0,iv 0]) ?_)
 rintro _ u3 a ⟨b2,rfl,hb2,hS,hg⟩ hE
 refine pld (hK1 _ _ (sq fun K4 hK4=>rr hE fun a hE=>?_))
 refine hE.ik 9 H (fun c6 hE H=>?_) fun c6 hE H=>?_
 ·
  cases (show none=some r from H)
 refine wp_skip (hK4 _ _ (sq fun K7 hK7=>pl0 ?_))
 obtain ⟨c8,H⟩:=gd H
 have hE_:=hE
 obtain ⟨ad9,rfl⟩:=g0_0.addr c8.1 c8.2
 replace hE:=hE_
 obtain ⟨cs11,rfl,hc12⟩:=g0_0.el qC.z 0 c8.1 c8.2
 refine plc hE (.r 0 1<|.x 1 c8<|.cs 2 (hS.fcs hc12)<|.nil) (fun a hE=>ple hE (.al (t:=86) hS [iv 0,iv 0,iv 0,iv 0,iv 0]) ?_)
 rintro _ u14 a ⟨b13,rfl,hb13,hS,hg⟩ hE
 refine ple hE (.sto hS [iv ((nth qC.z x0_ 0).f0),iv ((nth qC.z x0_ 0).f1),iv ((nth qC.z x0_ 0).f2),iv ((nth qC.z x0_ 0).f3),iv ((nth qC.z x0_ 0).f4)]) ?_
 rintro _ u15 a ⟨rfl,hb13,hS,hz⟩ hE
 refine pld (hK7 _ _ (sq fun K16 hK16=>rr hE fun a hE=>(wp_block ?_)))
 refine wp_loop_ghost (fun kq25 a w'=>∃(G:Nat→Value)(x18:Int)(x19:Int)(x20:Int)(x21:Int)(x22:Int)(x23:Int),kq25≤k∧Env 33 G a∧At G [(0,.slice (some ad9) x0_.length c0_0),(1,.func (.func 115) #[] #[]),(4,.pointer (pb b2)),(5,.pointer (pb b13)),(6,iv x18)]∧St W (mine W []) F w' F [box b13 #[iv x19,iv x20,iv x21,iv x22,iv x23] 86,box b2 #[iv 0,iv 0,iv 0,iv 0,iv 0] 86]∧qR.l24 kq25 x0_ x18 x19 x20 x21 x22 x23=some r) k ⟨_,1,(nth qC.z x0_ 0).f0,(nth qC.z x0_ 0).f1,(nth qC.z x0_ 0).f2,(nth qC.z x0_ 0).f3,(nth qC.z x0_ 0).f4,Nat.le_refl _,hE,.of,hS,H⟩ ?_
 rintro kq25 a u27 ⟨G,x18,x19,x20,x21,x22,x23,hkq,hE,hA,hS,H⟩
 obtain _ | k26:=kq25
 ·
  exact zz H
 rw [qR.l24_s]at H
 obtain ⟨J,hE⟩:=hE.at hA
 refine sq fun K28 hK28=>rr hE fun a hE=>?_
 refine hE.ik 17 H (fun c30 hE H=>?_) fun c30 hE H=>?_
 ·
  refine wp_skip (hK28 _ _ (sq fun K31 hK31=>wp_block (sq fun K32 hK32=>?_)))
  refine drawn 8 ⟨[],[],fun q=>False⟩ mixed rfl (by kernel_rfl) (fun hst=>?_)
  replace hS:=hS.drew
  obtain ⟨c33,H⟩:=gd H
  obtain ⟨cs35,rfl,hc36⟩:=g0_0.el qC.z x18 c33.1 c33.2
  have hb13:=hS.ba 0
  refine mny 2 hst hE (.r 0 3<|.x 3 c33<|.cs 4 (hS.fcs hc36)<|.bn 5 0 5 hb13<|.nil) (fun a hE=>?_)
  obtain ⟨t38,h39,H⟩:=bd H
  refine on1 6 hE (.cl en115 (qBQ.calls k26 (⟨(nth qC.z x0_ x18).f0,(nth qC.z x0_ x18).f1,(nth qC.z x0_ x18).f2,(nth qC.z x0_ x18).f3,(nth qC.z x0_ x18).f4⟩:qC) (⟨x19,x20,x21,x22,x23⟩:qC) _ _ _ hS.own.sub h39)) ?_
  rintro _ u37 a ⟨_,rfl,hC⟩ hE
  refine ⟨.of hC.agr,?_⟩
  replace hS:=hS.lent hC
  refine mny 0 hst hE (.r 7 1 .nil) (fun a hE=>?_)
  refine dn ?_
  refine hK32 _ _ ?_
  refine hE.ik 27 H (fun c40 hE H=>?_) fun c40 hE H=>?_
  ·
   refine pl0 (plc hE (.r 0 2<|.x 2 c33<|.cs 3 (hS.fcs hc36)<|.nil) (fun a hE=>ple hE (.sto hS [iv ((nth qC.z x0_ x18).f0),iv ((nth qC.z x0_ x18).f1),iv ((nth qC.z x0_ x18).f2),iv ((nth qC.z x0_ x18).f3),iv ((nth qC.z x0_ x18).f4)]) ?_))
   rintro _ u44 a ⟨rfl,hb13,hS,hz⟩ hE
   refine pld ?_
   refine qCF ?_
   refine hK31 _ _ (pl0 (plc hE (.r 0 3 .nil) (fun a hE=>pld ?_)))
   exact qCG ⟨k26,by omega,_,(w64 (x18+1)),(nth qC.z x0_ x18).f0,(nth qC.z x0_ x18).f1,(nth qC.z x0_ x18).f2,(nth qC.z x0_ x18).f3,(nth qC.z x0_ x18).f4,by omega,hE,.of,hS,H⟩
  refine wp_skip ?_
  refine qCF ?_
  refine hK31 _ _ (pl0 (plc hE (.r 0 3 .nil) (fun a hE=>pld ?_)))
  exact qCG ⟨k26,by omega,_,(w64 (x18+1)),x19,x20,x21,x22,x23,by omega,hE,.of,hS,H⟩
 refine wp_exit ?_
 refine hK16 _ _ (sq fun K45 hK45=>pl0 ?_)
 have hb13:=hS.ba 0
 refine plc hE (.bn 0 0 5 hb13 .nil) (fun a hE=>?_)
 replace hS:=hS.front 1 rfl
 refine ple hE (.sto hS [iv x19,iv x20,iv x21,iv x22,iv x23]) ?_
 rintro _ u46 a ⟨rfl,hb2,hS,hz⟩ hE
 refine pld (hK45 _ _ (wp_ret ?_))
 replace hS:=hS.pm [] 2
 obtain rfl:=si H
 exact ret1 hE rfl (.cell (by kernel_rfl) (qCJ [iv x19,iv x20,iv x21,iv x22,iv x23] ag86 sz86 hb2 rfl) .nil) ⟨_,rfl,_,rfl,hS⟩
def qAq.j11:Nat→List qC→Bool→Option (qC × Bool)
 | 0,_,_=>none
 | k+1,x0_,y10=>if y10=true then (some ((⟨0,0,0,0,0⟩:qC),false)) else ((qR.f k x0_).bind fun t21=>(some (t21,true)))
theorem qAq.j11_s k x0_ y10:type_of% (qAq.j11.eq_2 x0_ y10 k):=qAq.j11.eq_2 x0_ y10 k
def qAq.f(k:Nat)(x0_:List qC):Option (qC × Bool):=if (x0_.length:Int)=0 then (qAq.j11 k x0_ true) else ((qAD.f k x0_).bind fun t8=>(qAq.j11 k x0_ (!(t8 == 0))))
def qAq.Post(W F:World)(r:qC × Bool)(v:Value)(w':World):Prop:=∃(F':World),v = .tuple #[.agg #[iv r.1.f0,iv r.1.f1,iv r.1.f2,iv r.1.f3,iv r.1.f4],.bool r.2]∧St W (mine W []) F w' F' []
theorem qAq.calls(k:Nat)(x0_:List qC)(A0_0:Option Addr)(c0_0:Nat)(r:qC × Bool)(W F:World)(hown:Sub F W)(g0_0:Rd qC.k F A0_0 c0_0 x0_)(H:qAq.f k x0_=some r):
    Calls Tryz.prog 57 #[.slice A0_0 x0_.length c0_0] W fun e w'=>∃ v,e = .returned v∧qAq.Post W F r v w':=by
 have hS:=St.start (Own.nil hown)
 unfold qAq.f at H
 refine enter (n:=15) rfl rfl rfl (Nat.le_of_ble_eq_true rfl) (fun a hE=>?_)
 refine sq fun K1 hK1=>pl0 (ple hE (.al (t:=86) hS [iv 0,iv 0,iv 0,iv 0,iv 0]) ?_)
 rintro _ u3 a ⟨b2,rfl,hb2,hS,hg⟩ hE
 refine plc hE (.r 1 1 .nil) (fun a hE=>pld (hK1 _ _ (sq fun K4 hK4=>sq fun K5 hK5=>?_)))
 have J14:∀ kq12,kq12≤k→∀(G:Nat→Value)(y10:Bool)(a:Act)(w':World),Env 15 G a→At G [(0,.slice A0_0 x0_.length c0_0),(2,.pointer (pb b2)),(11,.bool y10)]→St W (mine W []) F w' F [box b2 #[iv 0,iv 0,iv 0,iv 0,iv 0] 86]→qAq.j11 kq12 x0_ y10=some r→K5 a w':=by
  intro kq12 hkq G y10 a u15 hE hA hS H
  obtain _ | k13:=kq12
  ·
   exact zz H
  rw [qAq.j11_s]at H
  obtain ⟨J,hE⟩:=hE.at hA
  refine hK5 _ _ ?_
  refine hE.ib 11 H (fun c16 hE H=>?_) fun c16 hE H=>?_
  ·
   refine sq fun K17 hK17=>pl0 (plc hE (.r 0 1 .nil) (fun a hE=>ple hE (.sto hS [iv 0,iv 0,iv 0,iv 0,iv 0]) ?_))
   rintro _ u18 a ⟨rfl,hb2,hS,hz⟩ hE
   refine plc hE (.r 2 1 .nil) (fun a hE=>pld (hK17 _ _ (wp_ret (qCD ?_))))
   replace hS:=hS.tail
   obtain rfl:=si H
   exact retN hE rfl (of_decide_eq_true rfl) (.cell (by kernel_rfl) (qCJ [iv 0,iv 0,iv 0,iv 0,iv 0] ag86 sz86 hb2 rfl) (.tmp (by kernel_rfl) .nil)) ⟨_,rfl,_,rfl,hS⟩
  refine wp_skip (hK4 _ _ (sq fun K19 hK19=>pl0 (plc hE (.r 0 1 .nil) (fun a hE=>?_))))
  obtain ⟨t21,h22,H⟩:=bd H
  refine ple hE (.cl en114 (qR.calls k13 x0_ _ _ _ _ _ hS.own.sub g0_0 h22)) ?_
  rintro _ u20 a ⟨_,rfl,hC⟩ hE
  replace hS:=hS.lent hC
  refine ple hE (.sto hS [iv t21.f0,iv t21.f1,iv t21.f2,iv t21.f3,iv t21.f4]) ?_
  rintro _ u23 a ⟨rfl,hb2,hS,hz⟩ hE
  refine plc hE (.r 3 1 .nil) (fun a hE=>pld (hK19 _ _ (wp_ret ?_)))
  replace hS:=hS.tail
  obtain rfl:=si H
  exact retN hE rfl (of_decide_eq_true rfl) (.cell (by kernel_rfl) (qCJ [iv t21.f0,iv t21.f1,iv t21.f2,iv t21.f3,iv t21.f4] ag86 sz86 hb2 rfl) (.tmp (by kernel_rfl) .nil)) ⟨_,rfl,_,rfl,hS⟩
 refine pl0 (plc hE (.r 0 4 .nil) (fun a hE=>?_))
 rcases sp H with ⟨c6,H⟩ | ⟨c6,H⟩
 ·
  replace hE:=hE.kt 7 c6
  refine plc hE (.r 4 4 .nil) (fun a hE=>pld ?_)
  exact J14 _ (by omega) _ true _ _ hE .of hS H
 replace hE:=hE.kf 7 c6
 refine plc hE (.r 4 1 .nil) (fun a hE=>?_)
 obtain ⟨t8,h9,H⟩:=bd H
 refine ple hE (.cl en58 (qAD.calls k x0_ _ _ _ _ _ hS.own.sub g0_0 h9)) ?_
 rintro _ u7 a ⟨_,rfl,hC⟩ hE
 replace hS:=hS.lent hC
 refine plc hE (.r 6 2 .nil) (fun a hE=>pld ?_)
 exact J14 _ (by omega) _ (!(t8 == 0)) _ _ hE .of hS H
def qAk.l36:Nat→qJ→Int→qC × Bool→List qE→Int→Option (List qE)
 | 0,_,_,_,_,_=>none
 | k+1,x0_,x1_,t14,l33,x34=>if x34<(((nth qF.z x0_.f6 x1_).f1).length:Int) then (if 0≤x34∧x34<(((nth qF.z x0_.f6 x1_).f1).length:Int) then (if (nth qE.z ((nth qF.z x0_.f6 x1_).f1) x34).f0≥t14.1.f1 then ((qAW.f ((nth qE.z ((nth qF.z x0_.f6 x1_).f1) x34).f1)).bind fun t60=>(if ((l33.length:Int)+((1:Nat):Int)) * 32≤140737488355328 then (qAk.l36 k x0_ x1_ t14 (l33++[(⟨(nth qE.z ((nth qF.z x0_.f6 x1_).f1) x34).f0,t60⟩:qE)]) (w64 (x34+1))) else (none))) else (qAk.l36 k x0_ x1_ t14 l33 (w64 (x34+1)))) else (none)) else (some l33)
theorem qAk.l36_s k x0_ x1_ t14 l33 x34:type_of% (qAk.l36.eq_2 x0_ x1_ t14 l33 x34 k):=qAk.l36.eq_2 x0_ x1_ t14 l33 x34 k
def qAk.f(k:Nat)(x0_:qJ)(x1_:Int)(x2_:List qC):Option (List qE):=(qBS.f k x0_ x1_ x2_).bind fun t7=>(if t7=true then ((qAq.f k x2_).bind fun t14=>(if 0≤x1_∧x1_<(x0_.f6.length:Int) then (qAk.l36 k x0_ x1_ t14 [] 0) else (none))) else (some []))
def qAk.Post(W F:World)(r:List qE)(v:Value)(w':World):Prop:=∃(F':World)(RA0_0:Option Addr)(rc0_0:Nat),v = .slice RA0_0 r.length rc0_0∧St W (mine W []) F w' F' [row qE.k 51 (.slice RA0_0 r.length rc0_0) r]
theorem qAk.calls(k:Nat)(x0_:qJ)(x1_:Int)(x2_:List qC)(A0_4:Option Addr)(c0_4:Nat)(A0_5:Option Addr)(c0_5:Nat)(A0_6:Option Addr)(c0_6:Nat)(A2_0:Option Addr)(c2_0:Nat)(r:List qE)(W F:World)(hown:Sub F W)(g0_4:Rd qA.k F A0_4 c0_4 x0_.f4)(g0_5:Rd qM.k F A0_5 c0_5 x0_.f5)(g0_6:Rd qF.k F A0_6 c0_6 x0_.f6)(g2_0:Rd qC.k F A2_0 c2_0 x2_)(H:qAk.f k x0_ x1_ x2_=some r):
    Calls Tryz.prog 51 #[.agg #[iv x0_.f0,iv x0_.f1,iv x0_.f2,iv x0_.f3,.slice A0_4 x0_.f4.length c0_4,.slice A0_5 x0_.f5.length c0_5,.slice A0_6 x0_.f6.length c0_6],iv x1_,.slice A2_0 x2_.length c2_0] W fun e w'=>∃ v,e = .returned v∧qAk.Post W F r v w':=by
 have hS:=St.start (Own.nil hown)
 unfold qAk.f at H
 refine enter (n:=48) rfl rfl rfl (Nat.le_of_ble_eq_true rfl) (fun a hE=>?_)
 refine sq fun K1 hK1=>pl0 (ple hE (.bx (t:=26) hS [iv x0_.f0,iv x0_.f1,iv x0_.f2,iv x0_.f3,.slice A0_4 x0_.f4.length c0_4,.slice A0_5 x0_.f5.length c0_5,.slice A0_6 x0_.f6.length c0_6]) ?_)
 rintro _ u3 a ⟨b2,rfl,hb2,hS,hg⟩ hE
 refine plc hE (.r 1 1 .nil) (fun a hE=>pld (hK1 _ _ (sq fun K4 hK4=>sq fun K5 hK5=>pl0 (plc hE (.bn 0 0 7 hb2<|.r 1 2<|.nil) (fun a hE=>?_)))))
 obtain ⟨t7,h8,H⟩:=bd H
 refine ple hE (.cl en103 (qBS.calls k x0_ x1_ x2_ _ _ _ _ _ _ _ _ _ _ _ hS.own.sub g0_4 g0_5 g0_6 g2_0 h8)) ?_
 rintro _ u6 a ⟨_,rfl,hC⟩ hE
 replace hS:=hS.lent hC
 refine plc hE (.r 4 1 .nil) (fun a hE=>pld (hK5 _ _ ?_))
 refine hE.ibn 16 H (fun c9 hE H=>?_) fun c9 hE H=>?_
 ·
  refine wp_skip (hK4 _ _ (sq fun K12 hK12=>pl0 (plc hE (.r 0 1 .nil) (fun a hE=>?_))))
  obtain ⟨t14,h15,H⟩:=bd H
  refine ple hE (.cl en57 (qAq.calls k x2_ _ _ _ _ _ hS.own.sub g2_0 h15)) ?_
  rintro _ u13 a ⟨_,rfl,hC⟩ hE
  replace hS:=hS.lent hC
  refine plc hE (.r 2 3 .nil) (fun a hE=>ple hE (.al (t:=86) hS [iv 0,iv 0,iv 0,iv 0,iv 0]) ?_)
  rintro _ u17 a ⟨b16,rfl,hb16,hS,hg⟩ hE
  refine ple hE (.sto hS [iv t14.1.f0,iv t14.1.f1,iv t14.1.f2,iv t14.1.f3,iv t14.1.f4]) ?_
  rintro _ u18 a ⟨rfl,hb16,hS,hz⟩ hE
  refine plc hE (.r 7 1 .nil) (fun a hE=>pld (hK12 _ _ (rr hE fun a hE=>(sq fun K20 hK20=>sq fun K21 hK21=>pl0 ?_))))
  have hb2:=hS.ba 1
  obtain ⟨c22,H⟩:=gd H
  have hE_:=hE
  obtain ⟨ad23,rfl⟩:=g0_6.addr c22.1 c22.2
  replace hE:=hE_
  obtain ⟨cs25,⟨A27,c28,rfl,g29⟩,hc26⟩:=g0_6.el qF.z x1_ c22.1 c22.2
  refine plc hE (.r 0 1<|.b 1 6 hb2<|.r 2 1<|.x 3 c22<|.r 4 1<|.c 5 (hS.fc hc26 1)<|.r 6 2<|.nil) (fun a hE=>pld (hK21 _ _ (wp_block ?_)))
  replace hS:=hS.nilrow qE.k 51
  replace hS:=hS.pm [1,2,0] 3
  refine wp_loop_ghost (fun kq37 a w'=>∃(G:Nat→Value)(A31:Option Addr)(c32:Nat)(l33:List qE)(x34:Int)(F35:World),kq37≤k∧Env 48 G a∧At G [(7,.pointer (pb b16)),(9,.slice A31 l33.length c32),(27,.slice A27 (((nth qF.z x0_.f6 x1_).f1).length) c28),(28,iv (((nth qF.z x0_.f6 x1_).f1).length:Int)),(29,iv x34)]∧St W (mine W []) F w' F35 [box b16 #[iv t14.1.f0,iv t14.1.f1,iv t14.1.f2,iv t14.1.f3,iv t14.1.f4] 86,box b2 #[iv x0_.f0,iv x0_.f1,iv x0_.f2,iv x0_.f3,.slice A0_4 x0_.f4.length c0_4,.slice A0_5 x0_.f5.length c0_5,.slice (some ad23) x0_.f6.length c0_6] 26,row qE.k 51 (.slice A31 l33.length c32) l33]∧Rd qE.k F35 A27 c28 ((nth qF.z x0_.f6 x1_).f1)∧Rd qA.k F35 A0_4 c0_4 x0_.f4∧Rd qM.k F35 A0_5 c0_5 x0_.f5∧Rd qF.k F35 (some ad23) c0_6 x0_.f6∧qAk.l36 kq37 x0_ x1_ t14 l33 x34=some r) k ⟨_,none,0,[],0,F,Nat.le_refl _,hE,.of,hS,g29,g0_4,g0_5,g0_6,H⟩ ?_
  rintro kq37 a u39 ⟨G,A31,c32,l33,x34,F35,hkq,hE,hA,hS,g29,g0_4,g0_5,g0_6,H⟩
  obtain _ | k38:=kq37
  ·
   exact zz H
  rw [qAk.l36_s]at H
  obtain ⟨J,hE⟩:=hE.at hA
  refine rr hE fun a hE=>(sq fun K41 hK41=>?_)
  refine hE.ik 30 H (fun c42 hE H=>?_) fun c42 hE H=>?_
  ·
   refine wp_skip (hK41 _ _ (sq fun K43 hK43=>wp_block (sq fun K44 hK44=>pl0 ?_)))
   obtain ⟨c45,H⟩:=gd H
   have hE_:=hE
   obtain ⟨ad46,rfl⟩:=g29.addr c45.1 c45.2
   replace hE:=hE_
   obtain ⟨cs48,⟨A50,c51,rfl,g52⟩,hc49⟩:=g29.el qE.z x34 c45.1 c45.2
   refine plc hE (.x 0 c45<|.cs 1 (hS.fcs hc49)<|.nil) (fun a hE=>ple hE (.al (t:=51) hS [iv 0,.slice none 0 0]) ?_)
   rintro _ u54 a ⟨b53,rfl,hb53,hS,hg⟩ hE
   refine ple hE (.sto hS [iv ((nth qE.z ((nth qF.z x0_.f6 x1_).f1) x34).f0),.slice A50 (((nth qE.z ((nth qF.z x0_.f6 x1_).f1) x34).f1).length) c51]) ?_
   rintro _ u55 a ⟨rfl,hb53,hS,hz⟩ hE
   refine pld (hK44 _ _ (sq fun K56 hK56=>pl0 ?_))
   have hb16:=hS.ba 1
   refine plc hE (.r 0 1<|.b 1 0 hb53<|.r 2 1<|.b 3 1 hb16<|.r 4 1<|.nil) (fun a hE=>pld (hK56 _ _ ?_))
   refine hE.ik 37 H (fun c57 hE H=>?_) fun c57 hE H=>?_
   ·
    refine sq fun K58 hK58=>pl0 (plc hE (.r 0 1<|.b 1 1 hb53<|.nil) (fun a hE=>?_))
    obtain ⟨t60,h61,H⟩:=bd H
    refine ple hE (.cl en112 (qAW.calls ((nth qE.z ((nth qF.z x0_.f6 x1_).f1) x34).f1) _ _ _ _ _ hS.own.sub g52 h61)) ?_
    rintro _ u59 a ⟨F62,A63,c64,rfl,hC⟩ hE
    have hs:=hC.sub
    replace hS:=hS.called (X:=[]) hC
    replace g29:=g29.mono hs
    replace g52:=g52.mono hs
    replace g0_4:=g0_4.mono hs
    replace g0_5:=g0_5.mono hs
    replace g0_6:=g0_6.mono hs
    refine plc hE (.r 3 1 .nil) (fun a hE=>?_)
    replace hS:=hS.front 1 rfl
    refine ple hE (.sto hS [iv ((nth qE.z ((nth qF.z x0_.f6 x1_).f1) x34).f0),.slice A63 t60.length c64]) ?_
    rintro _ u67 a ⟨rfl,hb53,hS,hz⟩ hE
    refine pld (hK58 _ _ (pl0 (plc hE (.r 0 1<|.bn 1 0 2 hb53<|.nil) (fun a hE=>?_))))
    replace hS:=hS.front 1 rfl
    obtain ⟨F71,hs,g72,hS⟩:=hS.give
    replace g29:=g29.mono hs
    replace g52:=g52.mono hs
    replace g0_4:=g0_4.mono hs
    replace g0_5:=g0_5.mono hs
    replace g0_6:=g0_6.mono hs
    refine ple hE (.lit (d:=qE.k) (e:=51) hS [(⟨(nth qE.z ((nth qF.z x0_.f6 x1_).f1) x34).f0,t60⟩:qE)] (.cons ⟨_,_,rfl,g72⟩ .nil)) ?_
    rintro _ u68 a ⟨A69,c70,rfl,hS,hg⟩ hE
    obtain ⟨c74,H⟩:=gd H
    replace hS:=hS.front 4 rfl
    refine ple hE (.ap (d:=qE.k) 32 hS (qCO (hS.row_at (i:=1) rfl)) c74 c70) ?_
    rintro _ u77 a ⟨A75,c76,rfl,hS,hz⟩ hE
    refine plc hE (.r 4 1 .nil) (fun a hE=>pld ?_)
    refine qCF ?_
    refine hK43 _ _ (pl0 (plc hE (.r 0 2 .nil) (fun a hE=>pld ?_)))
    replace hS:=hS.pm [3,4,0] 5
    exact qCG ⟨k38,by omega,_,A75,c76,(l33++[(⟨(nth qE.z ((nth qF.z x0_.f6 x1_).f1) x34).f0,t60⟩:qE)]),(w64 (x34+1)),F71,by omega,hE,.of,hS,g29,g0_4,g0_5,g0_6,H⟩
   refine wp_skip ?_
   refine qCF ?_
   refine hK43 _ _ (pl0 (plc hE (.r 0 2 .nil) (fun a hE=>pld ?_)))
   replace hS:=hS.tail
   exact qCG ⟨k38,by omega,_,A31,c32,l33,(w64 (x34+1)),F35,by omega,hE,.of,hS,g29,g0_4,g0_5,g0_6,H⟩
  refine wp_exit ?_
  refine hK20 _ _ (rr hE fun a hE=>(wp_ret ?_))
  replace hS:=hS.pm [] 2
  obtain rfl:=si H
  exact rt1 hE ⟨_,rfl,_,_,_,rfl,hS⟩
 refine rr hE fun a hE=>(wp_ret (qCD ?_))
 replace hS:=hS.nilrow qE.k 51
 replace hS:=hS.pm [0] 2
 obtain rfl:=si H
 exact rt1 hE ⟨_,rfl,_,_,_,rfl,hS⟩
def qc.l5:Nat→List Int→List qC→Int→Option Int
 | 0,_,_,_=>none
 | k+1,x0_,x1c0_,x4=>if x4<(x0_.length:Int) then (if 0≤x4∧x4<(x0_.length:Int) then ((qAu.f k (nth 0 x0_ x4) x1c0_).bind fun t21=>(if t21=true then (some x4) else (qc.l5 k x0_ x1c0_ (w64 (x4+1))))) else (none)) else (some (-1))
theorem qc.l5_s k x0_ x1c0_ x4:type_of% (qc.l5.eq_2 x0_ x1c0_ x4 k):=qc.l5.eq_2 x0_ x1c0_ x4 k
def qc.f(k:Nat)(x0_:List Int)(x1c0_:List qC):Option Int:=qc.l5 k x0_ x1c0_ 0
def qc.Post(W F:World)(r:Int)(v:Value)(w':World):Prop:=∃(F':World),v=iv r∧St W (mine W []) F w' F' []
theorem qc.calls(k:Nat)(x0_:List Int)(x1c0_:List qC)(A0_0:Option Addr)(c0_0:Nat)(p1c0_:Nat)(A1c0_0:Option Addr)(c1c0_0:Nat)(r:Int)(W F:World)(hown:Sub F W)(g0_0:Rd ki F A0_0 c0_0 x0_)(g1c0_0:Rd qC.k F A1c0_0 c1c0_0 x1c0_)(hp1c0_:F.heap[p1c0_]? = some (.cells #[.slice A1c0_0 x1c0_.length c1c0_0] 72 (0,0)))(H:qc.f k x0_ x1c0_=some r):
    Calls Tryz.prog 157 #[.slice A0_0 x0_.length c0_0,.func (.func 104) #[] #[.pointer (pb p1c0_)]] W fun e w'=>∃ v,e = .returned v∧qc.Post W F r v w':=by
 have hS:=St.start (Own.nil hown)
 unfold qc.f at H
 refine enter (n:=19) rfl rfl rfl (Nat.le_of_ble_eq_true rfl) (fun a hE=>?_)
 refine rr hE fun a hE=>(sq fun K2 hK2=>rr hE fun a hE=>(wp_block ?_))
 refine wp_loop_ghost (fun kq6 a w'=>∃(G:Nat→Value)(x4:Int),kq6≤k∧Env 19 G a∧At G [(0,.slice A0_0 x0_.length c0_0),(1,.func (.func 104) #[] #[.pointer (pb p1c0_)]),(7,iv (x0_.length:Int)),(8,iv x4)]∧St W (mine W []) F w' F []∧qc.l5 kq6 x0_ x1c0_ x4=some r) k ⟨_,0,Nat.le_refl _,hE,.of,hS,H⟩ ?_
 rintro kq6 a u8 ⟨G,x4,hkq,hE,hA,hS,H⟩
 obtain _ | k7:=kq6
 ·
  exact zz H
 rw [qc.l5_s]at H
 obtain ⟨J,hE⟩:=hE.at hA
 refine rr hE fun a hE=>(sq fun K10 hK10=>?_)
 refine hE.ik 9 H (fun c11 hE H=>?_) fun c11 hE H=>?_
 ·
  refine wp_skip (hK10 _ _ (sq fun K12 hK12=>wp_block (rr hE fun a hE=>(sq fun K14 hK14=>pl0 ?_))))
  obtain ⟨c15,H⟩:=gd H
  have hE_:=hE
  obtain ⟨ad16,rfl⟩:=g0_0.addr c15.1 c15.2
  replace hE:=hE_
  obtain ⟨cs18,rfl,hc19⟩:=g0_0.el 0 x4 c15.1 c15.2
  refine plc hE (.r 0 3<|.x 3 c15<|.c 4 (hS.fc hc19 0)<|.nil) (fun a hE=>?_)
  obtain ⟨t21,h22,H⟩:=bd H
  refine ple hE (.cl en104 (qAu.calls k7 (nth 0 x0_ x4) x1c0_ _ _ _ _ _ _ hS.own.sub g1c0_0 hp1c0_ h22)) ?_
  rintro _ u20 a ⟨_,rfl,hC⟩ hE
  replace hS:=hS.lent hC
  refine pld (hK14 _ _ ?_)
  refine hE.ib 16 H (fun c23 hE H=>?_) fun c23 hE H=>?_
  ·
   refine rr hE fun a hE=>(wp_ret (qCE (qCD (qCD (qCE (qCD ?_))))))
   obtain rfl:=si H
   exact rt1 hE ⟨_,rfl,_,rfl,hS⟩
  refine wp_skip ?_
  refine qCF ?_
  refine hK12 _ _ (pl0 (plc hE (.r 0 2 .nil) (fun a hE=>pld ?_)))
  exact qCG ⟨k7,by omega,_,(w64 (x4+1)),by omega,hE,.of,hS,H⟩
 refine wp_exit ?_
 refine hK2 _ _ (rr hE fun a hE=>(wp_ret ?_))
 obtain rfl:=si H
 exact rt1 hE ⟨_,rfl,_,rfl,hS⟩
def qx.f(k:Nat)(x0_:List Int)(x1c0_:List qC):Option Bool:=(qc.f k x0_ x1c0_).bind fun t4=>(some (decide (t4≥0)))
def qx.Post(W F:World)(r:Bool)(v:Value)(w':World):Prop:=∃(F':World),v = .bool r∧St W (mine W []) F w' F' []
theorem qx.calls(k:Nat)(x0_:List Int)(x1c0_:List qC)(A0_0:Option Addr)(c0_0:Nat)(p1c0_:Nat)(A1c0_0:Option Addr)(c1c0_0:Nat)(r:Bool)(W F:World)(hown:Sub F W)(g0_0:Rd ki F A0_0 c0_0 x0_)(g1c0_0:Rd qC.k F A1c0_0 c1c0_0 x1c0_)(hp1c0_:F.heap[p1c0_]? = some (.cells #[.slice A1c0_0 x1c0_.length c1c0_0] 72 (0,0)))(H:qx.f k x0_ x1c0_=some r):
    Calls Tryz.prog 107 #[.slice A0_0 x0_.length c0_0,.func (.func 104) #[] #[.pointer (pb p1c0_)]] W fun e w'=>∃ v,e = .returned v∧qx.Post W F r v w':=by
 have hS:=St.start (Own.nil hown)
 unfold qx.f at H
 refine enter (n:=9) rfl rfl rfl (Nat.le_of_ble_eq_true rfl) (fun a hE=>?_)
 refine rr hE fun a hE=>(sq fun K2 hK2=>pl0 (plc hE (.r 0 2 .nil) (fun a hE=>?_)))
 obtain ⟨t4,h5,H⟩:=bd H
 refine ple hE (.cl en157 (qc.calls k x0_ x1c0_ _ _ _ _ _ _ _ _ hS.own.sub g0_0 g1c0_0 hp1c0_ h5)) ?_
 rintro _ u3 a ⟨_,rfl,hC⟩ hE
 replace hS:=hS.lent hC
 refine plc hE (.r 3 2 .nil) (fun a hE=>pld (hK2 _ _ (wp_ret ?_)))
 obtain rfl:=si H
 exact rt1 hE ⟨_,rfl,_,rfl,hS⟩
def qBn.f(k:Nat)(x0_:qJ)(x1_:Int):Option Bool:=(qBH.f k x0_.f4 x1_).bind fun t6=>(if t6.2=true then (some t6.1.f4) else (some false))
def qBn.Post(W F:World)(r:Bool)(v:Value)(w':World):Prop:=∃(F':World),v = .bool r∧St W (mine W []) F w' F' []
theorem qBn.calls(k:Nat)(x0_:qJ)(x1_:Int)(A0_4:Option Addr)(c0_4:Nat)(A0_5:Option Addr)(c0_5:Nat)(A0_6:Option Addr)(c0_6:Nat)(r:Bool)(W F:World)(hown:Sub F W)(g0_4:Rd qA.k F A0_4 c0_4 x0_.f4)(g0_5:Rd qM.k F A0_5 c0_5 x0_.f5)(g0_6:Rd qF.k F A0_6 c0_6 x0_.f6)(H:qBn.f k x0_ x1_=some r):
    Calls Tryz.prog 109 #[.agg #[iv x0_.f0,iv x0_.f1,iv x0_.f2,iv x0_.f3,.slice A0_4 x0_.f4.length c0_4,.slice A0_5 x0_.f5.length c0_5,.slice A0_6 x0_.f6.length c0_6],iv x1_] W fun e w'=>∃ v,e = .returned v∧qBn.Post W F r v w':=by
 have hS:=St.start (Own.nil hown)
 unfold qBn.f at H
 refine enter (n:=19) rfl rfl rfl (Nat.le_of_ble_eq_true rfl) (fun a hE=>?_)
 refine sq fun K1 hK1=>pl0 (ple hE (.bx (t:=26) hS [iv x0_.f0,iv x0_.f1,iv x0_.f2,iv x0_.f3,.slice A0_4 x0_.f4.length c0_4,.slice A0_5 x0_.f5.length c0_5,.slice A0_6 x0_.f6.length c0_6]) ?_)
 rintro _ u3 a ⟨b2,rfl,hb2,hS,hg⟩ hE
 refine plc hE (.r 1 1 .nil) (fun a hE=>pld (hK1 _ _ (sq fun K4 hK4=>pl0 (plc hE (.r 0 1<|.b 1 4 hb2<|.r 2 1<|.nil) (fun a hE=>?_)))))
 obtain ⟨t6,h7,H⟩:=bd H
 refine ple hE (.cl en127 (qBH.calls k x0_.f4 x1_ _ _ _ _ _ hS.own.sub g0_4 h7)) ?_
 rintro _ u5 a ⟨_,rfl,hC⟩ hE
 replace hS:=hS.lent hC
 refine plc hE (.r 4 3 .nil) (fun a hE=>ple hE (.al (t:=104) hS [iv 0,iv 0,iv 0,iv 0,.bool false,.bool false]) ?_)
 rintro _ u9 a ⟨b8,rfl,hb8,hS,hg⟩ hE
 refine ple hE (.sto hS [iv t6.1.f0,iv t6.1.f1,iv t6.1.f2,iv t6.1.f3,.bool t6.1.f4,.bool t6.1.f5]) ?_
 rintro _ u10 a ⟨rfl,hb8,hS,hz⟩ hE
 refine plc hE (.r 9 1 .nil) (fun a hE=>pld (hK4 _ _ (sq fun K11 hK11=>pl0 (plc hE (.r 0 2 .nil) (fun a hE=>?_)))))
 rcases sp H with ⟨c12,H⟩ | ⟨c12,H⟩
 ·
  replace hE:=hE.bt 15 c12
  refine plc hE (.r 2 1<|.b 3 4 hb8<|.r 4 2<|.nil) (fun a hE=>pld (hK11 _ _ (wp_ret ?_)))
  replace hS:=hS.pm [] 2
  obtain rfl:=si H
  exact rt1 hE ⟨_,rfl,_,rfl,hS⟩
 replace hE:=hE.bf 15 c12
 refine plc hE (.r 2 4 .nil) (fun a hE=>pld (hK11 _ _ (wp_ret ?_)))
 replace hS:=hS.pm [] 2
 obtain rfl:=si H
 exact rt1 hE ⟨_,rfl,_,rfl,hS⟩
def qBI.f(k:Nat)(x0_:Int)(xf0_:qJ):Option Bool:=(qBn.f k xf0_ x0_).bind fun t4=>(some t4)
def qBI.Post(W F:World)(r:Bool)(v:Value)(w':World):Prop:=∃(F':World),v = .bool r∧St W (mine W []) F w' F' []
theorem qBI.calls(k:Nat)(x0_:Int)(xf0_:qJ)(pf0_:Nat)(Af0_4:Option Addr)(cf0_4:Nat)(Af0_5:Option Addr)(cf0_5:Nat)(Af0_6:Option Addr)(cf0_6:Nat)(r:Bool)(W F:World)(hown:Sub F W)(gf0_4:Rd qA.k F Af0_4 cf0_4 xf0_.f4)(gf0_5:Rd qM.k F Af0_5 cf0_5 xf0_.f5)(gf0_6:Rd qF.k F Af0_6 cf0_6 xf0_.f6)(hpf0_:F.heap[pf0_]? = some (.cells #[iv xf0_.f0,iv xf0_.f1,iv xf0_.f2,iv xf0_.f3,.slice Af0_4 xf0_.f4.length cf0_4,.slice Af0_5 xf0_.f5.length cf0_5,.slice Af0_6 xf0_.f6.length cf0_6] 26 (0,0)))(H:qBI.f k x0_ xf0_=some r):
    Calls Tryz.prog 108 #[iv x0_,.pointer (pb pf0_)] W fun e w'=>∃ v,e = .returned v∧qBI.Post W F r v w':=by
 have hS:=St.start (Own.nil hown)
 unfold qBI.f at H
 refine enter (n:=7) rfl rfl rfl (Nat.le_of_ble_eq_true rfl) (fun a hE=>?_)
 refine rr hE fun a hE=>(sq fun K2 hK2=>pl0 (plc hE (.bn 0 0 7 (hS.own.sub _ _ _ _ hpf0_)<|.r 1 1<|.nil) (fun a hE=>?_)))
 obtain ⟨t4,h5,H⟩:=bd H
 refine ple hE (.cl en109 (qBn.calls k xf0_ x0_ _ _ _ _ _ _ _ _ _ hS.own.sub gf0_4 gf0_5 gf0_6 h5)) ?_
 rintro _ u3 a ⟨_,rfl,hC⟩ hE
 replace hS:=hS.lent hC
 refine plc hE (.r 3 1 .nil) (fun a hE=>pld (hK2 _ _ (wp_ret ?_)))
 obtain rfl:=si H
 exact rt1 hE ⟨_,rfl,_,rfl,hS⟩
def qd.l5:Nat→List Int→qJ→Int→Option Int
 | 0,_,_,_=>none
 | k+1,x0_,x1c0_,x4=>if x4<(x0_.length:Int) then (if 0≤x4∧x4<(x0_.length:Int) then ((qBI.f k (nth 0 x0_ x4) x1c0_).bind fun t21=>(if t21=true then (some x4) else (qd.l5 k x0_ x1c0_ (w64 (x4+1))))) else (none)) else (some (-1))
theorem qd.l5_s k x0_ x1c0_ x4:type_of% (qd.l5.eq_2 x0_ x1c0_ x4 k):=qd.l5.eq_2 x0_ x1c0_ x4 k
def qd.f(k:Nat)(x0_:List Int)(x1c0_:qJ):Option Int:=qd.l5 k x0_ x1c0_ 0
def qd.Post(W F:World)(r:Int)(v:Value)(w':World):Prop:=∃(F':World),v=iv r∧St W (mine W []) F w' F' []
theorem qd.calls(k:Nat)(x0_:List Int)(x1c0_:qJ)(A0_0:Option Addr)(c0_0:Nat)(p1c0_:Nat)(A1c0_4:Option Addr)(c1c0_4:Nat)(A1c0_5:Option Addr)(c1c0_5:Nat)(A1c0_6:Option Addr)(c1c0_6:Nat)(r:Int)(W F:World)(hown:Sub F W)(g0_0:Rd ki F A0_0 c0_0 x0_)(g1c0_4:Rd qA.k F A1c0_4 c1c0_4 x1c0_.f4)(g1c0_5:Rd qM.k F A1c0_5 c1c0_5 x1c0_.f5)(g1c0_6:Rd qF.k F A1c0_6 c1c0_6 x1c0_.f6)(hp1c0_:F.heap[p1c0_]? = some (.cells #[iv x1c0_.f0,iv x1c0_.f1,iv x1c0_.f2,iv x1c0_.f3,.slice A1c0_4 x1c0_.f4.length c1c0_4,.slice A1c0_5 x1c0_.f5.length c1c0_5,.slice A1c0_6 x1c0_.f6.length c1c0_6] 26 (0,0)))(H:qd.f k x0_ x1c0_=some r):
    Calls Tryz.prog 157 #[.slice A0_0 x0_.length c0_0,.func (.func 108) #[] #[.pointer (pb p1c0_)]] W fun e w'=>∃ v,e = .returned v∧qd.Post W F r v w':=by
 have hS:=St.start (Own.nil hown)
 unfold qd.f at H
 refine enter (n:=19) rfl rfl rfl (Nat.le_of_ble_eq_true rfl) (fun a hE=>?_)
 refine rr hE fun a hE=>(sq fun K2 hK2=>rr hE fun a hE=>(wp_block ?_))
 refine wp_loop_ghost (fun kq6 a w'=>∃(G:Nat→Value)(x4:Int),kq6≤k∧Env 19 G a∧At G [(0,.slice A0_0 x0_.length c0_0),(1,.func (.func 108) #[] #[.pointer (pb p1c0_)]),(7,iv (x0_.length:Int)),(8,iv x4)]∧St W (mine W []) F w' F []∧qd.l5 kq6 x0_ x1c0_ x4=some r) k ⟨_,0,Nat.le_refl _,hE,.of,hS,H⟩ ?_
 rintro kq6 a u8 ⟨G,x4,hkq,hE,hA,hS,H⟩
 obtain _ | k7:=kq6
 ·
  exact zz H
 rw [qd.l5_s]at H
 obtain ⟨J,hE⟩:=hE.at hA
 refine rr hE fun a hE=>(sq fun K10 hK10=>?_)
 refine hE.ik 9 H (fun c11 hE H=>?_) fun c11 hE H=>?_
 ·
  refine wp_skip (hK10 _ _ (sq fun K12 hK12=>wp_block (rr hE fun a hE=>(sq fun K14 hK14=>pl0 ?_))))
  obtain ⟨c15,H⟩:=gd H
  have hE_:=hE
  obtain ⟨ad16,rfl⟩:=g0_0.addr c15.1 c15.2
  replace hE:=hE_
  obtain ⟨cs18,rfl,hc19⟩:=g0_0.el 0 x4 c15.1 c15.2
  refine plc hE (.r 0 3<|.x 3 c15<|.c 4 (hS.fc hc19 0)<|.nil) (fun a hE=>?_)
  obtain ⟨t21,h22,H⟩:=bd H
  refine ple hE (.cl en108 (qBI.calls k7 (nth 0 x0_ x4) x1c0_ _ _ _ _ _ _ _ _ _ _ hS.own.sub g1c0_4 g1c0_5 g1c0_6 hp1c0_ h22)) ?_
  rintro _ u20 a ⟨_,rfl,hC⟩ hE
  replace hS:=hS.lent hC
  refine pld (hK14 _ _ ?_)
  refine hE.ib 16 H (fun c23 hE H=>?_) fun c23 hE H=>?_
  ·
   refine rr hE fun a hE=>(wp_ret (qCE (qCD (qCD (qCE (qCD ?_))))))
   obtain rfl:=si H
   exact rt1 hE ⟨_,rfl,_,rfl,hS⟩
  refine wp_skip ?_
  refine qCF ?_
  refine hK12 _ _ (pl0 (plc hE (.r 0 2 .nil) (fun a hE=>pld ?_)))
  exact qCG ⟨k7,by omega,_,(w64 (x4+1)),by omega,hE,.of,hS,H⟩
 refine wp_exit ?_
 refine hK2 _ _ (rr hE fun a hE=>(wp_ret ?_))
 obtain rfl:=si H
 exact rt1 hE ⟨_,rfl,_,rfl,hS⟩
def qy.f(k:Nat)(x0_:List Int)(x1c0_:qJ):Option Bool:=(qd.f k x0_ x1c0_).bind fun t4=>(some (decide (t4≥0)))
def qy.Post(W F:World)(r:Bool)(v:Value)(w':World):Prop:=∃(F':World),v = .bool r∧St W (mine W []) F w' F' []
theorem qy.calls(k:Nat)(x0_:List Int)(x1c0_:qJ)(A0_0:Option Addr)(c0_0:Nat)(p1c0_:Nat)(A1c0_4:Option Addr)(c1c0_4:Nat)(A1c0_5:Option Addr)(c1c0_5:Nat)(A1c0_6:Option Addr)(c1c0_6:Nat)(r:Bool)(W F:World)(hown:Sub F W)(g0_0:Rd ki F A0_0 c0_0 x0_)(g1c0_4:Rd qA.k F A1c0_4 c1c0_4 x1c0_.f4)(g1c0_5:Rd qM.k F A1c0_5 c1c0_5 x1c0_.f5)(g1c0_6:Rd qF.k F A1c0_6 c1c0_6 x1c0_.f6)(hp1c0_:F.heap[p1c0_]? = some (.cells #[iv x1c0_.f0,iv x1c0_.f1,iv x1c0_.f2,iv x1c0_.f3,.slice A1c0_4 x1c0_.f4.length c1c0_4,.slice A1c0_5 x1c0_.f5.length c1c0_5,.slice A1c0_6 x1c0_.f6.length c1c0_6] 26 (0,0)))(H:qy.f k x0_ x1c0_=some r):
    Calls Tryz.prog 107 #[.slice A0_0 x0_.length c0_0,.func (.func 108) #[] #[.pointer (pb p1c0_)]] W fun e w'=>∃ v,e = .returned v∧qy.Post W F r v w':=by
 have hS:=St.start (Own.nil hown)
 unfold qy.f at H
 refine enter (n:=9) rfl rfl rfl (Nat.le_of_ble_eq_true rfl) (fun a hE=>?_)
 refine rr hE fun a hE=>(sq fun K2 hK2=>pl0 (plc hE (.r 0 2 .nil) (fun a hE=>?_)))
 obtain ⟨t4,h5,H⟩:=bd H
 refine ple hE (.cl en157 (qd.calls k x0_ x1c0_ _ _ _ _ _ _ _ _ _ _ _ _ hS.own.sub g0_0 g1c0_4 g1c0_5 g1c0_6 hp1c0_ h5)) ?_
 rintro _ u3 a ⟨_,rfl,hC⟩ hE
 replace hS:=hS.lent hC
 refine plc hE (.r 3 2 .nil) (fun a hE=>pld (hK2 _ _ (wp_ret ?_)))
 obtain rfl:=si H
 exact rt1 hE ⟨_,rfl,_,rfl,hS⟩
def qAy.f(x0_:List Int):Option (List Int):=sortI x0_
def qAy.Post(x0_:List Int)(A0_0:Option Addr)(c0_0:Nat)(W F:World)(r:List Int)(v:Value)(w':World):Prop:=∃(F':World),v = .tuple #[]∧St W (mine W [row ki 3 (.slice A0_0 x0_.length c0_0) x0_]) F w' F' [row ki 3 (.slice A0_0 x0_.length c0_0) r]
theorem qAy.calls(x0_:List Int)(A0_0:Option Addr)(c0_0:Nat)(r:List Int)(W F:World)(hown:Own W F [row ki 3 (.slice A0_0 x0_.length c0_0) x0_])(H:qAy.f x0_=some r):
  Calls Tryz.prog 110 #[.slice A0_0 x0_.length c0_0] W fun e w'=>∃ v,e = .returned v∧qAy.Post x0_ A0_0 c0_0 W F r v w':=qEe Tryz.sortI hown H
def qAo.f(x0_:List Int):Option (List Int):=compactI x0_
def qAo.Post(x0_:List Int)(A0_0:Option Addr)(c0_0:Nat)(W F:World)(r:List Int)(v:Value)(w':World):Prop:=∃(F':World)(RA0_0:Option Addr)(rc0_0:Nat),v = .slice RA0_0 r.length rc0_0∧St W (mine W [row ki 3 (.slice A0_0 x0_.length c0_0) x0_]) F w' F' [row ki 3 (.slice RA0_0 r.length rc0_0) r]
theorem qAo.calls(x0_:List Int)(A0_0:Option Addr)(c0_0:Nat)(r:List Int)(W F:World)(hown:Own W F [row ki 3 (.slice A0_0 x0_.length c0_0) x0_])(H:qAo.f x0_=some r):
  Calls Tryz.prog 111 #[.slice A0_0 x0_.length c0_0] W fun e w'=>∃ v,e = .returned v∧qAo.Post x0_ A0_0 c0_0 W F r v w':=qDc Tryz.compactI hown H
end Go.Proofs.YtpohepinmjmbkaaGreat.QD
