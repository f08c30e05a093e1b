import Derived.Test.YthgfhlbjkmjlpaaGreatGD5
namespace Go.Proofs.YthgfhlbjkmjlpaaGreat.GD
open Go Go.RowKit Go.Proofs.YthgfhlbjkmjlpaaGreat.Sl
set_option linter.unusedVariables false
set_option linter.unusedSimpArgs false
set_option maxHeartbeats 4000000
set_option maxRecDepth 100000
mutual
def qAn.j16:Nat->qD->qF->List Bool->Int->Bool->Option Int
 | 0,_,_,_,_,_=>none
 | k+1,x,y,z,p,y15=>if y15=true then (some 1) else ((qAz.f k x y).bind fun t25=>(if t25.2=0 then ((qAl.f k x t25.1).bind fun t49=>(if (t49.length:Int)=0 then (some 0) else ((qAK.f k t49 x z).bind fun t64=>(if t64=true then (qAn.j77 k t25 t49 true) else ((qBS.f k x z).bind fun t68=>(qAn.j77 k t25 t49 (decide ((w64 ((w64 (x.f3 - (t68.length:Int)))+(t49.length:Int)))>p)))))))) else (some t25.2)))
def qAn.j77:Nat->qD × Int->List Int->Bool->Option Int
 | 0,_,_,_=>none
 | k+1,t25,t49,y75=>if y75=true then (some 11) else (qAn.l88 k t25 t49 0)
def qAn.l88:Nat->qD × Int->List Int->Int->Option Int
 | 0,_,_,_=>none
 | k+1,t25,t49,x86=>if x86<(t49.length:Int) then (if 0<=x86/\x86<(t49.length:Int) then ((qBe.f k t25.1 (nth 0 t49 x86)).bind fun t105=>(if (t105.length:Int)<t25.1.f2 then (qAn.j118 k t25 t49 x86 true) else ((qAX.f k t25.1.f4 t105).bind fun t115=>(qAn.j118 k t25 t49 x86 (!t115))))) else (none)) else (some 0)
def qAn.j118:Nat->qD × Int->List Int->Int->Bool->Option Int
 | 0,_,_,_,_=>none
 | k+1,t25,t49,x86,y117=>if y117=true then (some 12) else (qAn.l88 k t25 t49 (w64 (x86+1)))
end
theorem qAn.j16_s k x y z p y15:type_of% (qAn.j16.eq_2 x y z p y15 k):=qAn.j16.eq_2 x y z p y15 k
theorem qAn.j77_s k t25 t49 y75:type_of% (qAn.j77.eq_2 t25 t49 y75 k):=qAn.j77.eq_2 t25 t49 y75 k
theorem qAn.l88_s k t25 t49 x86:type_of% (qAn.l88.eq_2 t25 t49 x86 k):=qAn.l88.eq_2 t25 t49 x86 k
theorem qAn.j118_s k t25 t49 x86 y117:type_of% (qAn.j118.eq_2 t25 t49 x86 y117 k):=qAn.j118.eq_2 t25 t49 x86 y117 k
def qAn.f(k:Nat)(x:qD)(y:qF)(z:List Bool)(p:Int):Option Int:=(qBn.f k x z).bind fun t11=>(if t11=true then (if p<1 then (qAn.j16 k x y z p true) else (qAn.j16 k x y z p (decide (p>8)))) else (qAn.j16 k x y z p true))
def qAn.Post(W F:World)(r:Int)(v:Value)(w':World):Prop:=∃(F':World),v=iv r/\Sm W F w' F' []
theorem qAn.calls(k:Nat)(x:qD)(y:qF)(z:List Bool)(p:Int)(A0_4:OA)(c0_4:Nat)(A0_5:OA)(c0_5:Nat)(A0_6:OA)(c0_6:Nat)(A1_6:OA)(c1_6:Nat)(A2_0:OA)(c2_0:Nat)(r:Int)(W F:World)(hown:Sub F W)(g0_4:Rd qA.k F A0_4 c0_4 x.f4)(g0_5:Rd qE.k F A0_5 c0_5 x.f5)(g0_6:Rd qC.k F A0_6 c0_6 x.f6)(g1_6:Rd ki F A1_6 c1_6 y.f6)(g2_0:Rd Kn.bool F A2_0 c2_0 z)(H:qAn.f k x y z p=some r):
    Cr 12 #[.agg (mA x A0_4 c0_4 A0_5 c0_5 A0_6 c0_6),.agg (dA y A1_6 c1_6),.slice A2_0 z.length c2_0,iv p] W (qAn.Post W F r):=by
 have S:=sT hown
 unfold qAn.f at H
 refine ent 83 rfl rfl rfl fun a E=>?_
 refine sq fun K1 hK1=>pl0 (plx (t:=26) E S (mL x A0_4 c0_4 A0_5 c0_5 A0_6 c0_6) fun b2 u3 hb2 S a E=>plx (t:=29) E S (dL y A1_6 c1_6) fun b4 u5 hb4 S a E=>plx (t:=30) E S [.slice A2_0 z.length c2_0] fun b6 u7 hb6 S a E=>plc E (.r 3 1 .nil) fun a E=>pld (hK1 _ _ (sq fun K8 hK8=>sq fun K9 hK9=>?_)))
 have J19:∀ kq17,kq17<=k->∀(G:NV)(y15:Bool)(a:Act)(w':World),Env 83 G a->At G [(3,iv p),(4,.pointer (pb b2)),(5,.pointer (pb b4)),(6,.pointer (pb b6)),(27,.bool y15)]->Sm W F w' F [box b6 #[.slice A2_0 z.length c2_0] 30,box b4 (dA y A1_6 c1_6) 29,box b2 (mA x A0_4 c0_4 A0_5 c0_5 A0_6 c0_6) 26]->qAn.j16 kq17 x y z p y15=some r->K9 a w':=by
  intro kq17 hkq G y15 a u20 E A S H
  obtain _ | k18:=kq17
  exact zz H
  rw [qAn.j16_s]at H
  obtain ⟨J,E⟩:=E.at A
  refine hK9 _ _ (E.ib 27 H (fun c21 E H=>?_) fun c21 E H=>?_)
  refine rr E fun a E=>(wp_ret (qCc ?_))
  have S:=S.pm [] 3
  obtain rfl:=si H
  exact rt1 E ⟨_,rfl,_,rfl,S⟩
  refine wp_skip (hK8 _ _ (sq fun K23 hK23=>pl0 ?_))
  have hb2:=S.ba 2
  refine plc E (.bn 0 0 7 hb2<|.bn 1 0 7 (S.ba 1)<|.nil) fun a E=>?_
  obtain ⟨t25,h26,H⟩:=bd H
  refine ple E (.cl en39 (qAz.calls k18 x y _ _ _ _ _ _ _ _ _ _ _ S.own.sub g0_4 g0_5 g0_6 g1_6 h26)) ?_
  rintro _ u24 a ⟨F27,A28,c29,A31,c32,A34,c35,rfl,hC,g30,g33⟩ E
  have hs:=hC.sub
  have S:=S.called (X:=[]) hC
  have g0_4:=g0_4.mono hs
  have g0_5:=g0_5.mono hs
  have g0_6:=g0_6.mono hs
  have g1_6:=g1_6.mono hs
  have g2_0:=g2_0.mono hs
  refine plc E (.r 3 3 .nil) fun a E=>pla (t:=26) E S [iv 0,iv 0,iv 0,iv 0,.slice none 0 0,.slice none 0 0,.slice none 0 0] fun b38 u39 hb38 S a E=>pls E S (mL t25.1 A28 c29 A31 c32 A34 c35) fun u40 hb38 S a E=>plc E (.r 8 1 .nil) fun a E=>pld (hK23 _ _ (sq fun K41 hK41=>rr E fun a E=>(E.ikn 35 H (fun c43 E H=>?_) fun c43 E H=>?_)))
  refine wp_skip (hK41 _ _ (sq fun K45 hK45=>pl0 (plc E (.bn 0 0 7 (S.ba 4)<|.bn 1 0 7 hb38<|.nil) fun a E=>?_)))
  have S:=S.front 1 rfl
  obtain ⟨F46,hs,g47,S⟩:=S.give
  have g30:=g30.mono hs
  have g33:=g33.mono hs
  have g0_4:=g0_4.mono hs
  have g0_5:=g0_5.mono hs
  have g0_6:=g0_6.mono hs
  have g1_6:=g1_6.mono hs
  have g2_0:=g2_0.mono hs
  obtain ⟨t49,h50,H⟩:=bd H
  refine ple E (.cl en40 (qAl.calls k18 x t25.1 _ _ _ _ _ _ _ _ _ _ _ _ _ _ _ S.own.sub g0_4 g0_5 g0_6 g30 g33 g47 h50)) ?_
  rintro _ u48 a ⟨F51,A52,c53,rfl,hC⟩ E
  have hs:=hC.sub
  have S:=S.called (X:=[]) hC
  have g30:=g30.mono hs
  have g33:=g33.mono hs
  have g47:=g47.mono hs
  have g0_4:=g0_4.mono hs
  have g0_5:=g0_5.mono hs
  have g0_6:=g0_6.mono hs
  have g1_6:=g1_6.mono hs
  have g2_0:=g2_0.mono hs
  refine plc E (.r 3 1 .nil) fun a E=>pld (hK45 _ _ (sq fun K56 hK56=>rr E fun a E=>(E.ik 42 H (fun c58 E H=>?_) fun c58 E H=>?_)))
  refine rr E fun a E=>(wp_ret (qCc ?_))
  have S:=S.pm [] 5
  obtain rfl:=si H
  exact rt1 E ⟨_,rfl,_,rfl,S⟩
  refine wp_skip (hK56 _ _ (rr E fun a E=>(sq fun K61 hK61=>sq fun K62 hK62=>?_)))
  have J80:∀ kq78,kq78<=k18->∀(G:NV)(y75:Bool)(F76:World)(a:Act)(w':World),Env 83 G a->At G [(9,.pointer (pb b38)),(11,.slice A52 t49.length c53),(60,.bool y75)]->Sm W F w' F76 [box b38 (mA t25.1 A28 c29 A31 c32 A34 c35) 26,box b6 #[.slice A2_0 z.length c2_0] 30,box b4 (dA y A1_6 c1_6) 29,box b2 (mA x A0_4 c0_4 A0_5 c0_5 A0_6 c0_6) 26,row ki 3 (.slice A52 t49.length c53) t49]->Rd qA.k F76 A28 c29 t25.1.f4->Rd qE.k F76 A31 c32 t25.1.f5->Rd qC.k F76 A34 c35 t25.1.f6->Rd Kn.bool F76 A2_0 c2_0 z->Rd ki F76 A1_6 c1_6 y.f6->Rd qA.k F76 A0_4 c0_4 x.f4->Rd qE.k F76 A0_5 c0_5 x.f5->Rd qC.k F76 A0_6 c0_6 x.f6->qAn.j77 kq78 t25 t49 y75=some r->K62 a w':=by
   intro kq78 hkq G y75 F76 a u81 E A S g30 g33 g47 g2_0 g1_6 g0_4 g0_5 g0_6 H
   obtain _ | k79:=kq78
   exact zz H
   rw [qAn.j77_s]at H
   obtain ⟨J,E⟩:=E.at A
   refine hK62 _ _ (E.ib 60 H (fun c82 E H=>?_) fun c82 E H=>?_)
   refine rr E fun a E=>(wp_ret (qCc ?_))
   have S:=S.pm [] 5
   obtain rfl:=si H
   exact rt1 E ⟨_,rfl,_,rfl,S⟩
   refine wp_skip (hK61 _ _ (sq fun K84 hK84=>rr E fun a E=>(wp_block ?_)))
   refine wp_loop_ghost (fun kq89 a w'=>∃(G:NV)(x86:Int)(F87:World),kq89<=k79/\Env 83 G a/\At G [(9,.pointer (pb b38)),(61,.slice A52 t49.length c53),(62,iv (t49.length:Int)),(63,iv x86)]/\Sm W F w' F87 [box b38 (mA t25.1 A28 c29 A31 c32 A34 c35) 26,box b6 #[.slice A2_0 z.length c2_0] 30,box b4 (dA y A1_6 c1_6) 29,box b2 (mA x A0_4 c0_4 A0_5 c0_5 A0_6 c0_6) 26,row ki 3 (.slice A52 t49.length c53) t49]/\Rd qA.k F87 A28 c29 t25.1.f4/\Rd qE.k F87 A31 c32 t25.1.f5/\Rd qC.k F87 A34 c35 t25.1.f6/\Rd Kn.bool F87 A2_0 c2_0 z/\Rd ki F87 A1_6 c1_6 y.f6/\Rd qA.k F87 A0_4 c0_4 x.f4/\Rd qE.k F87 A0_5 c0_5 x.f5/\Rd qC.k F87 A0_6 c0_6 x.f6/\qAn.l88 kq89 t25 t49 x86=some r) k79 ⟨_,0,F76,Nat.le_refl _,E,.of,S,g30,g33,g47,g2_0,g1_6,g0_4,g0_5,g0_6,H⟩ ?_
   rintro kq89 a u91 ⟨G,x86,F87,hkq,E,A,S,g30,g33,g47,g2_0,g1_6,g0_4,g0_5,g0_6,H⟩
   obtain _ | k90:=kq89
   exact zz H
   rw [qAn.l88_s]at H
   obtain ⟨J,E⟩:=E.at A
   refine rr E fun a E=>(sq fun K93 hK93=>E.ik 64 H (fun c94 E H=>?_) fun c94 E H=>?_)
   refine wp_skip (hK93 _ _ (sq fun K95 hK95=>wp_block (sq fun K96 hK96=>pl0 ?_)))
   obtain ⟨c97,H⟩:=gd H
   have hr98:=S.ra 4
   have hE_:=E
   obtain ⟨b99,rfl⟩:=qCi hr98 c97.1 c97.2
   replace E:=hE_
   have hr_:=S.ra 4
   obtain ⟨cs101,rfl,hc102⟩:=qCh hr_ 0 x86 c97.1 c97.2
   refine plc E (.x 0 c97<|.c 1 (hc102 0 _ rfl)<|.r 2 1<|.nil) fun a E=>pld (hK96 _ _ (sq fun K103 hK103=>pl0 (plc E (.bn 0 0 7 (S.ba 0)<|.r 1 1<|.nil) fun a E=>?_)))
   obtain ⟨t105,h106,H⟩:=bd H
   refine ple E (.cl en44 (qBe.calls k90 t25.1 (nth 0 t49 x86) _ _ _ _ _ _ _ _ _ S.own.sub g30 g33 g47 h106)) ?_
   rintro _ u104 a ⟨F107,A108,c109,rfl,hC⟩ E
   have hs:=hC.sub
   have S:=S.called (X:=[]) hC
   have g30:=g30.mono hs
   have g33:=g33.mono hs
   have g47:=g47.mono hs
   have g2_0:=g2_0.mono hs
   have g1_6:=g1_6.mono hs
   have g0_4:=g0_4.mono hs
   have g0_5:=g0_5.mono hs
   have g0_6:=g0_6.mono hs
   refine plc E (.r 3 1 .nil) fun a E=>pld (hK103 _ _ (sq fun K112 hK112=>?_))
   have J121:∀ kq119,kq119<=k90->∀(G:NV)(y117:Bool)(a:Act)(w':World),Env 83 G a->At G [(9,.pointer (pb b38)),(61,.slice (pb b99) t49.length c53),(62,iv (t49.length:Int)),(63,iv x86),(81,.bool y117)]->Sm W F w' F107 [box b38 (mA t25.1 A28 c29 A31 c32 A34 c35) 26,box b6 #[.slice A2_0 z.length c2_0] 30,box b4 (dA y A1_6 c1_6) 29,box b2 (mA x A0_4 c0_4 A0_5 c0_5 A0_6 c0_6) 26,row ki 3 (.slice (pb b99) t49.length c53) t49]->qAn.j118 kq119 t25 t49 x86 y117=some r->K112 a w':=by
    intro kq119 hkq G y117 a u122 E A S H
    obtain _ | k120:=kq119
    exact zz H
    rw [qAn.j118_s]at H
    obtain ⟨J,E⟩:=E.at A
    refine hK112 _ _ (E.ib 81 H (fun c123 E H=>?_) fun c123 E H=>?_)
    refine rr E fun a E=>(wp_ret (qCd (qCc (qCc (qCd (qCc ?_))))))
    have S:=S.pm [] 5
    obtain rfl:=si H
    exact rt1 E ⟨_,rfl,_,rfl,S⟩
    refine wp_skip ?_
    refine qCe ?_
    refine hK95 _ _ (pl0 (plc E (.r 0 2 .nil) fun a E=>pld ?_))
    exact qCf ⟨k120,by omega,_,(w64 (x86+1)),F107,by omega,E,.of,S,g30,g33,g47,g2_0,g1_6,g0_4,g0_5,g0_6,H⟩
   refine pl0 ?_
   have hb38:=S.ba 1
   refine plc E (.r 0 3<|.b 3 2 hb38<|.r 4 2<|.nil) fun a E=>E.fk 75 H (fun c113 E H=>?_) fun c113 E H=>?_
   refine plc E (.r 6 6 .nil) fun a E=>pld ?_
   have S:=S.tail
   exact J121 _ (by omega) _ true _ _ E .of S H
   refine plc E (.r 6 1<|.b 7 4 hb38<|.r 8 1<|.nil) fun a E=>?_
   obtain ⟨t115,h116,H⟩:=bd H
   refine plq E S en45 (qAX.calls k90 t25.1.f4 t105 _ _ _ _ _ _ _ (Sub.refl _) (g30.mono S.own.sub) (S.rd_at (i:=0) rfl) h116) fun u114 S a E=>plc E (.r 10 2 .nil) fun a E=>pld ?_
   have S:=S.tail
   exact J121 _ (by omega) _ (!t115) _ _ E .of S H
   refine wp_exit ?_
   refine hK84 _ _ (rr E fun a E=>(wp_ret ?_))
   have S:=S.pm [] 5
   obtain rfl:=si H
   exact rt1 E ⟨_,rfl,_,rfl,S⟩
  refine drawn 17 ⟨[],[],fun q=>False⟩ mixed rfl (by kernel_rfl) fun hst=>?_
  have S:=S.drew
  refine mny 15 hst E (.r 0 2 .nil) fun a E=>?_
  obtain ⟨t64,h65,H⟩:=bd H
  refine on1 2 E (.cl en43 (qAK.calls k18 t49 x z _ _ _ _ _ _ _ _ _ _ _ _ _ _ _ (Sub.refl _) (S.rd_at (i:=0) rfl) (g0_4.mono S.own.sub) (g0_5.mono S.own.sub) (g0_6.mono S.own.sub) (S.ba 4) (g2_0.mono S.own.sub) (S.ba 2) h65)) ?_
  rintro _ u63 a ⟨_,rfl,hC⟩ E
  refine ⟨.of hC.agr,?_⟩
  have S:=S.lent hC
  refine mny 13 hst E (.r 3 1 .nil) fun a E=>?_
  refine E.fb 47 H (fun c66 E H=>?_) fun c66 E H=>?_
  refine mny 0 hst E (.r 4 13 .nil) fun a E=>?_
  refine dn ?_
  have S:=S.pm [1,2,3,4,0] 5
  exact J80 _ (by omega) _ true F51 _ _ E .of S g30 g33 g47 g2_0 g1_6 g0_4 g0_5 g0_6 H
  have hb2:=S.ba 4
  have hb6:=S.ba 2
  refine mny 6 hst E (.r 4 1<|.b 5 3 hb2<|.bn 6 0 7 hb2<|.b 7 0 hb6<|.r 11 2<|.r 14 1<|.nil) fun a E=>?_
  obtain ⟨t68,h69,H⟩:=bd H
  refine on1 8 E (.cl en18 (qBS.calls k18 x z _ _ _ _ _ _ _ _ _ _ _ S.own.sub g0_4 g0_5 g0_6 g2_0 h69)) ?_
  rintro _ u67 a ⟨F70,A71,c72,rfl,hC⟩ E
  refine ⟨.of hC.agr,?_⟩
  have hs:=hC.sub
  have S:=S.called (X:=[]) hC
  have g30:=g30.mono hs
  have g33:=g33.mono hs
  have g47:=g47.mono hs
  have g0_4:=g0_4.mono hs
  have g0_5:=g0_5.mono hs
  have g0_6:=g0_6.mono hs
  have g1_6:=g1_6.mono hs
  have g2_0:=g2_0.mono hs
  refine mny 0 hst E (.r 9 2<|.r 13 1<|.r 15 2<|.nil) fun a E=>?_
  refine dn ?_
  have S:=S.pm [2,3,4,5,1] 6
  exact J80 _ (by omega) _ (decide ((w64 ((w64 (x.f3 - (t68.length:Int)))+(t49.length:Int)))>p)) F70 _ _ E .of S g30 g33 g47 g2_0 g1_6 g0_4 g0_5 g0_6 H
  refine rr E fun a E=>(wp_ret (qCc ?_))
  have S:=S.pm [] 5
  obtain rfl:=si H
  exact rt1 E ⟨_,rfl,_,rfl,S⟩
 refine pl0 (plc E (.bn 0 0 7 (S.ba 2)<|.b 1 0 hb6<|.nil) fun a E=>?_)
 obtain ⟨t11,h12,H⟩:=bd H
 refine plq E S en38 (qBn.calls k x z _ _ _ _ _ _ _ _ _ _ _ S.own.sub g0_4 g0_5 g0_6 g2_0 h12) fun u10 S a E=>plc E (.r 3 2 .nil) fun a E=>E.fbn 20 H (fun c13 E H=>?_) fun c13 E H=>?_
 refine plc E (.r 5 4 .nil) fun a E=>E.fk 24 H (fun c14 E H=>?_) fun c14 E H=>?_
 refine plc E (.r 9 3 .nil) fun a E=>pld ?_
 exact J19 _ (by omega) _ true _ _ E .of S H
 refine plc E (.r 9 3 .nil) fun a E=>pld ?_
 exact J19 _ (by omega) _ (decide (p>8)) _ _ E .of S H
 refine plc E (.r 5 7 .nil) fun a E=>pld ?_
 exact J19 _ (by omega) _ true _ _ E .of S H
def qAH.l7:Nat->List qA->Int->Int->Option (qA × Bool)
 | 0,_,_,_=>none
 | k+1,x,y,x6=>if x6<(x.length:Int) then (if 0<=x6/\x6<(x.length:Int) then (if (nth qA.z x x6).f0=y then (some ((nth qA.z x x6),true)) else (qAH.l7 k x y (w64 (x6+1)))) else (none)) else (some ((⟨0,0,0,0,false,false⟩:qA),false))
theorem qAH.l7_s k x y x6:type_of% (qAH.l7.eq_2 x y x6 k):=qAH.l7.eq_2 x y x6 k
def qAH.f(k:Nat)(x:List qA)(y:Int):Option (qA × Bool):=qAH.l7 k x y 0
def qAH.Post(W F:World)(r:qA × Bool)(v:Value)(w':World):Prop:=∃(F':World),v = .tuple #[.agg (nA r.1),.bool r.2]/\Sm W F w' F' []
theorem qAH.calls(k:Nat)(x:List qA)(y:Int)(A0_0:OA)(c0_0:Nat)(r:qA × Bool)(W F:World)(hown:Sub F W)(g0_0:Rd qA.k F A0_0 c0_0 x)(H:qAH.f k x y=some r):
    Cr 49 #[.slice A0_0 x.length c0_0,iv y] W (qAH.Post W F r):=by
 have S:=sT hown
 unfold qAH.f at H
 refine ent 25 rfl rfl rfl fun a E=>?_
 refine sq fun K1 hK1=>pl0 (pla (t:=68) E S [iv 0,iv 0,iv 0,iv 0,.bool false,.bool false] fun b2 u3 hb2 S a E=>plc E (.r 1 1 .nil) fun a E=>pld (hK1 _ _ (sq fun K4 hK4=>rr E fun a E=>(wp_block ?_))))
 refine wp_loop_ghost (fun kq8 a w'=>∃(G:NV)(x6:Int),kq8<=k/\Env 25 G a/\At G [(0,.slice A0_0 x.length c0_0),(1,iv y),(4,.pointer (pb b2)),(6,iv x6)]/\Sm W F w' F [box b2 #[iv 0,iv 0,iv 0,iv 0,.bool false,.bool false] 68]/\qAH.l7 kq8 x y x6=some r) k ⟨_,0,Nat.le_refl _,E,.of,S,H⟩ ?_
 rintro kq8 a u10 ⟨G,x6,hkq,E,A,S,H⟩
 obtain _ | k9:=kq8
 exact zz H
 rw [qAH.l7_s]at H
 obtain ⟨J,E⟩:=E.at A
 refine sq fun K11 hK11=>rr E fun a E=>(E.ik 10 H (fun c13 E H=>?_) fun c13 E H=>?_)
 refine wp_skip (hK11 _ _ (sq fun K14 hK14=>wp_block (sq fun K15 hK15=>pl0 ?_)))
 obtain ⟨c16,H⟩:=gd H
 have hE_:=E
 obtain ⟨ad17,rfl⟩:=g0_0.addr c16.1 c16.2
 replace E:=hE_
 obtain ⟨cs19,rfl,hc20⟩:=g0_0.el qA.z x6 c16.1 c16.2
 refine plc E (.r 0 2<|.x 2 c16<|.r 3 1<|.c 4 (S.fc hc20 0)<|.r 5 2<|.nil) fun a E=>pld (hK15 _ _ (E.ik 19 H (fun c21 E H=>?_) fun c21 E H=>?_))
 refine sq fun K22 hK22=>pl0 (plc E (.r 0 2<|.x 2 c16<|.cs 3 (S.fcs hc20)<|.nil) fun a E=>pls E S (nL (nth qA.z x x6)) fun u26 hb2 S a E=>plc E (.r 5 1 .nil) fun a E=>pld (hK22 _ _ (wp_ret (qCd (qCc (qCc (qCd (qCc ?_))))))))
 have S:=S.tail
 obtain rfl:=si H
 exact rtm E (.b hb2 ag68 sz68 (.t .nil)) ⟨_,rfl,_,rfl,S⟩
 refine wp_skip ?_
 refine qCe ?_
 refine hK14 _ _ (pl0 (plc E (.r 0 3 .nil) fun a E=>pld ?_))
 exact qCf ⟨k9,by omega,_,(w64 (x6+1)),by omega,E,.of,S,H⟩
 refine wp_exit ?_
 refine hK4 _ _ (sq fun K27 hK27=>pl0 (plc E (.r 0 1 .nil) fun a E=>pls E S [iv 0,iv 0,iv 0,iv 0,.bool false,.bool false] fun u28 hb2 S a E=>plc E (.r 2 1 .nil) fun a E=>pld (hK27 _ _ (wp_ret ?_))))
 have S:=S.tail
 obtain rfl:=si H
 exact rtm E (.b hb2 ag68 sz68 (.t .nil)) ⟨_,rfl,_,rfl,S⟩
mutual
def qp.l5:Nat->List qA->List Int->Int->Option Bool
 | 0,_,_,_=>none
 | k+1,x,y,x4=>if x4<(y.length:Int) then (if 0<=x4/\x4<(y.length:Int) then ((qAH.f k x (nth 0 y x4)).bind fun t20=>(if t20.2=true then (qp.l31 k x y x4 t20 0) else (some false))) else (none)) else (some true)
def qp.l31:Nat->List qA->List Int->Int->qA × Bool->Int->Option Bool
 | 0,_,_,_,_,_=>none
 | k+1,x,y,x4,t20,x30=>if x30<x4 then (if 0<=x30/\x30<(y.length:Int) then ((qAH.f k x (nth 0 y x30)).bind fun t45=>(if t20.1.f1=t45.1.f1 then (some false) else (qp.l31 k x y x4 t20 (w64 (x30+1))))) else (none)) else (qp.l5 k x y (w64 (x4+1)))
end
theorem qp.l5_s k x y x4:type_of% (qp.l5.eq_2 x y x4 k):=qp.l5.eq_2 x y x4 k
theorem qp.l31_s k x y x4 t20 x30:type_of% (qp.l31.eq_2 x y x4 t20 x30 k):=qp.l31.eq_2 x y x4 t20 x30 k
def qp.f(k:Nat)(x:List qA)(y:List Int):Option Bool:=qp.l5 k x y 0
def qp.Post(W F:World)(r:Bool)(v:Value)(w':World):Prop:=∃(F':World),v = .bool r/\Sm W F w' F' []
theorem qp.calls(k:Nat)(x:List qA)(y:List Int)(A0_0:OA)(c0_0:Nat)(A1_0:OA)(c1_0:Nat)(r:Bool)(W F:World)(hown:Sub F W)(g0_0:Rd qA.k F A0_0 c0_0 x)(g1_0:Rd ki F A1_0 c1_0 y)(H:qp.f k x y=some r):
    Cr 17 #[.slice A0_0 x.length c0_0,.slice A1_0 y.length c1_0] W (qp.Post W F r):=by
 have S:=sT hown
 unfold qp.f at H
 refine ent 47 rfl rfl rfl fun a E=>?_
 refine rr E fun a E=>(sq fun K2 hK2=>rr E fun a E=>(wp_block ?_))
 refine wp_loop_ghost (fun kq6 a w'=>∃(G:NV)(x4:Int),kq6<=k/\Env 47 G a/\At G [(0,.slice A0_0 x.length c0_0),(1,.slice A1_0 y.length c1_0),(5,iv x4)]/\Sm W F w' F []/\qp.l5 kq6 x y x4=some r) k ⟨_,0,Nat.le_refl _,E,.of,S,H⟩ ?_
 rintro kq6 a u8 ⟨G,x4,hkq,E,A,S,H⟩
 obtain _ | k7:=kq6
 exact zz H
 rw [qp.l5_s]at H
 obtain ⟨J,E⟩:=E.at A
 refine sq fun K9 hK9=>rr E fun a E=>(E.ik 14 H (fun c11 E H=>?_) fun c11 E H=>?_)
 refine wp_skip (hK9 _ _ (sq fun K12 hK12=>wp_block (sq fun K13 hK13=>pl0 ?_)))
 obtain ⟨c14,H⟩:=gd H
 have hE_:=E
 obtain ⟨ad15,rfl⟩:=g1_0.addr c14.1 c14.2
 replace E:=hE_
 obtain ⟨cs17,rfl,hc18⟩:=g1_0.el 0 x4 c14.1 c14.2
 refine plc E (.r 0 3<|.x 3 c14<|.c 4 (S.fc hc18 0)<|.nil) fun a E=>?_
 obtain ⟨t20,h21,H⟩:=bd H
 refine plq E S en49 (qAH.calls k7 x (nth 0 y x4) _ _ _ _ _ S.own.sub g0_0 h21) fun u19 S a E=>plc E (.r 6 3 .nil) fun a E=>pla (t:=68) E S [iv 0,iv 0,iv 0,iv 0,.bool false,.bool false] fun b22 u23 hb22 S a E=>pls E S (nL t20.1) fun u24 hb22 S a E=>plc E (.r 11 1 .nil) fun a E=>pld (hK13 _ _ (sq fun K25 hK25=>rr E fun a E=>(E.ibn 27 H (fun c27 E H=>?_) fun c27 E H=>?_)))
 refine wp_skip (hK25 _ _ (rr E fun a E=>(wp_block ?_)))
 refine wp_loop_ghost (fun kq32 a w'=>∃(G:NV)(x30:Int),kq32<=k7/\Env 47 G a/\At G [(0,.slice A0_0 x.length c0_0),(1,.slice (some ad15) y.length c1_0),(5,iv x4),(6,.pointer (pb b22)),(8,iv x30)]/\Sm W F w' F [box b22 (nA t20.1) 68]/\qp.l31 kq32 x y x4 t20 x30=some r) k7 ⟨_,0,Nat.le_refl _,E,.of,S,H⟩ ?_
 rintro kq32 a u34 ⟨G,x30,hkq,E,A,S,H⟩
 obtain _ | k33:=kq32
 exact zz H
 rw [qp.l31_s]at H
 obtain ⟨J,E⟩:=E.at A
 refine sq fun K35 hK35=>rr E fun a E=>(E.ik 30 H (fun c37 E H=>?_) fun c37 E H=>?_)
 refine wp_skip (hK35 _ _ (sq fun K38 hK38=>wp_block (sq fun K39 hK39=>pl0 ?_)))
 obtain ⟨c40,H⟩:=gd H
 obtain ⟨cs42,rfl,hc43⟩:=g1_0.el 0 x30 c40.1 c40.2
 refine plc E (.r 0 3<|.x 3 c40<|.c 4 (S.fc hc43 0)<|.nil) fun a E=>?_
 obtain ⟨t45,h46,H⟩:=bd H
 refine plq E S en49 (qAH.calls k33 x (nth 0 y x30) _ _ _ _ _ S.own.sub g0_0 h46) fun u44 S a E=>plc E (.r 6 3 .nil) fun a E=>pla (t:=68) E S [iv 0,iv 0,iv 0,iv 0,.bool false,.bool false] fun b47 u48 hb47 S a E=>pls E S (nL t45.1) fun u49 hb47 S a E=>plc E (.r 11 1 .nil) fun a E=>pld (hK39 _ _ (rg E (.r 0 1<|.b 1 1 (S.ba 1)<|.r 2 1<|.b 3 1 hb47<|.r 4 1<|.nil) fun a E=>(E.ik 46 H (fun c51 E H=>?_) fun c51 E H=>?_)))
 refine rr E fun a E=>(wp_ret (qCd (qCc (qCc (qCd (qCd (qCc (qCc (qCd (qCc ?_))))))))))
 have S:=S.pm [] 2
 obtain rfl:=si H
 exact rt1 E ⟨_,rfl,_,rfl,S⟩
 refine wp_skip ?_
 refine qCe ?_
 refine hK38 _ _ (pl0 (plc E (.r 0 3 .nil) fun a E=>pld ?_))
 have S:=S.tail
 exact qCf ⟨k33,by omega,_,(w64 (x30+1)),by omega,E,.of,S,H⟩
 refine wp_exit ?_
 refine hK12 _ _ (pl0 (plc E (.r 0 3 .nil) fun a E=>pld ?_))
 have S:=S.tail
 exact qCf ⟨k33,by omega,_,(w64 (x4+1)),by omega,E,.of,S,H⟩
 refine rr E fun a E=>(wp_ret (qCc (qCd (qCc (qCc (qCd (qCc ?_)))))))
 have S:=S.tail
 obtain rfl:=si H
 exact rt1 E ⟨_,rfl,_,rfl,S⟩
 refine wp_exit ?_
 refine hK2 _ _ (rr E fun a E=>(wp_ret ?_))
 obtain rfl:=si H
 exact rt1 E ⟨_,rfl,_,rfl,S⟩
mutual
def qn.l5:Nat->List qA->Int->Option Bool
 | 0,_,_=>none
 | k+1,x,x4=>if x4<(x.length:Int) then (if 0<=x4/\x4<(x.length:Int) then (if (nth qA.z x x4).f0<1 then (qn.j37 k x x4 true) else (if (nth qA.z x x4).f0>999 then (qn.j37 k x x4 true) else (if (nth qA.z x x4).f1<1 then (qn.j37 k x x4 true) else (if (nth qA.z x x4).f1>9 then (qn.j37 k x x4 true) else (if (nth qA.z x x4).f2<1 then (qn.j37 k x x4 true) else (if (nth qA.z x x4).f2>9 then (qn.j37 k x x4 true) else (if (nth qA.z x x4).f3<0 then (qn.j37 k x x4 true) else (if (nth qA.z x x4).f3>65536 then (qn.j37 k x x4 true) else (if x4>0 then (if 0<=(w64 (x4 - 1))/\(w64 (x4 - 1))<(x.length:Int) then (qn.j37 k x x4 (decide ((nth qA.z x (w64 (x4 - 1))).f0>=(nth qA.z x x4).f0))) else (none)) else (qn.j37 k x x4 false)))))))))) else (none)) else (some (decide ((x.length:Int)<=12)))
def qn.j37:Nat->List qA->Int->Bool->Option Bool
 | 0,_,_,_=>none
 | k+1,x,x4,y36=>if y36=true then (some false) else (qn.l5 k x (w64 (x4+1)))
end
theorem qn.l5_s k x x4:type_of% (qn.l5.eq_2 x x4 k):=qn.l5.eq_2 x x4 k
theorem qn.j37_s k x x4 y36:type_of% (qn.j37.eq_2 x x4 y36 k):=qn.j37.eq_2 x x4 y36 k
def qn.f(k:Nat)(x:List qA):Option Bool:=qn.l5 k x 0
def qn.Post(W F:World)(r:Bool)(v:Value)(w':World):Prop:=∃(F':World),v = .bool r/\Sm W F w' F' []
theorem qn.calls(k:Nat)(x:List qA)(A0_0:OA)(c0_0:Nat)(r:Bool)(W F:World)(hown:Sub F W)(g0_0:Rd qA.k F A0_0 c0_0 x)(H:qn.f k x=some r):
    Cr 50 #[.slice A0_0 x.length c0_0] W (qn.Post W F r):=by
 have S:=sT hown
 unfold qn.f at H
 refine ent 71 rfl rfl rfl fun a E=>?_
 refine rr E fun a E=>(sq fun K2 hK2=>rr E fun a E=>(wp_block ?_))
 refine wp_loop_ghost (fun kq6 a w'=>∃(G:NV)(x4:Int),kq6<=k/\Env 71 G a/\At G [(0,.slice A0_0 x.length c0_0),(3,iv x4)]/\Sm W F w' F []/\qn.l5 kq6 x x4=some r) k ⟨_,0,Nat.le_refl _,E,.of,S,H⟩ ?_
 rintro kq6 a u8 ⟨G,x4,hkq,E,A,S,H⟩
 obtain _ | k7:=kq6
 exact zz H
 rw [qn.l5_s]at H
 obtain ⟨J,E⟩:=E.at A
 refine sq fun K9 hK9=>rr E fun a E=>(E.ik 8 H (fun c11 E H=>?_) fun c11 E H=>?_)
 refine wp_skip (hK9 _ _ (sq fun K12 hK12=>wp_block (sq fun K13 hK13=>pl0 ?_)))
 obtain ⟨c14,H⟩:=gd H
 have hE_:=E
 obtain ⟨ad15,rfl⟩:=g0_0.addr c14.1 c14.2
 replace E:=hE_
 obtain ⟨cs17,rfl,hc18⟩:=g0_0.el qA.z x4 c14.1 c14.2
 refine plc E (.r 0 2<|.x 2 c14<|.cs 3 (S.fcs hc18)<|.nil) fun a E=>pla (t:=68) E S [iv 0,iv 0,iv 0,iv 0,.bool false,.bool false] fun b19 u20 hb19 S a E=>pls E S (nL (nth qA.z x x4)) fun u21 hb19 S a E=>pld (hK13 _ _ (sq fun K22 hK22=>?_))
 have J40:∀ kq38,kq38<=k7->∀(G:NV)(y36:Bool)(a:Act)(w':World),Env 71 G a->At G [(0,.slice (some ad15) x.length c0_0),(3,iv x4),(67,.bool y36)]->Sm W F w' F [box b19 (nA (nth qA.z x x4)) 68]->qn.j37 kq38 x x4 y36=some r->K22 a w':=by
  intro kq38 hkq G y36 a u41 E A S H
  obtain _ | k39:=kq38
  exact zz H
  rw [qn.j37_s]at H
  obtain ⟨J,E⟩:=E.at A
  refine hK22 _ _ (E.ib 67 H (fun c42 E H=>?_) fun c42 E H=>?_)
  refine rr E fun a E=>(wp_ret (qCd (qCc (qCc (qCd (qCc ?_))))))
  have S:=S.tail
  obtain rfl:=si H
  exact rt1 E ⟨_,rfl,_,rfl,S⟩
  refine wp_skip ?_
  refine qCe ?_
  refine hK12 _ _ (pl0 (plc E (.r 0 3 .nil) fun a E=>pld ?_))
  have S:=S.tail
  exact qCf ⟨k39,by omega,_,(w64 (x4+1)),by omega,E,.of,S,H⟩
 refine drawn 53 ⟨[],[],fun q=>False⟩ mixed rfl (by kernel_rfl) fun hst=>?_
 have S:=S.drew
 have hb19:=S.ba 0
 refine mny 49 hst E (.r 0 1<|.b 1 0 hb19<|.r 2 2<|.nil) fun a E=>?_
 refine E.fk 18 H (fun c23 E H=>?_) fun c23 E H=>?_
 refine mny 0 hst E (.r 4 49 .nil) fun a E=>?_
 refine dn ?_
 exact J40 _ (by omega) _ true _ _ E .of S H
 refine mny 44 hst E (.r 4 1<|.b 5 0 hb19<|.r 6 3<|.nil) fun a E=>?_
 refine E.fk 23 H (fun c24 E H=>?_) fun c24 E H=>?_
 refine mny 0 hst E (.r 9 44 .nil) fun a E=>?_
 refine dn ?_
 exact J40 _ (by omega) _ true _ _ E .of S H
 refine mny 39 hst E (.r 9 1<|.b 10 1 hb19<|.r 11 3<|.nil) fun a E=>?_
 refine E.fk 28 H (fun c25 E H=>?_) fun c25 E H=>?_
 refine mny 0 hst E (.r 14 39 .nil) fun a E=>?_
 refine dn ?_
 exact J40 _ (by omega) _ true _ _ E .of S H
 refine mny 34 hst E (.r 14 1<|.b 15 1 hb19<|.r 16 3<|.nil) fun a E=>?_
 refine E.fk 33 H (fun c26 E H=>?_) fun c26 E H=>?_
 refine mny 0 hst E (.r 19 34 .nil) fun a E=>?_
 refine dn ?_
 exact J40 _ (by omega) _ true _ _ E .of S H
 refine mny 29 hst E (.r 19 1<|.b 20 2 hb19<|.r 21 3<|.nil) fun a E=>?_
 refine E.fk 38 H (fun c27 E H=>?_) fun c27 E H=>?_
 refine mny 0 hst E (.r 24 29 .nil) fun a E=>?_
 refine dn ?_
 exact J40 _ (by omega) _ true _ _ E .of S H
 refine mny 24 hst E (.r 24 1<|.b 25 2 hb19<|.r 26 3<|.nil) fun a E=>?_
 refine E.fk 43 H (fun c28 E H=>?_) fun c28 E H=>?_
 refine mny 0 hst E (.r 29 24 .nil) fun a E=>?_
 refine dn ?_
 exact J40 _ (by omega) _ true _ _ E .of S H
 refine mny 19 hst E (.r 29 1<|.b 30 3 hb19<|.r 31 3<|.nil) fun a E=>?_
 refine E.fk 48 H (fun c29 E H=>?_) fun c29 E H=>?_
 refine mny 0 hst E (.r 34 19 .nil) fun a E=>?_
 refine dn ?_
 exact J40 _ (by omega) _ true _ _ E .of S H
 refine mny 14 hst E (.r 34 1<|.b 35 3 hb19<|.r 36 3<|.nil) fun a E=>?_
 refine E.fk 53 H (fun c30 E H=>?_) fun c30 E H=>?_
 refine mny 0 hst E (.r 39 14 .nil) fun a E=>?_
 refine dn ?_
 exact J40 _ (by omega) _ true _ _ E .of S H
 refine mny 11 hst E (.r 39 3 .nil) fun a E=>?_
 refine E.fk 56 H (fun c31 E H=>?_) fun c31 E H=>?_
 obtain ⟨c32,H⟩:=gd H
 obtain ⟨cs34,rfl,hc35⟩:=g0_0.el qA.z (w64 (x4 - 1)) c32.1 c32.2
 refine mny 0 hst E (.r 42 3<|.x 45 c32<|.r 46 1<|.c 47 (S.fc hc35 0)<|.r 48 1<|.b 49 0 hb19<|.r 50 3<|.nil) fun a E=>?_
 refine dn ?_
 exact J40 _ (by omega) _ (decide ((nth qA.z x (w64 (x4 - 1))).f0>=(nth qA.z x x4).f0)) _ _ E .of S H
 refine mny 0 hst E (.r 42 11 .nil) fun a E=>?_
 refine dn ?_
 exact J40 _ (by omega) _ false _ _ E .of S H
 refine wp_exit ?_
 refine hK2 _ _ (rr E fun a E=>(wp_ret ?_))
 obtain rfl:=si H
 exact rt1 E ⟨_,rfl,_,rfl,S⟩
def qAE.l9:Nat->List Int->List Int->Int->Option Bool
 | 0,_,_,_=>none
 | k+1,x,y,x8=>if x8<(x.length:Int) then (if 0<=x8/\x8<(x.length:Int) then (if 0<=x8/\x8<(y.length:Int) then (if (nth 0 x x8)=(nth 0 y x8) then (qAE.l9 k x y (w64 (x8+1))) else (some false)) else (none)) else (none)) else (some true)
theorem qAE.l9_s k x y x8:type_of% (qAE.l9.eq_2 x y x8 k):=qAE.l9.eq_2 x y x8 k
def qAE.f(k:Nat)(x:List Int)(y:List Int):Option Bool:=if (x.length:Int)=(y.length:Int) then (qAE.l9 k x y 0) else (some false)
def qAE.Post(W F:World)(r:Bool)(v:Value)(w':World):Prop:=∃(F':World),v = .bool r/\Sm W F w' F' []
theorem qAE.calls(k:Nat)(x:List Int)(y:List Int)(A0_0:OA)(c0_0:Nat)(A1_0:OA)(c1_0:Nat)(r:Bool)(W F:World)(hown:Sub F W)(g0_0:Rd ki F A0_0 c0_0 x)(g1_0:Rd ki F A1_0 c1_0 y)(H:qAE.f k x y=some r):
    Cr 23 #[.slice A0_0 x.length c0_0,.slice A1_0 y.length c1_0] W (qAE.Post W F r):=by
 have S:=sT hown
 unfold qAE.f at H
 refine ent 26 rfl rfl rfl fun a E=>?_
 refine rr E fun a E=>(sq fun K2 hK2=>rr E fun a E=>(E.ikn 10 H (fun c4 E H=>?_) fun c4 E H=>?_))
 refine wp_skip (hK2 _ _ (sq fun K6 hK6=>rr E fun a E=>(wp_block ?_)))
 refine wp_loop_ghost (fun kq10 a w'=>∃(G:NV)(x8:Int),kq10<=k/\Env 26 G a/\At G [(0,.slice A0_0 x.length c0_0),(1,.slice A1_0 y.length c1_0),(5,iv x8)]/\Sm W F w' F []/\qAE.l9 kq10 x y x8=some r) k ⟨_,0,Nat.le_refl _,E,.of,S,H⟩ ?_
 rintro kq10 a u12 ⟨G,x8,hkq,E,A,S,H⟩
 obtain _ | k11:=kq10
 exact zz H
 rw [qAE.l9_s]at H
 obtain ⟨J,E⟩:=E.at A
 refine sq fun K13 hK13=>rr E fun a E=>(E.ik 14 H (fun c15 E H=>?_) fun c15 E H=>?_)
 refine wp_skip (hK13 _ _ (sq fun K16 hK16=>wp_block (sq fun K17 hK17=>?_)))
 refine drawn 9 ⟨[],[],fun q=>False⟩ mixed rfl (by kernel_rfl) fun hst=>?_
 have S:=S.drew
 obtain ⟨c18,H⟩:=gd H
 have hE_:=E
 obtain ⟨ad19,rfl⟩:=g0_0.addr c18.1 c18.2
 replace E:=hE_
 obtain ⟨cs21,rfl,hc22⟩:=g0_0.el 0 x8 c18.1 c18.2
 obtain ⟨c23,H⟩:=gd H
 have hE_:=E
 obtain ⟨ad24,rfl⟩:=g1_0.addr c23.1 c23.2
 replace E:=hE_
 obtain ⟨cs26,rfl,hc27⟩:=g1_0.el 0 x8 c23.1 c23.2
 refine mny 0 hst E (.r 0 2<|.x 2 c18<|.c 3 (S.fc hc22 0)<|.r 4 2<|.x 6 c23<|.c 7 (S.fc hc27 0)<|.r 8 1<|.nil) fun a E=>?_
 refine dn ?_
 refine hK17 _ _ (E.ikn 25 H (fun c28 E H=>?_) fun c28 E H=>?_)
 refine wp_skip ?_
 refine qCe ?_
 refine hK16 _ _ (pl0 (plc E (.r 0 3 .nil) fun a E=>pld ?_))
 exact qCf ⟨k11,by omega,_,(w64 (x8+1)),by omega,E,.of,S,H⟩
 refine rr E fun a E=>(wp_ret (qCd (qCc (qCc (qCd (qCc ?_))))))
 obtain rfl:=si H
 exact rt1 E ⟨_,rfl,_,rfl,S⟩
 refine wp_exit ?_
 refine hK6 _ _ (rr E fun a E=>(wp_ret ?_))
 obtain rfl:=si H
 exact rt1 E ⟨_,rfl,_,rfl,S⟩
 refine rr E fun a E=>(wp_ret (qCc ?_))
 obtain rfl:=si H
 exact rt1 E ⟨_,rfl,_,rfl,S⟩
mutual
def qK.l7:Nat->qD->Int->Option Bool
 | 0,_,_=>none
 | k+1,x,x6=>if x6<(x.f6.length:Int) then (if 0<=x6/\x6<(x.f6.length:Int) then (if (nth qC.z x.f6 x6).f0<0 then (qK.j31 k x x6 true) else (qK.j31 k x x6 (decide ((nth qC.z x.f6 x6).f0>x.f0)))) else (none)) else (some ((x.f6.length:Int) == x.f3))
def qK.j31:Nat->qD->Int->Bool->Option Bool
 | 0,_,_,_=>none
 | k+1,x,x6,y30=>if y30=true then (some false) else (qK.l40 k x x6 0)
def qK.l40:Nat->qD->Int->Int->Option Bool
 | 0,_,_,_=>none
 | k+1,x,x6,x39=>if x39<(((nth qC.z x.f6 x6).f1).length:Int) then (if 0<=x39/\x39<(((nth qC.z x.f6 x6).f1).length:Int) then (if (nth qG.z ((nth qC.z x.f6 x6).f1) x39).f0<0 then (qK.j66 k x x6 x39 true) else (if (nth qG.z ((nth qC.z x.f6 x6).f1) x39).f0>=(nth qC.z x.f6 x6).f0 then (qK.j66 k x x6 x39 true) else (if (((nth qG.z ((nth qC.z x.f6 x6).f1) x39).f1).length:Int)<x.f2 then (qK.j66 k x x6 x39 true) else (qK.j66 k x x6 x39 (decide ((((nth qG.z ((nth qC.z x.f6 x6).f1) x39).f1).length:Int)>x.f1)))))) else (none)) else (qK.l7 k x (w64 (x6+1)))
def qK.j66:Nat->qD->Int->Int->Bool->Option Bool
 | 0,_,_,_,_=>none
 | k+1,x,x6,x39,y65=>if y65=true then (some false) else (qK.l76 k x x6 x39 0)
def qK.l76:Nat->qD->Int->Int->Int->Option Bool
 | 0,_,_,_,_=>none
 | k+1,x,x6,x39,x75=>if x75<(((nth qG.z ((nth qC.z x.f6 x6).f1) x39).f1).length:Int) then (if 0<=x75/\x75<(((nth qG.z ((nth qC.z x.f6 x6).f1) x39).f1).length:Int) then (if (nth 0 ((nth qG.z ((nth qC.z x.f6 x6).f1) x39).f1) x75)<1 then (qK.j104 k x x6 x39 x75 true) else (if (nth 0 ((nth qG.z ((nth qC.z x.f6 x6).f1) x39).f1) x75)>999 then (qK.j104 k x x6 x39 x75 true) else (if x75>0 then (if 0<=(w64 (x75 - 1))/\(w64 (x75 - 1))<(((nth qG.z ((nth qC.z x.f6 x6).f1) x39).f1).length:Int) then (qK.j104 k x x6 x39 x75 (decide ((nth 0 ((nth qG.z ((nth qC.z x.f6 x6).f1) x39).f1) (w64 (x75 - 1)))>=(nth 0 ((nth qG.z ((nth qC.z x.f6 x6).f1) x39).f1) x75)))) else (none)) else (qK.j104 k x x6 x39 x75 false)))) else (none)) else (qK.l113 k x x6 x39 0)
def qK.j104:Nat->qD->Int->Int->Int->Bool->Option Bool
 | 0,_,_,_,_,_=>none
 | k+1,x,x6,x39,x75,y103=>if y103=true then (some false) else (qK.l76 k x x6 x39 (w64 (x75+1)))
def qK.l113:Nat->qD->Int->Int->Int->Option Bool
 | 0,_,_,_,_=>none
 | k+1,x,x6,x39,x112=>if x112<x39 then (if 0<=x112/\x112<(((nth qC.z x.f6 x6).f1).length:Int) then (if (nth qG.z ((nth qC.z x.f6 x6).f1) x112).f0>=(nth qG.z ((nth qC.z x.f6 x6).f1) x39).f0 then (qK.j137 k x x6 x39 x112 true) else ((qAE.f k ((nth qG.z ((nth qC.z x.f6 x6).f1) x112).f1) ((nth qG.z ((nth qC.z x.f6 x6).f1) x39).f1)).bind fun t134=>(qK.j137 k x x6 x39 x112 t134))) else (none)) else (qK.l40 k x x6 (w64 (x39+1)))
def qK.j137:Nat->qD->Int->Int->Int->Bool->Option Bool
 | 0,_,_,_,_,_=>none
 | k+1,x,x6,x39,x112,y136=>if y136=true then (some false) else (qK.l113 k x x6 x39 (w64 (x112+1)))
end
theorem qK.l7_s k x x6:type_of% (qK.l7.eq_2 x x6 k):=qK.l7.eq_2 x x6 k
theorem qK.j31_s k x x6 y30:type_of% (qK.j31.eq_2 x x6 y30 k):=qK.j31.eq_2 x x6 y30 k
theorem qK.l40_s k x x6 x39:type_of% (qK.l40.eq_2 x x6 x39 k):=qK.l40.eq_2 x x6 x39 k
theorem qK.j66_s k x x6 x39 y65:type_of% (qK.j66.eq_2 x x6 x39 y65 k):=qK.j66.eq_2 x x6 x39 y65 k
theorem qK.l76_s k x x6 x39 x75:type_of% (qK.l76.eq_2 x x6 x39 x75 k):=qK.l76.eq_2 x x6 x39 x75 k
theorem qK.j104_s k x x6 x39 x75 y103:type_of% (qK.j104.eq_2 x x6 x39 x75 y103 k):=qK.j104.eq_2 x x6 x39 x75 y103 k
theorem qK.l113_s k x x6 x39 x112:type_of% (qK.l113.eq_2 x x6 x39 x112 k):=qK.l113.eq_2 x x6 x39 x112 k
theorem qK.j137_s k x x6 x39 x112 y136:type_of% (qK.j137.eq_2 x x6 x39 x112 y136 k):=qK.j137.eq_2 x x6 x39 x112 y136 k
def qK.f(k:Nat)(x:qD):Option Bool:=qK.l7 k x 0
def qK.Post(W F:World)(r:Bool)(v:Value)(w':World):Prop:=∃(F':World),v = .bool r/\Sm W F w' F' []
theorem qK.calls(k:Nat)(x:qD)(A0_4:OA)(c0_4:Nat)(A0_5:OA)(c0_5:Nat)(A0_6:OA)(c0_6:Nat)(r:Bool)(W F:World)(hown:Sub F W)(g0_4:Rd qA.k F A0_4 c0_4 x.f4)(g0_5:Rd qE.k F A0_5 c0_5 x.f5)(g0_6:Rd qC.k F A0_6 c0_6 x.f6)(H:qK.f k x=some r):
    Cr 51 #[.agg (mA x A0_4 c0_4 A0_5 c0_5 A0_6 c0_6)] W (qK.Post W F r):=by
 have S:=sT hown
 unfold qK.f at H
 refine ent 139 rfl rfl rfl fun a E=>?_
 refine sq fun K1 hK1=>pl0 (plx (t:=26) E S (mL x A0_4 c0_4 A0_5 c0_5 A0_6 c0_6) fun b2 u3 hb2 S a E=>plc E (.r 1 1 .nil) fun a E=>pld (hK1 _ _ (sq fun K4 hK4=>rr E fun a E=>(wp_block ?_))))
 refine wp_loop_ghost (fun kq8 a w'=>∃(G:NV)(x6:Int),kq8<=k/\Env 139 G a/\At G [(1,.pointer (pb b2)),(3,iv x6)]/\Sm W F w' F [box b2 (mA x A0_4 c0_4 A0_5 c0_5 A0_6 c0_6) 26]/\qK.l7 kq8 x x6=some r) k ⟨_,0,Nat.le_refl _,E,.of,S,H⟩ ?_
 rintro kq8 a u10 ⟨G,x6,hkq,E,A,S,H⟩
 obtain _ | k9:=kq8
 exact zz H
 rw [qK.l7_s]at H
 obtain ⟨J,E⟩:=E.at A
 refine sq fun K11 hK11=>sq fun K12 hK12=>pl0 ?_
 have hb2:=S.ba 0
 refine plc E (.r 0 2<|.b 2 6 hb2<|.r 3 2<|.nil) fun a E=>pld (hK12 _ _ (E.ik 13 H (fun c13 E H=>?_) fun c13 E H=>?_))
 refine wp_skip (hK11 _ _ (sq fun K14 hK14=>wp_block (sq fun K15 hK15=>pl0 ?_)))
 obtain ⟨c16,H⟩:=gd H
 have hE_:=E
 obtain ⟨ad17,rfl⟩:=g0_6.addr c16.1 c16.2
 replace E:=hE_
 obtain ⟨cs19,⟨A21,c22,rfl,g23⟩,hc20⟩:=g0_6.el qC.z x6 c16.1 c16.2
 refine plc E (.r 0 1<|.b 1 6 hb2<|.r 2 1<|.x 3 c16<|.cs 4 (S.fcs hc20)<|.nil) fun a E=>pla (t:=73) E S [iv 0,.slice none 0 0] fun b24 u25 hb24 S a E=>pls E S [iv ((nth qC.z x.f6 x6).f0),.slice A21 (((nth qC.z x.f6 x6).f1).length) c22] fun u26 hb24 S a E=>pld (hK15 _ _ (sq fun K27 hK27=>sq fun K28 hK28=>?_))
 have J34:∀ kq32,kq32<=k9->∀(G:NV)(y30:Bool)(a:Act)(w':World),Env 139 G a->At G [(1,.pointer (pb b2)),(3,iv x6),(4,.pointer (pb b24)),(30,.bool y30)]->Sm W F w' F [box b24 #[iv ((nth qC.z x.f6 x6).f0),.slice A21 (((nth qC.z x.f6 x6).f1).length) c22] 73,box b2 #[iv x.f0,iv x.f1,iv x.f2,iv x.f3,.slice A0_4 x.f4.length c0_4,.slice A0_5 x.f5.length c0_5,.slice (some ad17) x.f6.length c0_6] 26]->qK.j31 kq32 x x6 y30=some r->K28 a w':=by
  intro kq32 hkq G y30 a u35 E A S H
  obtain _ | k33:=kq32
  exact zz H
  rw [qK.j31_s]at H
  obtain ⟨J,E⟩:=E.at A
  refine hK28 _ _ (E.ib 30 H (fun c36 E H=>?_) fun c36 E H=>?_)
  refine rr E fun a E=>(wp_ret (qCc (qCd (qCc (qCc (qCd (qCc ?_)))))))
  have S:=S.pm [] 2
  obtain rfl:=si H
  exact rt1 E ⟨_,rfl,_,rfl,S⟩
  refine wp_skip (hK27 _ _ (rr E fun a E=>(wp_block ?_)))
  refine wp_loop_ghost (fun kq41 a w'=>∃(G:NV)(x39:Int),kq41<=k33/\Env 139 G a/\At G [(1,.pointer (pb b2)),(3,iv x6),(4,.pointer (pb b24)),(5,iv x39)]/\Sm W F w' F [box b24 #[iv ((nth qC.z x.f6 x6).f0),.slice A21 (((nth qC.z x.f6 x6).f1).length) c22] 73,box b2 #[iv x.f0,iv x.f1,iv x.f2,iv x.f3,.slice A0_4 x.f4.length c0_4,.slice A0_5 x.f5.length c0_5,.slice (some ad17) x.f6.length c0_6] 26]/\qK.l40 kq41 x x6 x39=some r) k33 ⟨_,0,Nat.le_refl _,E,.of,S,H⟩ ?_
  rintro kq41 a u43 ⟨G,x39,hkq,E,A,S,H⟩
  obtain _ | k42:=kq41
  exact zz H
  rw [qK.l40_s]at H
  obtain ⟨J,E⟩:=E.at A
  refine sq fun K44 hK44=>sq fun K45 hK45=>pl0 ?_
  have hb24:=S.ba 0
  refine plc E (.r 0 2<|.b 2 1 hb24<|.r 3 2<|.nil) fun a E=>pld (hK45 _ _ (E.ik 35 H (fun c46 E H=>?_) fun c46 E H=>?_))
  refine wp_skip (hK44 _ _ (sq fun K47 hK47=>wp_block (sq fun K48 hK48=>pl0 ?_)))
  obtain ⟨c49,H⟩:=gd H
  have hE_:=E
  obtain ⟨ad50,rfl⟩:=g23.addr c49.1 c49.2
  replace E:=hE_
  obtain ⟨cs52,⟨A54,c55,rfl,g56⟩,hc53⟩:=g23.el qG.z x39 c49.1 c49.2
  refine plc E (.r 0 1<|.b 1 1 hb24<|.r 2 1<|.x 3 c49<|.cs 4 (S.fcs hc53)<|.nil) fun a E=>pla (t:=77) E S [iv 0,.slice none 0 0] fun b57 u58 hb57 S a E=>pls E S [iv ((nth qG.z ((nth qC.z x.f6 x6).f1) x39).f0),.slice A54 (((nth qG.z ((nth qC.z x.f6 x6).f1) x39).f1).length) c55] fun u59 hb57 S a E=>pld (hK48 _ _ (sq fun K60 hK60=>sq fun K61 hK61=>?_))
  have J69:∀ kq67,kq67<=k42->∀(G:NV)(y65:Bool)(a:Act)(w':World),Env 139 G a->At G [(1,.pointer (pb b2)),(3,iv x6),(4,.pointer (pb b24)),(5,iv x39),(6,.pointer (pb b57)),(68,.bool y65)]->Sm W F w' F [box b57 #[iv ((nth qG.z ((nth qC.z x.f6 x6).f1) x39).f0),.slice A54 (((nth qG.z ((nth qC.z x.f6 x6).f1) x39).f1).length) c55] 77,box b24 #[iv ((nth qC.z x.f6 x6).f0),.slice (some ad50) (((nth qC.z x.f6 x6).f1).length) c22] 73,box b2 #[iv x.f0,iv x.f1,iv x.f2,iv x.f3,.slice A0_4 x.f4.length c0_4,.slice A0_5 x.f5.length c0_5,.slice (some ad17) x.f6.length c0_6] 26]->qK.j66 kq67 x x6 x39 y65=some r->K61 a w':=by
   intro kq67 hkq G y65 a u70 E A S H
   obtain _ | k68:=kq67
   exact zz H
   rw [qK.j66_s]at H
   obtain ⟨J,E⟩:=E.at A
   refine hK61 _ _ (E.ib 68 H (fun c71 E H=>?_) fun c71 E H=>?_)
   refine rr E fun a E=>(wp_ret (qCc (qCd (qCc (qCc (qCd (qCd (qCc (qCc (qCd (qCc ?_)))))))))))
   have S:=S.pm [] 3
   obtain rfl:=si H
   exact rt1 E ⟨_,rfl,_,rfl,S⟩
   refine wp_skip (hK60 _ _ (sq fun K73 hK73=>rr E fun a E=>(wp_block ?_)))
   refine wp_loop_ghost (fun kq77 a w'=>∃(G:NV)(x75:Int),kq77<=k68/\Env 139 G a/\At G [(1,.pointer (pb b2)),(3,iv x6),(4,.pointer (pb b24)),(5,iv x39),(6,.pointer (pb b57)),(7,iv x75)]/\Sm W F w' F [box b57 #[iv ((nth qG.z ((nth qC.z x.f6 x6).f1) x39).f0),.slice A54 (((nth qG.z ((nth qC.z x.f6 x6).f1) x39).f1).length) c55] 77,box b24 #[iv ((nth qC.z x.f6 x6).f0),.slice (some ad50) (((nth qC.z x.f6 x6).f1).length) c22] 73,box b2 #[iv x.f0,iv x.f1,iv x.f2,iv x.f3,.slice A0_4 x.f4.length c0_4,.slice A0_5 x.f5.length c0_5,.slice (some ad17) x.f6.length c0_6] 26]/\qK.l76 kq77 x x6 x39 x75=some r) k68 ⟨_,0,Nat.le_refl _,E,.of,S,H⟩ ?_
   rintro kq77 a u79 ⟨G,x75,hkq,E,A,S,H⟩
   obtain _ | k78:=kq77
   exact zz H
   rw [qK.l76_s]at H
   obtain ⟨J,E⟩:=E.at A
   refine sq fun K80 hK80=>sq fun K81 hK81=>pl0 ?_
   have hb57:=S.ba 0
   refine plc E (.r 0 2<|.b 2 1 hb57<|.r 3 2<|.nil) fun a E=>pld (hK81 _ _ (E.ik 73 H (fun c82 E H=>?_) fun c82 E H=>?_))
   refine wp_skip (hK80 _ _ (sq fun K83 hK83=>wp_block (sq fun K84 hK84=>?_)))
   have J107:∀ kq105,kq105<=k78->∀(G:NV)(y103:Bool)(a:Act)(w':World),Env 139 G a->At G [(1,.pointer (pb b2)),(3,iv x6),(4,.pointer (pb b24)),(5,iv x39),(6,.pointer (pb b57)),(7,iv x75),(107,.bool y103)]->Sm W F w' F [box b57 #[iv ((nth qG.z ((nth qC.z x.f6 x6).f1) x39).f0),.slice A54 (((nth qG.z ((nth qC.z x.f6 x6).f1) x39).f1).length) c55] 77,box b24 #[iv ((nth qC.z x.f6 x6).f0),.slice (some ad50) (((nth qC.z x.f6 x6).f1).length) c22] 73,box b2 #[iv x.f0,iv x.f1,iv x.f2,iv x.f3,.slice A0_4 x.f4.length c0_4,.slice A0_5 x.f5.length c0_5,.slice (some ad17) x.f6.length c0_6] 26]->qK.j104 kq105 x x6 x39 x75 y103=some r->K84 a w':=by
    intro kq105 hkq G y103 a u108 E A S H
    obtain _ | k106:=kq105
    exact zz H
    rw [qK.j104_s]at H
    obtain ⟨J,E⟩:=E.at A
    refine hK84 _ _ (E.ib 107 H (fun c109 E H=>?_) fun c109 E H=>?_)
    refine rr E fun a E=>(wp_ret (qCd (qCc (qCc (qCd (qCc (qCd (qCc (qCc (qCd (qCd (qCc (qCc (qCd (qCc ?_)))))))))))))))
    have S:=S.pm [] 3
    obtain rfl:=si H
    exact rt1 E ⟨_,rfl,_,rfl,S⟩
    refine wp_skip ?_
    refine qCe ?_
    refine hK83 _ _ (pl0 (plc E (.r 0 3 .nil) fun a E=>pld ?_))
    exact qCf ⟨k106,by omega,_,(w64 (x75+1)),by omega,E,.of,S,H⟩
   refine drawn 32 ⟨[],[],fun q=>False⟩ mixed rfl (by kernel_rfl) fun hst=>?_
   have S:=S.drew
   have hb57:=S.ba 0
   obtain ⟨c85,H⟩:=gd H
   have hE_:=E
   obtain ⟨ad86,rfl⟩:=g56.addr c85.1 c85.2
   replace E:=hE_
   obtain ⟨cs88,rfl,hc89⟩:=g56.el 0 x75 c85.1 c85.2
   refine mny 25 hst E (.r 0 1<|.b 1 1 hb57<|.r 2 1<|.x 3 c85<|.c 4 (S.fc hc89 0)<|.r 5 2<|.nil) fun a E=>?_
   refine E.fk 82 H (fun c90 E H=>?_) fun c90 E H=>?_
   refine mny 0 hst E (.r 7 25 .nil) fun a E=>?_
   refine dn ?_
   exact J107 _ (by omega) _ true _ _ E .of S H
   refine mny 17 hst E (.r 7 1<|.b 8 1 hb57<|.r 9 1<|.x 10 c85<|.c 11 (S.fc hc89 0)<|.r 12 3<|.nil) fun a E=>?_
   refine E.fk 90 H (fun c94 E H=>?_) fun c94 E H=>?_
   refine mny 0 hst E (.r 15 17 .nil) fun a E=>?_
   refine dn ?_
   exact J107 _ (by omega) _ true _ _ E .of S H
   refine mny 14 hst E (.r 15 3 .nil) fun a E=>?_
   refine E.fk 93 H (fun c95 E H=>?_) fun c95 E H=>?_
   obtain ⟨c96,H⟩:=gd H
   obtain ⟨cs98,rfl,hc99⟩:=g56.el 0 (w64 (x75 - 1)) c96.1 c96.2
   refine mny 0 hst E (.r 18 1<|.b 19 1 hb57<|.r 20 2<|.x 22 c96<|.c 23 (S.fc hc99 0)<|.r 24 1<|.b 25 1 hb57<|.r 26 1<|.x 27 c85<|.c 28 (S.fc hc89 0)<|.r 29 3<|.nil) fun a E=>?_
   refine dn ?_
   exact J107 _ (by omega) _ (decide ((nth 0 ((nth qG.z ((nth qC.z x.f6 x6).f1) x39).f1) (w64 (x75 - 1)))>=(nth 0 ((nth qG.z ((nth qC.z x.f6 x6).f1) x39).f1) x75))) _ _ E .of S H
   refine mny 0 hst E (.r 18 14 .nil) fun a E=>?_
   refine dn ?_
   exact J107 _ (by omega) _ false _ _ E .of S H
   refine wp_exit ?_
   refine hK73 _ _ (rr E fun a E=>(wp_block ?_))
   refine wp_loop_ghost (fun kq114 a w'=>∃(G:NV)(x112:Int),kq114<=k78/\Env 139 G a/\At G [(1,.pointer (pb b2)),(3,iv x6),(4,.pointer (pb b24)),(5,iv x39),(6,.pointer (pb b57)),(8,iv x112)]/\Sm W F w' F [box b57 #[iv ((nth qG.z ((nth qC.z x.f6 x6).f1) x39).f0),.slice A54 (((nth qG.z ((nth qC.z x.f6 x6).f1) x39).f1).length) c55] 77,box b24 #[iv ((nth qC.z x.f6 x6).f0),.slice (some ad50) (((nth qC.z x.f6 x6).f1).length) c22] 73,box b2 #[iv x.f0,iv x.f1,iv x.f2,iv x.f3,.slice A0_4 x.f4.length c0_4,.slice A0_5 x.f5.length c0_5,.slice (some ad17) x.f6.length c0_6] 26]/\qK.l113 kq114 x x6 x39 x112=some r) k78 ⟨_,0,Nat.le_refl _,E,.of,S,H⟩ ?_
   rintro kq114 a u116 ⟨G,x112,hkq,E,A,S,H⟩
   obtain _ | k115:=kq114
   exact zz H
   rw [qK.l113_s]at H
   obtain ⟨J,E⟩:=E.at A
   refine sq fun K117 hK117=>rr E fun a E=>(E.ik 110 H (fun c119 E H=>?_) fun c119 E H=>?_)
   refine wp_skip (hK117 _ _ (sq fun K120 hK120=>wp_block (sq fun K121 hK121=>?_)))
   have J140:∀ kq138,kq138<=k115->∀(G:NV)(y136:Bool)(a:Act)(w':World),Env 139 G a->At G [(1,.pointer (pb b2)),(3,iv x6),(4,.pointer (pb b24)),(5,iv x39),(6,.pointer (pb b57)),(8,iv x112),(132,.bool y136)]->Sm W F w' F [box b57 #[iv ((nth qG.z ((nth qC.z x.f6 x6).f1) x39).f0),.slice A54 (((nth qG.z ((nth qC.z x.f6 x6).f1) x39).f1).length) c55] 77,box b24 #[iv ((nth qC.z x.f6 x6).f0),.slice (some ad50) (((nth qC.z x.f6 x6).f1).length) c22] 73,box b2 #[iv x.f0,iv x.f1,iv x.f2,iv x.f3,.slice A0_4 x.f4.length c0_4,.slice A0_5 x.f5.length c0_5,.slice (some ad17) x.f6.length c0_6] 26]->qK.j137 kq138 x x6 x39 x112 y136=some r->K121 a w':=by
    intro kq138 hkq G y136 a u141 E A S H
    obtain _ | k139:=kq138
    exact zz H
    rw [qK.j137_s]at H
    obtain ⟨J,E⟩:=E.at A
    refine hK121 _ _ (E.ib 132 H (fun c142 E H=>?_) fun c142 E H=>?_)
    refine rr E fun a E=>(wp_ret (qCd (qCc (qCc (qCd (qCd (qCc (qCc (qCd (qCd (qCc (qCc (qCd (qCc ?_))))))))))))))
    have S:=S.pm [] 3
    obtain rfl:=si H
    exact rt1 E ⟨_,rfl,_,rfl,S⟩
    refine wp_skip ?_
    refine qCe ?_
    refine hK120 _ _ (pl0 (plc E (.r 0 3 .nil) fun a E=>pld ?_))
    exact qCf ⟨k139,by omega,_,(w64 (x112+1)),by omega,E,.of,S,H⟩
   refine drawn 20 ⟨[],[],fun q=>False⟩ mixed rfl (by kernel_rfl) fun hst=>?_
   have S:=S.drew
   have hb24:=S.ba 1
   obtain ⟨c122,H⟩:=gd H
   obtain ⟨cs124,⟨A126,c127,rfl,g128⟩,hc125⟩:=g23.el qG.z x112 c122.1 c122.2
   have hb57:=S.ba 0
   refine mny 10 hst E (.r 0 1<|.b 1 1 hb24<|.r 2 1<|.x 3 c122<|.r 4 1<|.c 5 (S.fc hc125 0)<|.r 6 1<|.b 7 0 hb57<|.r 8 2<|.nil) fun a E=>?_
   refine E.fk 122 H (fun c129 E H=>?_) fun c129 E H=>?_
   refine mny 0 hst E (.r 10 10 .nil) fun a E=>?_
   refine dn ?_
   exact J140 _ (by omega) _ true _ _ E .of S H
   refine mny 2 hst E (.r 10 1<|.b 11 1 hb24<|.r 12 1<|.x 13 c122<|.r 14 1<|.c 15 (S.fc hc125 1)<|.r 16 1<|.b 17 1 hb57<|.nil) fun a E=>?_
   obtain ⟨t134,h135,H⟩:=bd H
   refine on1 18 E (.cl en23 (qAE.calls k115 ((nth qG.z ((nth qC.z x.f6 x6).f1) x112).f1) ((nth qG.z ((nth qC.z x.f6 x6).f1) x39).f1) _ _ _ _ _ _ _ S.own.sub g128 g56 h135)) ?_
   rintro _ u133 a ⟨_,rfl,hC⟩ E
   refine ⟨.of hC.agr,?_⟩
   have S:=S.lent hC
   refine mny 0 hst E (.r 19 1 .nil) fun a E=>?_
   refine dn ?_
   exact J140 _ (by omega) _ t134 _ _ E .of S H
   refine wp_exit ?_
   refine hK47 _ _ (pl0 (plc E (.r 0 3 .nil) fun a E=>pld ?_))
   have S:=S.tail
   exact qCf ⟨k115,by omega,_,(w64 (x39+1)),by omega,E,.of,S,H⟩
  refine pl0 (plc E (.r 0 1<|.b 1 0 hb57<|.r 2 2<|.nil) fun a E=>E.fk 46 H (fun c62 E H=>?_) fun c62 E H=>?_)
  refine plc E (.r 4 22 .nil) fun a E=>pld ?_
  exact J69 _ (by omega) _ true _ _ E .of S H
  refine plc E (.r 4 1<|.b 5 0 hb57<|.r 6 1<|.b 7 0 (S.ba 1)<|.r 8 3<|.nil) fun a E=>E.fk 53 H (fun c63 E H=>?_) fun c63 E H=>?_
  refine plc E (.r 11 15 .nil) fun a E=>pld ?_
  exact J69 _ (by omega) _ true _ _ E .of S H
  have hb2:=S.ba 2
  refine plc E (.r 11 1<|.b 12 1 hb57<|.r 13 2<|.b 15 2 hb2<|.r 16 3<|.nil) fun a E=>E.fk 61 H (fun c64 E H=>?_) fun c64 E H=>?_
  refine plc E (.r 19 7 .nil) fun a E=>pld ?_
  exact J69 _ (by omega) _ true _ _ E .of S H
  refine plc E (.r 19 1<|.b 20 1 hb57<|.r 21 2<|.b 23 1 hb2<|.r 24 2<|.nil) fun a E=>pld ?_
  exact J69 _ (by omega) _ (decide ((((nth qG.z ((nth qC.z x.f6 x6).f1) x39).f1).length:Int)>x.f1)) _ _ E .of S H
  refine wp_exit ?_
  refine hK14 _ _ (pl0 (plc E (.r 0 3 .nil) fun a E=>pld ?_))
  have S:=S.tail
  exact qCf ⟨k42,by omega,_,(w64 (x6+1)),by omega,E,.of,S,H⟩
 refine pl0 (plc E (.r 0 1<|.b 1 0 hb24<|.r 2 2<|.nil) fun a E=>E.fk 24 H (fun c29 E H=>?_) fun c29 E H=>?_)
 refine plc E (.r 4 6 .nil) fun a E=>pld ?_
 exact J34 _ (by omega) _ true _ _ E .of S H
 refine plc E (.r 4 1<|.b 5 0 hb24<|.r 6 1<|.b 7 0 (S.ba 1)<|.r 8 2<|.nil) fun a E=>pld ?_
 exact J34 _ (by omega) _ (decide ((nth qC.z x.f6 x6).f0>x.f0)) _ _ E .of S H
 refine wp_exit ?_
 refine hK4 _ _ (rg E (.r 0 1<|.b 1 6 hb2<|.r 2 2<|.b 4 3 hb2<|.r 5 2<|.nil) fun a E=>(wp_ret ?_))
 have S:=S.tail
 obtain rfl:=si H
 exact rt1 E ⟨_,rfl,_,rfl,S⟩
mutual
def qe.j18:Nat->qD->Bool->Option Bool
 | 0,_,_=>none
 | k+1,x,y17=>if y17=true then (some false) else (qe.l28 k x 0)
def qe.l28:Nat->qD->Int->Option Bool
 | 0,_,_=>none
 | k+1,x,x27=>if x27<(x.f5.length:Int) then (if 0<=x27/\x27<(x.f5.length:Int) then (if (nth qE.z x.f5 x27).f0<0 then (qe.j71 k x x27 true) else (if (nth qE.z x.f5 x27).f0>=x.f3 then (qe.j71 k x x27 true) else (if x27>0 then (if 0<=(w64 (x27 - 1))/\(w64 (x27 - 1))<(x.f5.length:Int) then (if (nth qE.z x.f5 (w64 (x27 - 1))).f0>=(nth qE.z x.f5 x27).f0 then (qe.j71 k x x27 true) else (if (((nth qE.z x.f5 x27).f1).length:Int)<1 then (qe.j71 k x x27 true) else (if (((nth qE.z x.f5 x27).f1).length:Int)>x.f1 then (qe.j71 k x x27 true) else ((qp.f k x.f4 ((nth qE.z x.f5 x27).f1)).bind fun t63=>(qe.j71 k x x27 (!t63)))))) else (none)) else (if (((nth qE.z x.f5 x27).f1).length:Int)<1 then (qe.j71 k x x27 true) else (if (((nth qE.z x.f5 x27).f1).length:Int)>x.f1 then (qe.j71 k x x27 true) else ((qp.f k x.f4 ((nth qE.z x.f5 x27).f1)).bind fun t68=>(qe.j71 k x x27 (!t68)))))))) else (none)) else ((qK.f k x).bind fun t80=>(some t80))
def qe.j71:Nat->qD->Int->Bool->Option Bool
 | 0,_,_,_=>none
 | k+1,x,x27,y70=>if y70=true then (some false) else (qe.l28 k x (w64 (x27+1)))
end
theorem qe.j18_s k x y17:type_of% (qe.j18.eq_2 x y17 k):=qe.j18.eq_2 x y17 k
theorem qe.l28_s k x x27:type_of% (qe.l28.eq_2 x x27 k):=qe.l28.eq_2 x x27 k
theorem qe.j71_s k x x27 y70:type_of% (qe.j71.eq_2 x x27 y70 k):=qe.j71.eq_2 x x27 y70 k
def qe.f(k:Nat)(x:qD):Option Bool:=if x.f0<0 then (qe.j18 k x true) else (if x.f0>=2147483648 then (qe.j18 k x true) else (if x.f1<1 then (qe.j18 k x true) else (if x.f1>3 then (qe.j18 k x true) else (if x.f2<1 then (qe.j18 k x true) else (if x.f2>x.f1 then (qe.j18 k x true) else (if x.f3<1 then (qe.j18 k x true) else (if x.f3>8 then (qe.j18 k x true) else ((qn.f k x.f4).bind fun t15=>(qe.j18 k x (!t15))))))))))
def qe.Post(W F:World)(r:Bool)(v:Value)(w':World):Prop:=∃(F':World),v = .bool r/\Sm W F w' F' []
theorem qe.calls(k:Nat)(x:qD)(A0_4:OA)(c0_4:Nat)(A0_5:OA)(c0_5:Nat)(A0_6:OA)(c0_6:Nat)(r:Bool)(W F:World)(hown:Sub F W)(g0_4:Rd qA.k F A0_4 c0_4 x.f4)(g0_5:Rd qE.k F A0_5 c0_5 x.f5)(g0_6:Rd qC.k F A0_6 c0_6 x.f6)(H:qe.f k x=some r):
    Cr 22 #[.agg (mA x A0_4 c0_4 A0_5 c0_5 A0_6 c0_6)] W (qe.Post W F r):=by
 have S:=sT hown
 unfold qe.f at H
 refine ent 113 rfl rfl rfl fun a E=>?_
 refine sq fun K1 hK1=>pl0 (plx (t:=26) E S (mL x A0_4 c0_4 A0_5 c0_5 A0_6 c0_6) fun b2 u3 hb2 S a E=>plc E (.r 1 1 .nil) fun a E=>pld (hK1 _ _ (sq fun K4 hK4=>sq fun K5 hK5=>?_)))
 have J21:∀ kq19,kq19<=k->∀(G:NV)(y17:Bool)(a:Act)(w':World),Env 113 G a->At G [(1,.pointer (pb b2)),(50,.bool y17)]->Sm W F w' F [box b2 (mA x A0_4 c0_4 A0_5 c0_5 A0_6 c0_6) 26]->qe.j18 kq19 x y17=some r->K5 a w':=by
  intro kq19 hkq G y17 a u22 E A S H
  obtain _ | k20:=kq19
  exact zz H
  rw [qe.j18_s]at H
  obtain ⟨J,E⟩:=E.at A
  refine hK5 _ _ (E.ib 50 H (fun c23 E H=>?_) fun c23 E H=>?_)
  refine rr E fun a E=>(wp_ret (qCc ?_))
  have S:=S.tail
  obtain rfl:=si H
  exact rt1 E ⟨_,rfl,_,rfl,S⟩
  refine wp_skip (hK4 _ _ (sq fun K25 hK25=>rr E fun a E=>(wp_block ?_)))
  refine wp_loop_ghost (fun kq29 a w'=>∃(G:NV)(x27:Int),kq29<=k20/\Env 113 G a/\At G [(1,.pointer (pb b2)),(3,iv x27)]/\Sm W F w' F [box b2 (mA x A0_4 c0_4 A0_5 c0_5 A0_6 c0_6) 26]/\qe.l28 kq29 x x27=some r) k20 ⟨_,0,Nat.le_refl _,E,.of,S,H⟩ ?_
  rintro kq29 a u31 ⟨G,x27,hkq,E,A,S,H⟩
  obtain _ | k30:=kq29
  exact zz H
  rw [qe.l28_s]at H
  obtain ⟨J,E⟩:=E.at A
  refine sq fun K32 hK32=>sq fun K33 hK33=>pl0 ?_
  have hb2:=S.ba 0
  refine plc E (.r 0 2<|.b 2 5 hb2<|.r 3 2<|.nil) fun a E=>pld (hK33 _ _ (E.ik 55 H (fun c34 E H=>?_) fun c34 E H=>?_))
  refine wp_skip (hK32 _ _ (sq fun K35 hK35=>wp_block (sq fun K36 hK36=>pl0 ?_)))
  obtain ⟨c37,H⟩:=gd H
  have hE_:=E
  obtain ⟨ad38,rfl⟩:=g0_5.addr c37.1 c37.2
  replace E:=hE_
  obtain ⟨cs40,⟨A42,c43,rfl,g44⟩,hc41⟩:=g0_5.el qE.z x27 c37.1 c37.2
  refine plc E (.r 0 1<|.b 1 5 hb2<|.r 2 1<|.x 3 c37<|.cs 4 (S.fcs hc41)<|.nil) fun a E=>pla (t:=75) E S [iv 0,.slice none 0 0] fun b45 u46 hb45 S a E=>pls E S [iv ((nth qE.z x.f5 x27).f0),.slice A42 (((nth qE.z x.f5 x27).f1).length) c43] fun u47 hb45 S a E=>pld (hK36 _ _ (sq fun K48 hK48=>?_))
  have J74:∀ kq72,kq72<=k30->∀(G:NV)(y70:Bool)(a:Act)(w':World),Env 113 G a->At G [(1,.pointer (pb b2)),(3,iv x27),(110,.bool y70)]->Sm W F w' F [box b45 #[iv ((nth qE.z x.f5 x27).f0),.slice A42 (((nth qE.z x.f5 x27).f1).length) c43] 75,box b2 #[iv x.f0,iv x.f1,iv x.f2,iv x.f3,.slice A0_4 x.f4.length c0_4,.slice (some ad38) x.f5.length c0_5,.slice A0_6 x.f6.length c0_6] 26]->qe.j71 kq72 x x27 y70=some r->K48 a w':=by
   intro kq72 hkq G y70 a u75 E A S H
   obtain _ | k73:=kq72
   exact zz H
   rw [qe.j71_s]at H
   obtain ⟨J,E⟩:=E.at A
   refine hK48 _ _ (E.ib 110 H (fun c76 E H=>?_) fun c76 E H=>?_)
   refine rr E fun a E=>(wp_ret (qCd (qCc (qCc (qCd (qCc ?_))))))
   have S:=S.pm [] 2
   obtain rfl:=si H
   exact rt1 E ⟨_,rfl,_,rfl,S⟩
   refine wp_skip ?_
   refine qCe ?_
   refine hK35 _ _ (pl0 (plc E (.r 0 3 .nil) fun a E=>pld ?_))
   have S:=S.tail
   exact qCf ⟨k73,by omega,_,(w64 (x27+1)),by omega,E,.of,S,H⟩
  refine drawn 48 ⟨[],[],fun q=>False⟩ mixed rfl (by kernel_rfl) fun hst=>?_
  have S:=S.drew
  have hb45:=S.ba 0
  refine mny 44 hst E (.r 0 1<|.b 1 0 hb45<|.r 2 2<|.nil) fun a E=>?_
  refine E.fk 66 H (fun c49 E H=>?_) fun c49 E H=>?_
  refine mny 0 hst E (.r 4 44 .nil) fun a E=>?_
  refine dn ?_
  exact J74 _ (by omega) _ true _ _ E .of S H
  have hb2:=S.ba 1
  refine mny 37 hst E (.r 4 1<|.b 5 0 hb45<|.r 6 1<|.b 7 3 hb2<|.r 8 3<|.nil) fun a E=>?_
  refine E.fk 73 H (fun c50 E H=>?_) fun c50 E H=>?_
  refine mny 0 hst E (.r 11 37 .nil) fun a E=>?_
  refine dn ?_
  exact J74 _ (by omega) _ true _ _ E .of S H
  refine mny 34 hst E (.r 11 3 .nil) fun a E=>?_
  refine E.fk 76 H (fun c51 E H=>?_) fun c51 E H=>?_
  obtain ⟨c52,H⟩:=gd H
  obtain ⟨cs54,⟨A56,c57,rfl,g58⟩,hc55⟩:=g0_5.el qE.z (w64 (x27 - 1)) c52.1 c52.2
  refine mny 21 hst E (.r 14 1<|.b 15 5 hb2<|.r 16 2<|.x 18 c52<|.r 19 1<|.c 20 (S.fc hc55 0)<|.r 21 1<|.b 22 0 hb45<|.r 23 4<|.nil) fun a E=>?_
  refine E.fk 89 H (fun c59 E H=>?_) fun c59 E H=>?_
  refine mny 0 hst E (.r 27 21 .nil) fun a E=>?_
  refine dn ?_
  exact J74 _ (by omega) _ true _ _ E .of S H
  refine mny 15 hst E (.r 27 1<|.b 28 1 hb45<|.r 29 4<|.nil) fun a E=>?_
  refine E.fk 95 H (fun c60 E H=>?_) fun c60 E H=>?_
  refine mny 0 hst E (.r 33 15 .nil) fun a E=>?_
  refine dn ?_
  exact J74 _ (by omega) _ true _ _ E .of S H
  refine mny 7 hst E (.r 33 1<|.b 34 1 hb45<|.r 35 2<|.b 37 1 hb2<|.r 38 3<|.nil) fun a E=>?_
  refine E.fk 103 H (fun c61 E H=>?_) fun c61 E H=>?_
  refine mny 0 hst E (.r 41 7 .nil) fun a E=>?_
  refine dn ?_
  exact J74 _ (by omega) _ true _ _ E .of S H
  refine mny 3 hst E (.r 41 1<|.b 42 4 hb2<|.r 43 1<|.b 44 1 hb45<|.nil) fun a E=>?_
  obtain ⟨t63,h64,H⟩:=bd H
  refine on1 45 E (.cl en17 (qp.calls k30 x.f4 ((nth qE.z x.f5 x27).f1) _ _ _ _ _ _ _ S.own.sub g0_4 g44 h64)) ?_
  rintro _ u62 a ⟨_,rfl,hC⟩ E
  refine ⟨.of hC.agr,?_⟩
  have S:=S.lent hC
  refine mny 0 hst E (.r 46 2 .nil) fun a E=>?_
  refine dn ?_
  exact J74 _ (by omega) _ (!t63) _ _ E .of S H
  refine mny 15 hst E (.r 14 14<|.b 28 1 hb45<|.r 29 4<|.nil) fun a E=>?_
  refine E.fk 95 H (fun c65 E H=>?_) fun c65 E H=>?_
  refine mny 0 hst E (.r 33 15 .nil) fun a E=>?_
  refine dn ?_
  exact J74 _ (by omega) _ true _ _ E .of S H
  refine mny 7 hst E (.r 33 1<|.b 34 1 hb45<|.r 35 2<|.b 37 1 hb2<|.r 38 3<|.nil) fun a E=>?_
  refine E.fk 103 H (fun c66 E H=>?_) fun c66 E H=>?_
  refine mny 0 hst E (.r 41 7 .nil) fun a E=>?_
  refine dn ?_
  exact J74 _ (by omega) _ true _ _ E .of S H
  refine mny 3 hst E (.r 41 1<|.b 42 4 hb2<|.r 43 1<|.b 44 1 hb45<|.nil) fun a E=>?_
  obtain ⟨t68,h69,H⟩:=bd H
  refine on1 45 E (.cl en17 (qp.calls k30 x.f4 ((nth qE.z x.f5 x27).f1) _ _ _ _ _ _ _ S.own.sub g0_4 g44 h69)) ?_
  rintro _ u67 a ⟨_,rfl,hC⟩ E
  refine ⟨.of hC.agr,?_⟩
  have S:=S.lent hC
  refine mny 0 hst E (.r 46 2 .nil) fun a E=>?_
  refine dn ?_
  exact J74 _ (by omega) _ (!t68) _ _ E .of S H
  refine wp_exit ?_
  refine hK25 _ _ (sq fun K78 hK78=>pl0 (plc E (.bn 0 0 7 hb2 .nil) fun a E=>?_))
  obtain ⟨t80,h81,H⟩:=bd H
  refine plq E S en51 (qK.calls k30 x _ _ _ _ _ _ _ _ _ S.own.sub g0_4 g0_5 g0_6 h81) fun u79 S a E=>plc E (.r 2 1 .nil) fun a E=>pld (hK78 _ _ (wp_ret ?_))
  have S:=S.tail
  obtain rfl:=si H
  exact rt1 E ⟨_,rfl,_,rfl,S⟩
 refine pl0 (plc E (.r 0 1<|.b 1 0 hb2<|.r 2 2<|.nil) fun a E=>E.fk 8 H (fun c6 E H=>?_) fun c6 E H=>?_)
 refine plc E (.r 4 42 .nil) fun a E=>pld ?_
 exact J21 _ (by omega) _ true _ _ E .of S H
 refine plc E (.r 4 1<|.b 5 0 hb2<|.r 6 3<|.nil) fun a E=>E.fk 13 H (fun c7 E H=>?_) fun c7 E H=>?_
 refine plc E (.r 9 37 .nil) fun a E=>pld ?_
 exact J21 _ (by omega) _ true _ _ E .of S H
 refine plc E (.r 9 1<|.b 10 1 hb2<|.r 11 3<|.nil) fun a E=>E.fk 18 H (fun c8 E H=>?_) fun c8 E H=>?_
 refine plc E (.r 14 32 .nil) fun a E=>pld ?_
 exact J21 _ (by omega) _ true _ _ E .of S H
 refine plc E (.r 14 1<|.b 15 1 hb2<|.r 16 3<|.nil) fun a E=>E.fk 23 H (fun c9 E H=>?_) fun c9 E H=>?_
 refine plc E (.r 19 27 .nil) fun a E=>pld ?_
 exact J21 _ (by omega) _ true _ _ E .of S H
 refine plc E (.r 19 1<|.b 20 2 hb2<|.r 21 3<|.nil) fun a E=>E.fk 28 H (fun c10 E H=>?_) fun c10 E H=>?_
 refine plc E (.r 24 22 .nil) fun a E=>pld ?_
 exact J21 _ (by omega) _ true _ _ E .of S H
 refine plc E (.r 24 1<|.b 25 2 hb2<|.r 26 1<|.b 27 1 hb2<|.r 28 3<|.nil) fun a E=>E.fk 35 H (fun c11 E H=>?_) fun c11 E H=>?_
 refine plc E (.r 31 15 .nil) fun a E=>pld ?_
 exact J21 _ (by omega) _ true _ _ E .of S H
 refine plc E (.r 31 1<|.b 32 3 hb2<|.r 33 3<|.nil) fun a E=>E.fk 40 H (fun c12 E H=>?_) fun c12 E H=>?_
 refine plc E (.r 36 10 .nil) fun a E=>pld ?_
 exact J21 _ (by omega) _ true _ _ E .of S H
 refine plc E (.r 36 1<|.b 37 3 hb2<|.r 38 3<|.nil) fun a E=>E.fk 45 H (fun c13 E H=>?_) fun c13 E H=>?_
 refine plc E (.r 41 5 .nil) fun a E=>pld ?_
 exact J21 _ (by omega) _ true _ _ E .of S H
 refine plc E (.r 41 1<|.b 42 4 hb2<|.nil) fun a E=>?_
 obtain ⟨t15,h16,H⟩:=bd H
 refine plq E S en50 (qn.calls k x.f4 _ _ _ _ _ S.own.sub g0_4 h16) fun u14 S a E=>plc E (.r 44 2 .nil) fun a E=>pld ?_
 exact J21 _ (by omega) _ (!t15) _ _ E .of S H
def qAL.l7:Nat->qD->Int->Int->Option (List Int)
 | 0,_,_,_=>none
 | k+1,x,y,x6=>if x6<(x.f5.length:Int) then (if 0<=x6/\x6<(x.f5.length:Int) then (if (nth qE.z x.f5 x6).f0=y then (some ((nth qE.z x.f5 x6).f1)) else (qAL.l7 k x y (w64 (x6+1)))) else (none)) else (some [])
theorem qAL.l7_s k x y x6:type_of% (qAL.l7.eq_2 x y x6 k):=qAL.l7.eq_2 x y x6 k
def qAL.f(k:Nat)(x:qD)(y:Int):Option (List Int):=qAL.l7 k x y 0
def qAL.Post(W F:World)(r:List Int)(v:Value)(w':World):Prop:=∃(F':World)(RA0_0:OA)(rc0_0:Nat),v = .slice RA0_0 r.length rc0_0/\Sm W F w' F' []/\Rd ki F' RA0_0 rc0_0 r
theorem qAL.calls(k:Nat)(x:qD)(y:Int)(A0_4:OA)(c0_4:Nat)(A0_5:OA)(c0_5:Nat)(A0_6:OA)(c0_6:Nat)(r:List Int)(W F:World)(hown:Sub F W)(g0_4:Rd qA.k F A0_4 c0_4 x.f4)(g0_5:Rd qE.k F A0_5 c0_5 x.f5)(g0_6:Rd qC.k F A0_6 c0_6 x.f6)(H:qAL.f k x y=some r):
    Cr 61 #[.agg (mA x A0_4 c0_4 A0_5 c0_5 A0_6 c0_6),iv y] W (qAL.Post W F r):=by
 have S:=sT hown
 unfold qAL.f at H
 refine ent 27 rfl rfl rfl fun a E=>?_
 refine sq fun K1 hK1=>pl0 (plx (t:=26) E S (mL x A0_4 c0_4 A0_5 c0_5 A0_6 c0_6) fun b2 u3 hb2 S a E=>plc E (.r 1 1 .nil) fun a E=>pld (hK1 _ _ (sq fun K4 hK4=>rr E fun a E=>(wp_block ?_))))
 refine wp_loop_ghost (fun kq8 a w'=>∃(G:NV)(x6:Int),kq8<=k/\Env 27 G a/\At G [(1,iv y),(2,.pointer (pb b2)),(5,iv x6)]/\Sm W F w' F [box b2 (mA x A0_4 c0_4 A0_5 c0_5 A0_6 c0_6) 26]/\qAL.l7 kq8 x y x6=some r) k ⟨_,0,Nat.le_refl _,E,.of,S,H⟩ ?_
 rintro kq8 a u10 ⟨G,x6,hkq,E,A,S,H⟩
 obtain _ | k9:=kq8
 exact zz H
 rw [qAL.l7_s]at H
 obtain ⟨J,E⟩:=E.at A
 refine sq fun K11 hK11=>sq fun K12 hK12=>pl0 ?_
 have hb2:=S.ba 0
 refine plc E (.r 0 2<|.b 2 5 hb2<|.r 3 2<|.nil) fun a E=>pld (hK12 _ _ (E.ik 10 H (fun c13 E H=>?_) fun c13 E H=>?_))
 refine wp_skip (hK11 _ _ (sq fun K14 hK14=>wp_block (sq fun K15 hK15=>pl0 ?_)))
 obtain ⟨c16,H⟩:=gd H
 have hE_:=E
 obtain ⟨ad17,rfl⟩:=g0_5.addr c16.1 c16.2
 replace E:=hE_
 obtain ⟨cs19,⟨A21,c22,rfl,g23⟩,hc20⟩:=g0_5.el qE.z x6 c16.1 c16.2
 refine plc E (.r 0 1<|.b 1 5 hb2<|.r 2 1<|.x 3 c16<|.r 4 1<|.c 5 (S.fc hc20 0)<|.r 6 2<|.nil) fun a E=>pld (hK15 _ _ (E.ik 20 H (fun c24 E H=>?_) fun c24 E H=>?_))
 refine rg E (.r 0 1<|.b 1 5 hb2<|.r 2 1<|.x 3 c16<|.r 4 1<|.c 5 (S.fc hc20 1)<|.r 6 1<|.nil) fun a E=>(wp_ret (qCd (qCc (qCc (qCd (qCc ?_))))))
 have S:=S.tail
 obtain rfl:=si H
 exact rt1 E ⟨_,rfl,_,_,_,rfl,S,g23⟩
 refine wp_skip ?_
 refine qCe ?_
 refine hK14 _ _ (pl0 (plc E (.r 0 3 .nil) fun a E=>pld ?_))
 exact qCf ⟨k9,by omega,_,(w64 (x6+1)),by omega,E,.of,S,H⟩
 refine wp_exit ?_
 refine hK4 _ _ (rr E fun a E=>(wp_ret ?_))
 have S:=S.tail
 obtain rfl:=si H
 exact rt1 E ⟨_,rfl,_,_,_,rfl,S,(Rd.nil _ _)⟩
def qBE.f(x:qA):Option Int:=if x.f5=true then (some x.f3) else (some 0)
def qBE.Post(W F:World)(r:Int)(v:Value)(w':World):Prop:=∃(F':World),v=iv r/\Sm W F w' F' []
theorem qBE.calls(x:qA)(r:Int)(W F:World)(hown:Sub F W)(H:qBE.f x=some r):
    Cr 142 #[.agg (nA x)] W (qBE.Post W F r):=by
 have S:=sT hown
 unfold qBE.f at H
 refine ent 7 rfl rfl rfl fun a E=>?_
 refine sq fun K1 hK1=>pl0 (plx (t:=68) E S (nL x) fun b2 u3 hb2 S a E=>plc E (.r 1 1 .nil) fun a E=>pld (hK1 _ _ (sq fun K4 hK4=>rg E (.r 0 1<|.b 1 5 hb2<|.nil) fun a E=>(E.ib 4 H (fun c6 E H=>?_) fun c6 E H=>?_))))
 refine rg E (.r 0 1<|.b 1 3 hb2<|.r 2 1<|.nil) fun a E=>(wp_ret (qCc ?_))
 have S:=S.tail
 obtain rfl:=si H
 exact rt1 E ⟨_,rfl,_,rfl,S⟩
 refine wp_skip (hK4 _ _ (rr E fun a E=>(wp_ret ?_)))
 have S:=S.tail
 obtain rfl:=si H
 exact rt1 E ⟨_,rfl,_,rfl,S⟩
mutual
def qq.l14:Nat->List qA->Int->Int->List qB->Int->Option (List qB)
 | 0,_,_,_,_,_=>none
 | k+1,x,y,z,l12,x13=>if x13<(x.length:Int) then (if y=0 then (if z=0 then (qq.j41 k x y z l12 x13 true) else (if 0<=x13/\x13<(x.length:Int) then (qq.j41 k x y z l12 x13 ((nth qA.z x x13).f2 == z)) else (none))) else (if 0<=x13/\x13<(x.length:Int) then (if (nth qA.z x x13).f1=y then (if z=0 then (qq.j41 k x y z l12 x13 true) else (qq.j41 k x y z l12 x13 ((nth qA.z x x13).f2 == z))) else (qq.j41 k x y z l12 x13 false)) else (none))) else (some l12)
def qq.j41:Nat->List qA->Int->Int->List qB->Int->Bool->Option (List qB)
 | 0,_,_,_,_,_,_=>none
 | k+1,x,y,z,l12,x13,y40=>if y40=true then (if 0<=x13/\x13<(x.length:Int) then ((qBE.f (nth qA.z x x13)).bind fun t56=>(if ((l12.length:Int)+((1:Nat):Int)) * 16<=140737488355328 then (qq.l14 k x y z (l12++[(⟨(nth qA.z x x13).f0,t56⟩:qB)]) (w64 (x13+1))) else (none))) else (none)) else (qq.l14 k x y z l12 (w64 (x13+1)))
end
theorem qq.l14_s k x y z l12 x13:type_of% (qq.l14.eq_2 x y z l12 x13 k):=qq.l14.eq_2 x y z l12 x13 k
theorem qq.j41_s k x y z l12 x13 y40:type_of% (qq.j41.eq_2 x y z l12 x13 y40 k):=qq.j41.eq_2 x y z l12 x13 y40 k
def qq.f(k:Nat)(x:List qA)(y:Int)(z:Int):Option (List qB):=qq.l14 k x y z ([]:List qB) 0
def qq.Post(W F:World)(r:List qB)(v:Value)(w':World):Prop:=∃(F':World)(RA0_0:OA)(rc0_0:Nat),v = .slice RA0_0 r.length rc0_0/\Sm W F w' F' [row qB.k 139 (.slice RA0_0 r.length rc0_0) r]
theorem qq.calls(k:Nat)(x:List qA)(y:Int)(z:Int)(A0_0:OA)(c0_0:Nat)(r:List qB)(W F:World)(hown:Sub F W)(g0_0:Rd qA.k F A0_0 c0_0 x)(H:qq.f k x y z=some r):
    Cr 116 #[.slice A0_0 x.length c0_0,iv y,iv z] W (qq.Post W F r):=by
 have S:=sT hown
 unfold qq.f at H
 refine ent 55 rfl rfl rfl fun a E=>?_
 refine rr E fun a E=>(sq fun K2 hK2=>pl0 (ple E (.lit (d:=qB.k) (e:=139) S ([]:List qB) (.nil)) ?_))
 rintro _ u3 a ⟨A4,c5,rfl,S,hg⟩ E
 refine plc E (.r 1 1 .nil) fun a E=>pld (hK2 _ _ (sq fun K7 hK7=>rr E fun a E=>(wp_block ?_)))
 refine wp_loop_ghost (fun kq15 a w'=>∃(G:NV)(A10:OA)(c11:Nat)(l12:List qB)(x13:Int),kq15<=k/\Env 55 G a/\At G [(0,.slice A0_0 x.length c0_0),(1,iv y),(2,iv z),(7,.slice A10 l12.length c11),(8,iv x13)]/\Sm W F w' F [row qB.k 139 (.slice A10 l12.length c11) l12]/\qq.l14 kq15 x y z l12 x13=some r) k ⟨_,A4,c5,([]:List qB),0,Nat.le_refl _,E,.of,S,H⟩ ?_
 rintro kq15 a u17 ⟨G,A10,c11,l12,x13,hkq,E,A,S,H⟩
 obtain _ | k16:=kq15
 exact zz H
 rw [qq.l14_s]at H
 obtain ⟨J,E⟩:=E.at A
 refine sq fun K18 hK18=>rr E fun a E=>(E.ik 13 H (fun c20 E H=>?_) fun c20 E H=>?_)
 refine wp_skip (hK18 _ _ (sq fun K21 hK21=>wp_block (sq fun K22 hK22=>?_)))
 have J44:∀ kq42,kq42<=k16->∀(G:NV)(y40:Bool)(a:Act)(w':World),Env 55 G a->At G [(0,.slice A0_0 x.length c0_0),(1,iv y),(2,iv z),(7,.slice A10 l12.length c11),(8,iv x13),(39,.bool y40)]->Sm W F w' F [row qB.k 139 (.slice A10 l12.length c11) l12]->qq.j41 kq42 x y z l12 x13 y40=some r->K22 a w':=by
  intro kq42 hkq G y40 a u45 E A S H
  obtain _ | k43:=kq42
  exact zz H
  rw [qq.j41_s]at H
  obtain ⟨J,E⟩:=E.at A
  refine hK22 _ _ (E.ib 39 H (fun c46 E H=>?_) fun c46 E H=>?_)
  refine drawn 15 ⟨[13],[],fun q=>False⟩ mixed rfl (by kernel_rfl) fun hst=>?_
  have S:=S.drew
  obtain ⟨c47,H⟩:=gd H
  have hE_:=E
  obtain ⟨ad48,rfl⟩:=g0_0.addr c47.1 c47.2
  replace E:=hE_
  obtain ⟨cs50,rfl,hc51⟩:=g0_0.el qA.z x13 c47.1 c47.2
  refine mny 5 hst E (.r 0 3<|.x 3 c47<|.r 4 1<|.c 5 (S.fc hc51 0)<|.r 6 2<|.x 8 c47<|.cs 9 (S.fcs hc51)<|.nil) fun a E=>?_
  obtain ⟨t56,h57,H⟩:=bd H
  refine on1 10 E (.cl en142 (qBE.calls (nth qA.z x x13) _ _ _ S.own.sub h57)) ?_
  rintro _ u55 a ⟨_,rfl,hC⟩ E
  refine ⟨.of hC.agr,?_⟩
  have S:=S.lent hC
  refine mny 3 hst E (.r 11 1 .nil) fun a E=>?_
  refine on1 12 E (.lit (d:=qB.k) (e:=139) S [(⟨(nth qA.z x x13).f0,t56⟩:qB)] (.cons rfl .nil)) ?_
  rintro _ u58 a ⟨A59,c60,rfl,S,hg⟩ E
  refine ⟨.of hg,?_⟩
  obtain ⟨c62,H⟩:=gd H
  have S:=S.front 1 rfl
  refine on1 13 E (.ap (d:=qB.k) 16 S (qCj (S.row_at (i:=1) rfl)) c62 c60) ?_
  rintro _ u65 a ⟨A63,c64,rfl,S,hz⟩ E
  refine ⟨.d,?_⟩
  refine mny 0 hst E (.r 14 1 .nil) fun a E=>?_
  refine dn ?_
  refine qCe ?_
  refine hK21 _ _ (pl0 (plc E (.r 0 3 .nil) fun a E=>pld ?_))
  have S:=S.pm [0] 2
  exact qCf ⟨k43,by omega,_,A63,c64,(l12++[(⟨(nth qA.z x x13).f0,t56⟩:qB)]),(w64 (x13+1)),by omega,E,.of,S,H⟩
  refine wp_skip ?_
  refine qCe ?_
  refine hK21 _ _ (pl0 (plc E (.r 0 3 .nil) fun a E=>pld ?_))
  exact qCf ⟨k43,by omega,_,A10,c11,l12,(w64 (x13+1)),by omega,E,.of,S,H⟩
 refine pl0 (plc E (.r 0 3 .nil) fun a E=>E.fk 18 H (fun c23 E H=>?_) fun c23 E H=>?_)
 refine plc E (.r 3 12 .nil) fun a E=>E.fk 30 H (fun c24 E H=>?_) fun c24 E H=>?_
 refine plc E (.r 15 9 .nil) fun a E=>pld ?_
 exact J44 _ (by omega) _ true _ _ E .of S H
 obtain ⟨c25,H⟩:=gd H
 have hE_:=E
 obtain ⟨ad26,rfl⟩:=g0_0.addr c25.1 c25.2
 replace E:=hE_
 obtain ⟨cs28,rfl,hc29⟩:=g0_0.el qA.z x13 c25.1 c25.2
 refine plc E (.r 15 2<|.x 17 c25<|.r 18 1<|.c 19 (S.fc hc29 2)<|.r 20 4<|.nil) fun a E=>pld ?_
 exact J44 _ (by omega) _ ((nth qA.z x x13).f2 == z) _ _ E .of S H
 obtain ⟨c30,H⟩:=gd H
 have hE_:=E
 obtain ⟨ad31,rfl⟩:=g0_0.addr c30.1 c30.2
 replace E:=hE_
 obtain ⟨cs33,rfl,hc34⟩:=g0_0.el qA.z x13 c30.1 c30.2
 refine plc E (.r 3 2<|.x 5 c30<|.r 6 1<|.c 7 (S.fc hc34 1)<|.r 8 4<|.nil) fun a E=>E.fk 27 H (fun c35 E H=>?_) fun c35 E H=>?_
 refine plc E (.r 12 3 .nil) fun a E=>E.fk 30 H (fun c36 E H=>?_) fun c36 E H=>?_
 refine plc E (.r 15 9 .nil) fun a E=>pld ?_
 exact J44 _ (by omega) _ true _ _ E .of S H
 refine plc E (.r 15 2<|.x 17 c30<|.r 18 1<|.c 19 (S.fc hc34 2)<|.r 20 4<|.nil) fun a E=>pld ?_
 exact J44 _ (by omega) _ ((nth qA.z x x13).f2 == z) _ _ E .of S H
 refine plc E (.r 12 12 .nil) fun a E=>pld ?_
 exact J44 _ (by omega) _ false _ _ E .of S H
 refine wp_exit ?_
 refine hK7 _ _ (rr E fun a E=>(wp_ret ?_))
 obtain rfl:=si H
 exact rt1 E ⟨_,rfl,_,_,_,rfl,S⟩
mutual
def qm.l14:Nat->List qA->List Int->List qB->Int->Option (List qB)
 | 0,_,_,_,_=>none
 | k+1,x,y,l12,x13=>if x13<=999 then (qm.l29 k x y l12 x13 0 false 0) else (some l12)
def qm.l29:Nat->List qA->List Int->List qB->Int->Int->Bool->Int->Option (List qB)
 | 0,_,_,_,_,_,_,_=>none
 | k+1,x,y,l12,x13,x26,y27,x28=>if x28<(x.length:Int) then (if 0<=x28/\x28<(y.length:Int) then (if (nth 0 y x28)=x13 then (if 0<=x28/\x28<(x.length:Int) then ((qBE.f (nth qA.z x x28)).bind fun t51=>(qm.l29 k x y l12 x13 (w64 (x26+t51)) true (w64 (x28+1)))) else (none)) else (qm.l29 k x y l12 x13 x26 y27 (w64 (x28+1)))) else (none)) else (if x26>65536 then (qm.j57 k x y l12 x13 y27 65536) else (qm.j57 k x y l12 x13 y27 x26))
def qm.j57:Nat->List qA->List Int->List qB->Int->Bool->Int->Option (List qB)
 | 0,_,_,_,_,_,_=>none
 | k+1,x,y,l12,x13,y27,x56=>if y27=true then (if ((l12.length:Int)+((1:Nat):Int)) * 16<=140737488355328 then (qm.l14 k x y (l12++[(⟨x13,x56⟩:qB)]) (w64 (x13+1))) else (none)) else (qm.l14 k x y l12 (w64 (x13+1)))
end
theorem qm.l14_s k x y l12 x13:type_of% (qm.l14.eq_2 x y l12 x13 k):=qm.l14.eq_2 x y l12 x13 k
theorem qm.l29_s k x y l12 x13 x26 y27 x28:type_of% (qm.l29.eq_2 x y l12 x13 x26 y27 x28 k):=qm.l29.eq_2 x y l12 x13 x26 y27 x28 k
theorem qm.j57_s k x y l12 x13 y27 x56:type_of% (qm.j57.eq_2 x y l12 x13 y27 x56 k):=qm.j57.eq_2 x y l12 x13 y27 x56 k
def qm.f(k:Nat)(x:List qA)(y:List Int):Option (List qB):=qm.l14 k x y ([]:List qB) 1
def qm.Post(W F:World)(r:List qB)(v:Value)(w':World):Prop:=∃(F':World)(RA0_0:OA)(rc0_0:Nat),v = .slice RA0_0 r.length rc0_0/\Sm W F w' F' [row qB.k 139 (.slice RA0_0 r.length rc0_0) r]
theorem qm.calls(k:Nat)(x:List qA)(y:List Int)(A0_0:OA)(c0_0:Nat)(A1_0:OA)(c1_0:Nat)(r:List qB)(W F:World)(hown:Sub F W)(g0_0:Rd qA.k F A0_0 c0_0 x)(g1_0:Rd ki F A1_0 c1_0 y)(H:qm.f k x y=some r):
    Cr 143 #[.slice A0_0 x.length c0_0,.slice A1_0 y.length c1_0] W (qm.Post W F r):=by
 have S:=sT hown
 unfold qm.f at H
 refine ent 44 rfl rfl rfl fun a E=>?_
 refine rr E fun a E=>(sq fun K2 hK2=>pl0 (ple E (.lit (d:=qB.k) (e:=139) S ([]:List qB) (.nil)) ?_))
 rintro _ u3 a ⟨A4,c5,rfl,S,hg⟩ E
 refine plc E (.r 1 1 .nil) fun a E=>pld (hK2 _ _ (sq fun K7 hK7=>rr E fun a E=>(wp_block ?_)))
 refine wp_loop_ghost (fun kq15 a w'=>∃(G:NV)(A10:OA)(c11:Nat)(l12:List qB)(x13:Int),kq15<=k/\Env 44 G a/\At G [(0,.slice A0_0 x.length c0_0),(1,.slice A1_0 y.length c1_0),(5,.slice A10 l12.length c11),(6,iv x13)]/\Sm W F w' F [row qB.k 139 (.slice A10 l12.length c11) l12]/\qm.l14 kq15 x y l12 x13=some r) k ⟨_,A4,c5,([]:List qB),1,Nat.le_refl _,E,.of,S,H⟩ ?_
 rintro kq15 a u17 ⟨G,A10,c11,l12,x13,hkq,E,A,S,H⟩
 obtain _ | k16:=kq15
 exact zz H
 rw [qm.l14_s]at H
 obtain ⟨J,E⟩:=E.at A
 refine sq fun K18 hK18=>rr E fun a E=>(E.ik 12 H (fun c20 E H=>?_) fun c20 E H=>?_)
 refine wp_skip (hK18 _ _ (sq fun K21 hK21=>wp_block (rr E fun a E=>(rr E fun a E=>(sq fun K24 hK24=>rr E fun a E=>(wp_block ?_))))))
 refine wp_loop_ghost (fun kq30 a w'=>∃(G:NV)(x26:Int)(y27:Bool)(x28:Int),kq30<=k16/\Env 44 G a/\At G [(0,.slice A0_0 x.length c0_0),(1,.slice A1_0 y.length c1_0),(5,.slice A10 l12.length c11),(6,iv x13),(7,iv x26),(8,.bool y27),(9,iv x28)]/\Sm W F w' F [row qB.k 139 (.slice A10 l12.length c11) l12]/\qm.l29 kq30 x y l12 x13 x26 y27 x28=some r) k16 ⟨_,0,false,0,Nat.le_refl _,E,.of,S,H⟩ ?_
 rintro kq30 a u32 ⟨G,x26,y27,x28,hkq,E,A,S,H⟩
 obtain _ | k31:=kq30
 exact zz H
 rw [qm.l29_s]at H
 obtain ⟨J,E⟩:=E.at A
 refine sq fun K33 hK33=>rr E fun a E=>(E.ik 18 H (fun c35 E H=>?_) fun c35 E H=>?_)
 refine wp_skip (hK33 _ _ (sq fun K36 hK36=>wp_block (sq fun K37 hK37=>pl0 ?_)))
 obtain ⟨c38,H⟩:=gd H
 have hE_:=E
 obtain ⟨ad39,rfl⟩:=g1_0.addr c38.1 c38.2
 replace E:=hE_
 obtain ⟨cs41,rfl,hc42⟩:=g1_0.el 0 x28 c38.1 c38.2
 refine plc E (.r 0 2<|.x 2 c38<|.c 3 (S.fc hc42 0)<|.r 4 2<|.nil) fun a E=>pld (hK37 _ _ (E.ik 26 H (fun c43 E H=>?_) fun c43 E H=>?_))
 refine sq fun K44 hK44=>pl0 ?_
 obtain ⟨c45,H⟩:=gd H
 have hE_:=E
 obtain ⟨ad46,rfl⟩:=g0_0.addr c45.1 c45.2
 replace E:=hE_
 obtain ⟨cs48,rfl,hc49⟩:=g0_0.el qA.z x28 c45.1 c45.2
 refine plc E (.r 0 3<|.x 3 c45<|.cs 4 (S.fcs hc49)<|.nil) fun a E=>?_
 obtain ⟨t51,h52,H⟩:=bd H
 refine plq E S en142 (qBE.calls (nth qA.z x x28) _ _ _ S.own.sub h52) fun u50 S a E=>plc E (.r 6 2 .nil) fun a E=>pld (hK44 _ _ (pl0 (plc E (.r 0 1 .nil) fun a E=>pld ?_)))
 refine qCe ?_
 refine hK36 _ _ (pl0 (plc E (.r 0 3 .nil) fun a E=>pld ?_))
 exact qCf ⟨k31,by omega,_,(w64 (x26+t51)),true,(w64 (x28+1)),by omega,E,.of,S,H⟩
 refine wp_skip ?_
 refine qCe ?_
 refine hK36 _ _ (pl0 (plc E (.r 0 3 .nil) fun a E=>pld ?_))
 exact qCf ⟨k31,by omega,_,x26,y27,(w64 (x28+1)),by omega,E,.of,S,H⟩
 refine wp_exit ?_
 refine hK24 _ _ (sq fun K53 hK53=>?_)
 have J60:∀ kq58,kq58<=k31->∀(G:NV)(x56:Int)(a:Act)(w':World),Env 44 G a->At G [(0,.slice A0_0 x.length c0_0),(1,.slice A1_0 y.length c1_0),(5,.slice A10 l12.length c11),(6,iv x13),(7,iv x56),(8,.bool y27)]->Sm W F w' F [row qB.k 139 (.slice A10 l12.length c11) l12]->qm.j57 kq58 x y l12 x13 y27 x56=some r->K53 a w':=by
  intro kq58 hkq G x56 a u61 E A S H
  obtain _ | k59:=kq58
  exact zz H
  rw [qm.j57_s]at H
  obtain ⟨J,E⟩:=E.at A
  refine hK53 _ _ (rr E fun a E=>(E.ib 36 H (fun c63 E H=>?_) fun c63 E H=>?_))
  refine pl0 (plc E (.r 0 4 .nil) fun a E=>ple E (.lit (d:=qB.k) (e:=139) S [(⟨x13,x56⟩:qB)] (.cons rfl .nil)) ?_)
  rintro _ u64 a ⟨A65,c66,rfl,S,hg⟩ E
  obtain ⟨c68,H⟩:=gd H
  have S:=S.front 1 rfl
  refine ple E (.ap (d:=qB.k) 16 S (qCj (S.row_at (i:=1) rfl)) c68 c66) ?_
  rintro _ u71 a ⟨A69,c70,rfl,S,hz⟩ E
  refine plc E (.r 6 1 .nil) fun a E=>pld ?_
  refine qCe ?_
  refine hK21 _ _ (pl0 (plc E (.r 0 3 .nil) fun a E=>pld ?_))
  have S:=S.pm [0] 2
  exact qCf ⟨k59,by omega,_,A69,c70,(l12++[(⟨x13,x56⟩:qB)]),(w64 (x13+1)),by omega,E,.of,S,H⟩
  refine wp_skip ?_
  refine qCe ?_
  refine hK21 _ _ (pl0 (plc E (.r 0 3 .nil) fun a E=>pld ?_))
  exact qCf ⟨k59,by omega,_,A10,c11,l12,(w64 (x13+1)),by omega,E,.of,S,H⟩
 refine rr E fun a E=>(E.ik 35 H (fun c55 E H=>?_) fun c55 E H=>?_)
 refine pl0 (plc E (.r 0 1 .nil) fun a E=>pld ?_)
 exact J60 _ (by omega) _ 65536 _ _ E .of S H
 refine wp_skip ?_
 exact J60 _ (by omega) _ x26 _ _ E .of S H
 refine wp_exit ?_
 refine hK7 _ _ (rr E fun a E=>(wp_ret ?_))
 obtain rfl:=si H
 exact rt1 E ⟨_,rfl,_,_,_,rfl,S⟩
def qAa.l12:Nat->List qA->List Int->Int->Option (List qB)
 | 0,_,_,_=>none
 | k+1,x,l10,x11=>if x11<(x.length:Int) then (if 0<=x11/\x11<(x.length:Int) then (if 0<=x11/\x11<((List.replicate ((x.length:Int)).toNat (0:Int)).length:Int) then (qAa.l12 k x (l10.set (x11).toNat ((nth qA.z x x11).f1)) (w64 (x11+1))) else (none)) else (none)) else ((qm.f k x l10).bind fun t40=>(some t40))
theorem qAa.l12_s k x l10 x11:type_of% (qAa.l12.eq_2 x l10 x11 k):=qAa.l12.eq_2 x l10 x11 k
def qAa.f(k:Nat)(x:List qA):Option (List qB):=if 0<=(x.length:Int)/\(x.length:Int) * 8<=140737488355328 then (qAa.l12 k x (List.replicate ((x.length:Int)).toNat (0:Int)) 0) else (none)
def qAa.Post(W F:World)(r:List qB)(v:Value)(w':World):Prop:=∃(F':World)(RA0_0:OA)(rc0_0:Nat),v = .slice RA0_0 r.length rc0_0/\Sm W F w' F' [row qB.k 139 (.slice RA0_0 r.length rc0_0) r]
theorem qAa.calls(k:Nat)(x:List qA)(A0_0:OA)(c0_0:Nat)(r:List qB)(W F:World)(hown:Sub F W)(g0_0:Rd qA.k F A0_0 c0_0 x)(H:qAa.f k x=some r):
    Cr 117 #[.slice A0_0 x.length c0_0] W (qAa.Post W F r):=by
 have S:=sT hown
 unfold qAa.f at H
 refine ent 25 rfl rfl rfl fun a E=>?_
 refine rr E fun a E=>(sq fun K2 hK2=>pl0 (plc E (.r 0 2 .nil) fun a E=>?_))
 obtain ⟨c3,H⟩:=gd H
 refine ple E (.mk (d:=ki) (e:=3) 8 0 S c3 (by rw [zr3]; exact rfl)) ?_
 rintro _ u6 a ⟨A4,c5,rfl,S,hg⟩ E
 refine plc E (.r 3 1 .nil) fun a E=>pld (hK2 _ _ (sq fun K8 hK8=>rr E fun a E=>(wp_block ?_)))
 refine wp_loop_ghost (fun kq13 a w'=>∃(G:NV)(l10:List Int)(x11:Int),kq13<=k/\Env 25 G a/\At G [(0,.slice A0_0 x.length c0_0),(3,.slice A4 ((List.replicate ((x.length:Int)).toNat (0:Int)).length) c5),(4,iv x11)]/\Sm W F w' F [row ki 3 (.slice A4 ((List.replicate ((x.length:Int)).toNat (0:Int)).length) c5) l10]/\qAa.l12 kq13 x l10 x11=some r) k ⟨_,(List.replicate ((x.length:Int)).toNat (0:Int)),0,Nat.le_refl _,E,.of,S,H⟩ ?_
 rintro kq13 a u15 ⟨G,l10,x11,hkq,E,A,S,H⟩
 obtain _ | k14:=kq13
 exact zz H
 rw [qAa.l12_s]at H
 obtain ⟨J,E⟩:=E.at A
 refine sq fun K16 hK16=>rr E fun a E=>(E.ik 11 H (fun c18 E H=>?_) fun c18 E H=>?_)
 refine wp_skip (hK16 _ _ (sq fun K19 hK19=>wp_block (pl0 ?_)))
 obtain ⟨c20,H⟩:=gd H
 have hE_:=E
 obtain ⟨ad21,rfl⟩:=g0_0.addr c20.1 c20.2
 replace E:=hE_
 obtain ⟨cs23,rfl,hc24⟩:=g0_0.el qA.z x11 c20.1 c20.2
 obtain ⟨c25,H⟩:=gd H
 have hr26:=S.ra 0
 have c27:0<=x11/\x11<(l10.length:Int):=by rw [← (qCg hr26).1]; exact c25
 have hE_:=E
 obtain ⟨b28,rfl⟩:=qCi hr26 c27.1 c27.2
 replace E:=hE_
 have hr_:=S.ra 0
 obtain ⟨cs30,rfl,hc31⟩:=qCh hr_ 0 x11 c27.1 c27.2
 refine plc E (.r 0 4<|.x 4 c20<|.r 5 1<|.c 6 (S.fc hc24 1)<|.x 7 c25<|.nil) fun a E=>?_
 obtain ⟨cs33,rfl,hc34⟩:=qCh (S.row_at (i:=0) rfl) 0 x11 c27.1 c27.2
 refine ple E (.set (d:=ki) (n:=(List.replicate ((x.length:Int)).toNat (0:Int)).length) (i:=x11) ((nth qA.z x x11).f1) (0) (ea0 _ _) S c27 [iv (nth 0 l10 x11)] hc34 [iv ((nth qA.z x x11).f1)] rfl) ?_
 rintro _ u32 a ⟨rfl,S,hz⟩ E
 refine pld ?_
 refine qCe ?_
 refine hK19 _ _ (pl0 (plc E (.r 0 3 .nil) fun a E=>pld ?_))
 exact qCf ⟨k14,by omega,_,(l10.set (x11).toNat ((nth qA.z x x11).f1)),(w64 (x11+1)),by omega,E,.of,S,H⟩
 refine wp_exit ?_
 refine hK8 _ _ (sq fun K35 hK35=>pl0 (plc E (.r 0 2 .nil) fun a E=>?_))
 have hn36:=(qCg (S.row_at (i:=0) rfl)).1
 replace E:=E.set (d:=3) (v:=.slice A4 l10.length c5) (Eq.trans (b:=.slice A4 ((List.replicate ((x.length:Int)).toNat (0:Int)).length) c5) (by kernel_rfl) (by rw [← hn36]))
 replace E:=E.set (d:=23) (v:=.slice A4 l10.length c5) (Eq.trans (b:=.slice A4 ((List.replicate ((x.length:Int)).toNat (0:Int)).length) c5) (by kernel_rfl) (by rw [← hn36]))
 replace S:Sm W F u15 F [row ki 3 (.slice A4 l10.length c5) l10]:=by rw [← hn36]; exact S
 obtain ⟨F37,hs,g38,S⟩:=S.give
 have g0_0:=g0_0.mono hs
 obtain ⟨t40,h41,H⟩:=bd H
 refine ple E (.cl en143 (qm.calls k14 x l10 _ _ _ _ _ _ _ S.own.sub g0_0 g38 h41)) ?_
 rintro _ u39 a ⟨F42,A43,c44,rfl,hC⟩ E
 have S:=S.called (X:=[]) hC
 refine plc E (.r 3 1 .nil) fun a E=>pld (hK35 _ _ (wp_ret ?_))
 obtain rfl:=si H
 exact rt1 E ⟨_,rfl,_,_,_,rfl,S⟩
def qAV.l12:Nat->List qA->Int->List Int->Int->Option (List qB)
 | 0,_,_,_,_=>none
 | k+1,x,y,l10,x11=>if x11<(x.length:Int) then (if 0<=x11/\x11<(x.length:Int) then (if (nth qA.z x x11).f1=y then (if 0<=x11/\x11<((List.replicate ((x.length:Int)).toNat (0:Int)).length:Int) then (qAV.l12 k x y (l10.set (x11).toNat ((nth qA.z x x11).f2)) (w64 (x11+1))) else (none)) else (qAV.l12 k x y l10 (w64 (x11+1)))) else (none)) else ((qm.f k x l10).bind fun t45=>(some t45))
theorem qAV.l12_s k x y l10 x11:type_of% (qAV.l12.eq_2 x y l10 x11 k):=qAV.l12.eq_2 x y l10 x11 k
def qAV.f(k:Nat)(x:List qA)(y:Int):Option (List qB):=if 0<=(x.length:Int)/\(x.length:Int) * 8<=140737488355328 then (qAV.l12 k x y (List.replicate ((x.length:Int)).toNat (0:Int)) 0) else (none)
def qAV.Post(W F:World)(r:List qB)(v:Value)(w':World):Prop:=∃(F':World)(RA0_0:OA)(rc0_0:Nat),v = .slice RA0_0 r.length rc0_0/\Sm W F w' F' [row qB.k 139 (.slice RA0_0 r.length rc0_0) r]
theorem qAV.calls(k:Nat)(x:List qA)(y:Int)(A0_0:OA)(c0_0:Nat)(r:List qB)(W F:World)(hown:Sub F W)(g0_0:Rd qA.k F A0_0 c0_0 x)(H:qAV.f k x y=some r):
    Cr 118 #[.slice A0_0 x.length c0_0,iv y] W (qAV.Post W F r):=by
 have S:=sT hown
 unfold qAV.f at H
 refine ent 34 rfl rfl rfl fun a E=>?_
 refine rr E fun a E=>(sq fun K2 hK2=>pl0 (plc E (.r 0 2 .nil) fun a E=>?_))
 obtain ⟨c3,H⟩:=gd H
 refine ple E (.mk (d:=ki) (e:=3) 8 0 S c3 (by rw [zr3]; exact rfl)) ?_
 rintro _ u6 a ⟨A4,c5,rfl,S,hg⟩ E
 refine plc E (.r 3 1 .nil) fun a E=>pld (hK2 _ _ (sq fun K8 hK8=>rr E fun a E=>(wp_block ?_)))
 refine wp_loop_ghost (fun kq13 a w'=>∃(G:NV)(l10:List Int)(x11:Int),kq13<=k/\Env 34 G a/\At G [(0,.slice A0_0 x.length c0_0),(1,iv y),(5,.slice A4 ((List.replicate ((x.length:Int)).toNat (0:Int)).length) c5),(6,iv x11)]/\Sm W F w' F [row ki 3 (.slice A4 ((List.replicate ((x.length:Int)).toNat (0:Int)).length) c5) l10]/\qAV.l12 kq13 x y l10 x11=some r) k ⟨_,(List.replicate ((x.length:Int)).toNat (0:Int)),0,Nat.le_refl _,E,.of,S,H⟩ ?_
 rintro kq13 a u15 ⟨G,l10,x11,hkq,E,A,S,H⟩
 obtain _ | k14:=kq13
 exact zz H
 rw [qAV.l12_s]at H
 obtain ⟨J,E⟩:=E.at A
 refine sq fun K16 hK16=>rr E fun a E=>(E.ik 13 H (fun c18 E H=>?_) fun c18 E H=>?_)
 refine wp_skip (hK16 _ _ (sq fun K19 hK19=>wp_block (sq fun K20 hK20=>pl0 ?_)))
 obtain ⟨c21,H⟩:=gd H
 have hE_:=E
 obtain ⟨ad22,rfl⟩:=g0_0.addr c21.1 c21.2
 replace E:=hE_
 obtain ⟨cs24,rfl,hc25⟩:=g0_0.el qA.z x11 c21.1 c21.2
 refine plc E (.r 0 2<|.x 2 c21<|.r 3 1<|.c 4 (S.fc hc25 1)<|.r 5 2<|.nil) fun a E=>pld (hK20 _ _ (E.ik 22 H (fun c26 E H=>?_) fun c26 E H=>?_))
 refine pl0 ?_
 obtain ⟨c30,H⟩:=gd H
 have hr31:=S.ra 0
 have c32:0<=x11/\x11<(l10.length:Int):=by rw [← (qCg hr31).1]; exact c30
 have hE_:=E
 obtain ⟨b33,rfl⟩:=qCi hr31 c32.1 c32.2
 replace E:=hE_
 have hr_:=S.ra 0
 obtain ⟨cs35,rfl,hc36⟩:=qCh hr_ 0 x11 c32.1 c32.2
 refine plc E (.r 0 4<|.x 4 c21<|.r 5 1<|.c 6 (S.fc hc25 2)<|.x 7 c30<|.nil) fun a E=>?_
 obtain ⟨cs38,rfl,hc39⟩:=qCh (S.row_at (i:=0) rfl) 0 x11 c32.1 c32.2
 refine ple E (.set (d:=ki) (n:=(List.replicate ((x.length:Int)).toNat (0:Int)).length) (i:=x11) ((nth qA.z x x11).f2) (0) (ea0 _ _) S c32 [iv (nth 0 l10 x11)] hc39 [iv ((nth qA.z x x11).f2)] rfl) ?_
 rintro _ u37 a ⟨rfl,S,hz⟩ E
 refine pld ?_
 refine qCe ?_
 refine hK19 _ _ (pl0 (plc E (.r 0 3 .nil) fun a E=>pld ?_))
 exact qCf ⟨k14,by omega,_,(l10.set (x11).toNat ((nth qA.z x x11).f2)),(w64 (x11+1)),by omega,E,.of,S,H⟩
 refine wp_skip ?_
 refine qCe ?_
 refine hK19 _ _ (pl0 (plc E (.r 0 3 .nil) fun a E=>pld ?_))
 exact qCf ⟨k14,by omega,_,l10,(w64 (x11+1)),by omega,E,.of,S,H⟩
 refine wp_exit ?_
 refine hK8 _ _ (sq fun K40 hK40=>pl0 (plc E (.r 0 2 .nil) fun a E=>?_))
 have hn41:=(qCg (S.row_at (i:=0) rfl)).1
 replace E:=E.set (d:=5) (v:=.slice A4 l10.length c5) (Eq.trans (b:=.slice A4 ((List.replicate ((x.length:Int)).toNat (0:Int)).length) c5) (by kernel_rfl) (by rw [← hn41]))
 replace E:=E.set (d:=32) (v:=.slice A4 l10.length c5) (Eq.trans (b:=.slice A4 ((List.replicate ((x.length:Int)).toNat (0:Int)).length) c5) (by kernel_rfl) (by rw [← hn41]))
 replace S:Sm W F u15 F [row ki 3 (.slice A4 l10.length c5) l10]:=by rw [← hn41]; exact S
 obtain ⟨F42,hs,g43,S⟩:=S.give
 have g0_0:=g0_0.mono hs
 obtain ⟨t45,h46,H⟩:=bd H
 refine ple E (.cl en143 (qm.calls k14 x l10 _ _ _ _ _ _ _ S.own.sub g0_0 g43 h46)) ?_
 rintro _ u44 a ⟨F47,A48,c49,rfl,hC⟩ E
 have S:=S.called (X:=[]) hC
 refine plc E (.r 3 1 .nil) fun a E=>pld (hK40 _ _ (wp_ret ?_))
 obtain rfl:=si H
 exact rt1 E ⟨_,rfl,_,_,_,rfl,S⟩
def qBA.f(x:Int):Option Int:=some (IntKind.u64.wrap ((IntKind.u64.wrap ((IntKind.u64.wrap (x.tdiv 4294967296)) * 4294967296))+(IntKind.u64.wrap (((BitVec.ofInt 64 (x.tmod 4294967296) ^^^ BitVec.ofInt 64 (IntKind.u64.wrap (x.tdiv 4294967296))).toNat:Int)))))
def qBA.Post(W F:World)(r:Int)(v:Value)(w':World):Prop:=∃(F':World),v = .int .u64 r/\Sm W F w' F' []
theorem qBA.calls(x:Int)(r:Int)(W F:World)(hown:Sub F W)(H:qBA.f x=some r):
    Cr 168 #[.int .u64 x] W (qBA.Post W F r):=by
 have S:=sT hown
 unfold qBA.f at H
 refine ent 15 rfl rfl rfl fun a E=>?_
 refine rr E fun a E=>(rr E fun a E=>(rr E fun a E=>(wp_ret ?_)))
 obtain rfl:=si H
 exact rt1 E ⟨_,rfl,_,rfl,S⟩
def qBO.f(x:Int):Option Int:=(qBA.f x).bind fun t4=>((qBA.f (IntKind.u64.wrap (t4 * 15485907386658061715))).bind fun t8=>((qBA.f (IntKind.u64.wrap (t8 * 15485907386658061715))).bind fun t12=>(some t12)))
def qBO.Post(W F:World)(r:Int)(v:Value)(w':World):Prop:=∃(F':World),v = .int .u64 r/\Sm W F w' F' []
theorem qBO.calls(x:Int)(r:Int)(W F:World)(hown:Sub F W)(H:qBO.f x=some r):
    Cr 146 #[.int .u64 x] W (qBO.Post W F r):=by
 have S:=sT hown
 unfold qBO.f at H
 refine ent 11 rfl rfl rfl fun a E=>?_
 refine rr E fun a E=>(sq fun K2 hK2=>pl0 (plc E (.r 0 1 .nil) fun a E=>?_))
 obtain ⟨t4,h5,H⟩:=bd H
 refine plq E S en168 (qBA.calls x _ _ _ S.own.sub h5) fun u3 S a E=>plc E (.r 2 2 .nil) fun a E=>pld (hK2 _ _ (sq fun K6 hK6=>pl0 (plc E (.r 0 1 .nil) fun a E=>?_)))
 obtain ⟨t8,h9,H⟩:=bd H
 refine plq E S en168 (qBA.calls (IntKind.u64.wrap (t4 * 15485907386658061715)) _ _ _ S.own.sub h9) fun u7 S a E=>plc E (.r 2 2 .nil) fun a E=>pld (hK6 _ _ (sq fun K10 hK10=>pl0 (plc E (.r 0 1 .nil) fun a E=>?_)))
 obtain ⟨t12,h13,H⟩:=bd H
 refine plq E S en168 (qBA.calls (IntKind.u64.wrap (t8 * 15485907386658061715)) _ _ _ S.own.sub h13) fun u11 S a E=>plc E (.r 2 1 .nil) fun a E=>pld (hK10 _ _ (wp_ret ?_))
 obtain rfl:=si H
 exact rt1 E ⟨_,rfl,_,rfl,S⟩
def qAT.l10:Nat->List Int->Int->Int->Option Int
 | 0,_,_,_=>none
 | k+1,y,x8,x9=>if x9<(y.length:Int) then (if 0<=x9/\x9<(y.length:Int) then ((qBO.f (IntKind.u64.wrap ((IntKind.u64.wrap (((BitVec.ofInt 64 x8 ^^^ BitVec.ofInt 64 (nth 0 y x9)).toNat:Int)))+11400714819323198485))).bind fun t24=>(qAT.l10 k y t24 (w64 (x9+1)))) else (none)) else (some x8)
theorem qAT.l10_s k y x8 x9:type_of% (qAT.l10.eq_2 y x8 x9 k):=qAT.l10.eq_2 y x8 x9 k
def qAT.f(k:Nat)(x:Int)(y:List Int):Option Int:=(qBO.f x).bind fun t4=>(qAT.l10 k y t4 0)
def qAT.Post(W F:World)(r:Int)(v:Value)(w':World):Prop:=∃(F':World),v = .int .u64 r/\Sm W F w' F' []
theorem qAT.calls(k:Nat)(x:Int)(y:List Int)(A1_0:OA)(c1_0:Nat)(r:Int)(W F:World)(hown:Sub F W)(g1_0:Rd (Kn.int .u64) F A1_0 c1_0 y)(H:qAT.f k x y=some r):
    Cr 120 #[.int .u64 x,.slice A1_0 y.length c1_0] W (qAT.Post W F r):=by
 have S:=sT hown
 unfold qAT.f at H
 refine ent 24 rfl rfl rfl fun a E=>?_
 refine rr E fun a E=>(sq fun K2 hK2=>pl0 (plc E (.r 0 1 .nil) fun a E=>?_))
 obtain ⟨t4,h5,H⟩:=bd H
 refine plq E S en146 (qBO.calls x _ _ _ S.own.sub h5) fun u3 S a E=>plc E (.r 2 1 .nil) fun a E=>pld (hK2 _ _ (sq fun K6 hK6=>rr E fun a E=>(wp_block ?_)))
 refine wp_loop_ghost (fun kq11 a w'=>∃(G:NV)(x8:Int)(x9:Int),kq11<=k/\Env 24 G a/\At G [(1,.slice A1_0 y.length c1_0),(5,.int .u64 x8),(6,iv x9)]/\Sm W F w' F []/\qAT.l10 kq11 y x8 x9=some r) k ⟨_,t4,0,Nat.le_refl _,E,.of,S,H⟩ ?_
 rintro kq11 a u13 ⟨G,x8,x9,hkq,E,A,S,H⟩
 obtain _ | k12:=kq11
 exact zz H
 rw [qAT.l10_s]at H
 obtain ⟨J,E⟩:=E.at A
 refine sq fun K14 hK14=>rr E fun a E=>(E.ik 12 H (fun c16 E H=>?_) fun c16 E H=>?_)
 refine wp_skip (hK14 _ _ (sq fun K17 hK17=>wp_block (pl0 ?_)))
 obtain ⟨c18,H⟩:=gd H
 have hE_:=E
 obtain ⟨ad19,rfl⟩:=g1_0.addr c18.1 c18.2
 replace E:=hE_
 obtain ⟨cs21,rfl,hc22⟩:=g1_0.el 0 x9 c18.1 c18.2
 refine plc E (.r 0 3<|.x 3 c18<|.c 4 (S.fc hc22 0)<|.r 5 2<|.nil) fun a E=>?_
 obtain ⟨t24,h25,H⟩:=bd H
 refine plq E S en146 (qBO.calls (IntKind.u64.wrap ((IntKind.u64.wrap (((BitVec.ofInt 64 x8 ^^^ BitVec.ofInt 64 (nth 0 y x9)).toNat:Int)))+11400714819323198485)) _ _ _ S.own.sub h25) fun u23 S a E=>plc E (.r 8 1 .nil) fun a E=>pld ?_
 refine qCe ?_
 refine hK17 _ _ (pl0 (plc E (.r 0 3 .nil) fun a E=>pld ?_))
 exact qCf ⟨k12,by omega,_,t24,(w64 (x9+1)),by omega,E,.of,S,H⟩
 refine wp_exit ?_
 refine hK6 _ _ (rr E fun a E=>(wp_ret ?_))
 obtain rfl:=si H
 exact rt1 E ⟨_,rfl,_,rfl,S⟩
mutual
def ql.j6:Nat->Int->Bool->Option Int
 | 0,_,_=>none
 | k+1,x,y5=>if y5=true then (some 0) else (if x<=32768 then ((ql.f k (w64 (2 * x))).bind fun t18=>(some (w64 (65536+t18)))) else (ql.l27 k (IntKind.u64.wrap ((IntKind.u64.wrap x) * 32768)) 0 0))
def ql.l27:Nat->Int->Int->Int->Option Int
 | 0,_,_,_=>none
 | k+1,x24,x25,x26=>if x26<16 then (if (IntKind.u64.wrap ((IntKind.u64.wrap (x24 * x24)).tdiv 2147483648))<=1073741824 then (ql.l27 k (IntKind.u64.wrap (2 * (IntKind.u64.wrap ((IntKind.u64.wrap (x24 * x24)).tdiv 2147483648)))) (w64 ((w64 (2 * x25))+1)) (w64 (x26+1))) else (ql.l27 k (IntKind.u64.wrap ((IntKind.u64.wrap (x24 * x24)).tdiv 2147483648)) (w64 (2 * x25)) (w64 (x26+1)))) else (some x25)
def ql.f:Nat->Int->Option Int
 | 0,_=>none
 | k+1,x=>if x<1 then (ql.j6 k x true) else (ql.j6 k x (decide (x>65536)))
end
theorem ql.j6_s k x y5:type_of% (ql.j6.eq_2 x y5 k):=ql.j6.eq_2 x y5 k
theorem ql.l27_s k x24 x25 x26:type_of% (ql.l27.eq_2 x24 x25 x26 k):=ql.l27.eq_2 x24 x25 x26 k
theorem ql.f_s k x:type_of% (ql.f.eq_2 x k):=ql.f.eq_2 x k
def ql.Post(W F:World)(r:Int)(v:Value)(w':World):Prop:=∃(F':World),v=iv r/\Sm W F w' F' []
theorem ql.calls:∀(k:Nat)(x:Int)(r:Int)(W F:World)(hown:Sub F W)(H:ql.f k x=some r),
    Cr 190 #[iv x] W (ql.Post W F r):=by
 intro k
 induction k using Nat.strongRecOn
 rename_i k ih
 intro x r W F hown H
 obtain _ | k1:=k
 exact zz H
 have S:=sT hown
 rw [ql.f_s]at H
 refine ent 38 rfl rfl rfl fun a E=>?_
 refine rr E fun a E=>(sq fun K2 hK2=>sq fun K3 hK3=>?_)
 have J9:∀ kq7,kq7<=k1->∀(G:NV)(y5:Bool)(a:Act)(w':World),Env 38 G a->At G [(0,iv x),(11,.bool y5)]->Sm W F w' F []->ql.j6 kq7 x y5=some r->K3 a w':=by
  intro kq7 hkq G y5 a u10 E A S H
  obtain _ | k8:=kq7
  exact zz H
  rw [ql.j6_s]at H
  obtain ⟨J,E⟩:=E.at A
  refine hK3 _ _ (E.ib 11 H (fun c11 E H=>?_) fun c11 E H=>?_)
  refine rr E fun a E=>(wp_ret (qCc ?_))
  obtain rfl:=si H
  exact rt1 E ⟨_,rfl,_,rfl,S⟩
  refine wp_skip (hK2 _ _ (sq fun K13 hK13=>rr E fun a E=>(E.ik 13 H (fun c15 E H=>?_) fun c15 E H=>?_)))
  refine sq fun K16 hK16=>pl0 (plc E (.r 0 2 .nil) fun a E=>?_)
  obtain ⟨t18,h19,H⟩:=bd H
  refine plq E S en190 (ih k8 (by omega) (w64 (2 * x)) _ _ _ S.own.sub h19) fun u17 S a E=>plc E (.r 3 2 .nil) fun a E=>pld (hK16 _ _ (wp_ret (qCc ?_)))
  obtain rfl:=si H
  exact rt1 E ⟨_,rfl,_,rfl,S⟩
  refine wp_skip (hK13 _ _ (rr E fun a E=>(rr E fun a E=>(sq fun K22 hK22=>rr E fun a E=>(wp_block ?_)))))
  refine wp_loop_ghost (fun kq28 a w'=>∃(G:NV)(x24:Int)(x25:Int)(x26:Int),kq28<=k8/\Env 38 G a/\At G [(3,.int .u64 x24),(4,iv x25),(5,iv x26)]/\Sm W F w' F []/\ql.l27 kq28 x24 x25 x26=some r) k8 ⟨_,(IntKind.u64.wrap ((IntKind.u64.wrap x) * 32768)),0,0,Nat.le_refl _,E,.of,S,H⟩ ?_
  rintro kq28 a u30 ⟨G,x24,x25,x26,hkq,E,A,S,H⟩
  obtain _ | k29:=kq28
  exact zz H
  rw [ql.l27_s]at H
  obtain ⟨J,E⟩:=E.at A
  refine sq fun K31 hK31=>rr E fun a E=>(E.ik 22 H (fun c33 E H=>?_) fun c33 E H=>?_)
  refine wp_skip (hK31 _ _ (sq fun K34 hK34=>wp_block (rr E fun a E=>(rr E fun a E=>(rr E fun a E=>(E.ik 32 H (fun c38 E H=>?_) fun c38 E H=>?_))))))
  refine rr E fun a E=>(pl0 (plc E (.r 0 3 .nil) fun a E=>pld ?_))
  refine qCe ?_
  refine hK34 _ _ (pl0 (plc E (.r 0 3 .nil) fun a E=>pld ?_))
  exact qCf ⟨k29,by omega,_,(IntKind.u64.wrap (2 * (IntKind.u64.wrap ((IntKind.u64.wrap (x24 * x24)).tdiv 2147483648)))),(w64 ((w64 (2 * x25))+1)),(w64 (x26+1)),by omega,E,.of,S,H⟩
  refine wp_skip ?_
  refine qCe ?_
  refine hK34 _ _ (pl0 (plc E (.r 0 3 .nil) fun a E=>pld ?_))
  exact qCf ⟨k29,by omega,_,(IntKind.u64.wrap ((IntKind.u64.wrap (x24 * x24)).tdiv 2147483648)),(w64 (2 * x25)),(w64 (x26+1)),by omega,E,.of,S,H⟩
  refine wp_exit ?_
  refine hK22 _ _ (rr E fun a E=>(wp_ret ?_))
  obtain rfl:=si H
  exact rt1 E ⟨_,rfl,_,rfl,S⟩
 refine pl0 (plc E (.r 0 3 .nil) fun a E=>E.fk 8 H (fun c4 E H=>?_) fun c4 E H=>?_)
 refine plc E (.r 3 3 .nil) fun a E=>pld ?_
 exact J9 _ (by omega) _ true _ _ E .of S H
 refine plc E (.r 3 3 .nil) fun a E=>pld ?_
 exact J9 _ (by omega) _ (decide (x>65536)) _ _ E .of S H
def qBJ.f(k:Nat)(x:Int)(y:Int):Option Int:=(qAT.f k x [(IntKind.u64.wrap y)]).bind fun t8=>((ql.f k (w64 (1+(w64 (IntKind.u64.wrap (t8.tdiv 281474976710656)))))).bind fun t11=>(some t11))
def qBJ.Post(W F:World)(r:Int)(v:Value)(w':World):Prop:=∃(F':World),v=iv r/\Sm W F w' F' []
theorem qBJ.calls(k:Nat)(x:Int)(y:Int)(r:Int)(W F:World)(hown:Sub F W)(H:qBJ.f k x y=some r):
    Cr 167 #[.int .u64 x,iv y] W (qBJ.Post W F r):=by
 have S:=sT hown
 unfold qBJ.f at H
 refine ent 14 rfl rfl rfl fun a E=>?_
 refine rr E fun a E=>(sq fun K2 hK2=>pl0 (plc E (.r 0 3 .nil) fun a E=>ple E (.lit (d:=(Kn.int .u64)) (e:=148) S [(IntKind.u64.wrap y)] (.cons rfl .nil)) ?_))
 rintro _ u3 a ⟨A4,c5,rfl,S,hg⟩ E
 obtain ⟨t8,h9,H⟩:=bd H
 refine plq E S en120 (qAT.calls k x [(IntKind.u64.wrap y)] _ _ _ _ _ (Sub.refl _) (S.rd_at (i:=0) rfl) h9) fun u7 S a E=>plc E (.r 5 3 .nil) fun a E=>?_
 obtain ⟨t11,h12,H⟩:=bd H
 refine plq E S en190 (ql.calls k (w64 (1+(w64 (IntKind.u64.wrap (t8.tdiv 281474976710656))))) _ _ _ S.own.sub h12) fun u10 S a E=>plc E (.r 9 1 .nil) fun a E=>pld (hK2 _ _ (wp_ret ?_))
 have S:=S.tail
 obtain rfl:=si H
 exact rt1 E ⟨_,rfl,_,rfl,S⟩
end Go.Proofs.YthgfhlbjkmjlpaaGreat.GD
