import Derived.Test.YthgfhlbjkmjlpaaGreatGD8
namespace Go.Proofs.YthgfhlbjkmjlpaaGreat.GD
open Go Go.RowKit Go.Proofs.YthgfhlbjkmjlpaaGreat.Sl
set_option linter.unusedVariables false
set_option linter.unusedSimpArgs false
set_option maxHeartbeats 4000000
set_option maxRecDepth 100000
mutual
def qAw.j20:Nat->qAm->qD->List Bool->Bool->Option (qAm × qF × Int)
 | 0,_,_,_,_=>none
 | k+1,x,y,z,y19=>if y19=true then (some ((⟨[],0,0⟩:qAm),(⟨0,0,0,0,0,0,[]⟩:qF),1)) else ((qBj.f k x).bind fun t33=>(qAw.l43 k y z t33 t33.f1))
def qAw.l43:Nat->qD->List Bool->qAm->Int->Option (qAm × qF × Int)
 | 0,_,_,_,_=>none
 | k+1,y,z,t33,x42=>if x42<(t33.f0.length:Int) then (if 0<=x42/\x42<(t33.f0.length:Int) then ((qCF.f k y (nth qF.z t33.f0 x42)).bind fun t60=>(qAw.j63 k y z t33 x42 t60)) else (none)) else (qAw.j63 k y z t33 x42 false)
def qAw.j63:Nat->qD->List Bool->qAm->Int->Bool->Option (qAm × qF × Int)
 | 0,_,_,_,_,_=>none
 | k+1,y,z,t33,x42,y62=>if y62=true then (qAw.l43 k y z t33 (w64 (x42+1))) else (if x42=(t33.f0.length:Int) then (some ((⟨t33.f0,x42,t33.f2⟩:qAm),(⟨0,0,0,0,0,0,[]⟩:qF),5)) else (if 0<=x42/\x42<(t33.f0.length:Int) then ((qAn.f k y (nth qF.z t33.f0 x42) z t33.f2).bind fun t93=>(if t93=0 then ((qAP.f ((nth qF.z t33.f0 x42).f6)).bind fun t103=>(some ((⟨t33.f0,x42,t33.f2⟩:qAm),(⟨(nth qF.z t33.f0 x42).f0,(nth qF.z t33.f0 x42).f1,(nth qF.z t33.f0 x42).f2,(nth qF.z t33.f0 x42).f3,(nth qF.z t33.f0 x42).f4,(nth qF.z t33.f0 x42).f5,t103⟩:qF),0))) else (some ((⟨t33.f0,x42,t33.f2⟩:qAm),(⟨0,0,0,0,0,0,[]⟩:qF),t93)))) else (none)))
end
theorem qAw.j20_s k x y z y19:type_of% (qAw.j20.eq_2 x y z y19 k):=qAw.j20.eq_2 x y z y19 k
theorem qAw.l43_s k y z t33 x42:type_of% (qAw.l43.eq_2 y z t33 x42 k):=qAw.l43.eq_2 y z t33 x42 k
theorem qAw.j63_s k y z t33 x42 y62:type_of% (qAw.j63.eq_2 y z t33 x42 y62 k):=qAw.j63.eq_2 y z t33 x42 y62 k
def qAw.f(k:Nat)(x:qAm)(y:qD)(z:List Bool):Option (qAm × qF × Int):=(qBQ.f k x).bind fun t13=>(if t13=0 then ((qBn.f k y z).bind fun t17=>(qAw.j20 k x y z (!t17))) else (qAw.j20 k x y z true))
def qAw.Post(W F:World)(r:qAm × qF × Int)(v:Value)(w':World):Prop:=∃(F':World)(RA0_0:OA)(rc0_0:Nat)(RA1_6:OA)(rc1_6:Nat),v = .tuple #[.agg #[.slice RA0_0 r.1.f0.length rc0_0,iv r.1.f1,iv r.1.f2],.agg (dA r.2.1 RA1_6 rc1_6),iv r.2.2]/\Sm W F w' F' [row qF.k 29 (.slice RA0_0 r.1.f0.length rc0_0) r.1.f0,row ki 3 (.slice RA1_6 r.2.1.f6.length rc1_6) r.2.1.f6]
theorem qAw.calls(k:Nat)(x:qAm)(y:qD)(z:List Bool)(A0_0:OA)(c0_0:Nat)(A1_4:OA)(c1_4:Nat)(A1_5:OA)(c1_5:Nat)(A1_6:OA)(c1_6:Nat)(A2_0:OA)(c2_0:Nat)(r:qAm × qF × Int)(W F:World)(hown:Sub F W)(g0_0:Rd qF.k F A0_0 c0_0 x.f0)(g1_4:Rd qA.k F A1_4 c1_4 y.f4)(g1_5:Rd qE.k F A1_5 c1_5 y.f5)(g1_6:Rd qC.k F A1_6 c1_6 y.f6)(g2_0:Rd Kn.bool F A2_0 c2_0 z)(H:qAw.f k x y z=some r):
    Cr 24 #[.agg #[.slice A0_0 x.f0.length c0_0,iv x.f1,iv x.f2],.agg (mA y A1_4 c1_4 A1_5 c1_5 A1_6 c1_6),.slice A2_0 z.length c2_0] W (qAw.Post W F r):=by
 have S:=sT hown
 unfold qAw.f at H
 refine ent 75 rfl rfl rfl fun a E=>?_
 refine sq fun K1 hK1=>pl0 (plx (t:=50) E S [.slice A0_0 x.f0.length c0_0,iv x.f1,iv x.f2] fun b2 u3 hb2 S a E=>plx (t:=26) E S (mL y A1_4 c1_4 A1_5 c1_5 A1_6 c1_6) fun b4 u5 hb4 S a E=>pla (t:=50) E S [.slice none 0 0,iv 0,iv 0] fun b6 u7 hb6 S a E=>pla (t:=29) E S [iv 0,iv 0,iv 0,iv 0,iv 0,iv 0,.slice none 0 0] fun b8 u9 hb8 S a E=>plc E (.r 4 1 .nil) fun a E=>pld (hK1 _ _ (sq fun K10 hK10=>sq fun K11 hK11=>?_)))
 have J23:∀ kq21,kq21<=k->∀(G:NV)(y19:Bool)(a:Act)(w':World),Env 75 G a->At G [(2,.slice A2_0 z.length c2_0),(3,.pointer (pb b2)),(4,.pointer (pb b4)),(6,.pointer (pb b6)),(7,.pointer (pb b8)),(19,.bool y19)]->Sm W F w' F [box b8 #[iv 0,iv 0,iv 0,iv 0,iv 0,iv 0,.slice none 0 0] 29,box b6 #[.slice none 0 0,iv 0,iv 0] 50,box b4 (mA y A1_4 c1_4 A1_5 c1_5 A1_6 c1_6) 26,box b2 #[.slice A0_0 x.f0.length c0_0,iv x.f1,iv x.f2] 50]->qAw.j20 kq21 x y z y19=some r->K11 a w':=by
  intro kq21 hkq G y19 a u24 E A S H
  obtain _ | k22:=kq21
  exact zz H
  rw [qAw.j20_s]at H
  obtain ⟨J,E⟩:=E.at A
  refine hK11 _ _ (E.ib 19 H (fun c25 E H=>?_) fun c25 E H=>?_)
  refine sq fun K26 hK26=>pl0 (plc E (.r 0 2 .nil) fun a E=>?_)
  have S:=S.front 1 rfl
  refine pls E S [.slice none 0 0,iv 0,iv 0] fun u27 hb6 S a E=>?_
  have S:=S.front 1 rfl
  refine pls E S [iv 0,iv 0,iv 0,iv 0,iv 0,iv 0,.slice none 0 0] fun u28 hb8 S a E=>plc E (.r 4 1 .nil) fun a E=>pld (hK26 _ _ (wp_ret (qCc ?_)))
  have hb6:=S.ba 1
  have S:=S.nilrow qF.k 29
  have S:=S.nilrow ki 3
  have S:=S.pm [1,0] 6
  obtain rfl:=si H
  exact rtm E (.b hb6 ag50 sz50 (.b hb8 ag29 sz29 (.t .nil))) ⟨_,rfl,_,_,_,_,_,rfl,S⟩
  refine wp_skip (hK10 _ _ (sq fun K31 hK31=>pl0 (plc E (.bn 0 0 3 (S.ba 3) .nil) fun a E=>?_)))
  obtain ⟨t33,h34,H⟩:=bd H
  refine ple E (.cl en52 (qBj.calls k22 x _ _ _ _ _ S.own.sub g0_0 h34)) ?_
  rintro _ u32 a ⟨F35,A36,c37,rfl,hC⟩ E
  have hs:=hC.sub
  have S:=S.called (X:=[]) hC
  have g2_0:=g2_0.mono hs
  have g0_0:=g0_0.mono hs
  have g1_4:=g1_4.mono hs
  have g1_5:=g1_5.mono hs
  have g1_6:=g1_6.mono hs
  have S:=S.front 4 rfl
  refine pls E S [.slice A36 t33.f0.length c37,iv t33.f1,iv t33.f2] fun u40 hb2 S a E=>pld (hK31 _ _ (sq fun K41 hK41=>wp_block ?_))
  have S:=S.pm [0,2,3,4,1] 5
  refine wp_loop_ghost (fun kq44 a w'=>∃(G:NV)(x42:Int),kq44<=k22/\Env 75 G a/\At G [(2,.slice A2_0 z.length c2_0),(3,.pointer (pb b2)),(4,.pointer (pb b4)),(6,.pointer (pb b6)),(7,.pointer (pb b8))]/\Sm W F w' F35 [box b2 #[.slice A36 t33.f0.length c37,iv x42,iv t33.f2] 50,box b8 #[iv 0,iv 0,iv 0,iv 0,iv 0,iv 0,.slice none 0 0] 29,box b6 #[.slice none 0 0,iv 0,iv 0] 50,box b4 (mA y A1_4 c1_4 A1_5 c1_5 A1_6 c1_6) 26,row qF.k 29 (.slice A36 t33.f0.length c37) t33.f0]/\qAw.l43 kq44 y z t33 x42=some r) k22 ⟨_,t33.f1,Nat.le_refl _,E,.of,S,H⟩ ?_
  rintro kq44 a u46 ⟨G,x42,hkq,E,A,S,H⟩
  obtain _ | k45:=kq44
  exact zz H
  rw [qAw.l43_s]at H
  obtain ⟨J,E⟩:=E.at A
  refine sq fun K47 hK47=>sq fun K48 hK48=>?_
  have J66:∀ kq64,kq64<=k45->∀(G:NV)(y62:Bool)(a:Act)(w':World),Env 75 G a->At G [(2,.slice A2_0 z.length c2_0),(3,.pointer (pb b2)),(4,.pointer (pb b4)),(6,.pointer (pb b6)),(7,.pointer (pb b8)),(39,.bool y62)]->Sm W F w' F35 [box b2 #[.slice A36 t33.f0.length c37,iv x42,iv t33.f2] 50,box b8 #[iv 0,iv 0,iv 0,iv 0,iv 0,iv 0,.slice none 0 0] 29,box b6 #[.slice none 0 0,iv 0,iv 0] 50,box b4 (mA y A1_4 c1_4 A1_5 c1_5 A1_6 c1_6) 26,row qF.k 29 (.slice A36 t33.f0.length c37) t33.f0]->qAw.j63 kq64 y z t33 x42 y62=some r->K48 a w':=by
   intro kq64 hkq G y62 a u67 E A S H
   obtain _ | k65:=kq64
   exact zz H
   rw [qAw.j63_s]at H
   obtain ⟨J,E⟩:=E.at A
   refine hK48 _ _ (E.ib 39 H (fun c68 E H=>?_) fun c68 E H=>?_)
   refine wp_skip (hK47 _ _ (wp_block (pl0 (plc E (.r 0 1<|.b 1 1 (S.ba 0)<|.r 2 2<|.nil) fun a E=>pls E S [.slice A36 t33.f0.length c37,iv (w64 (x42+1)),iv t33.f2] fun u69 hb2 S a E=>pld ?_))))
   refine qCe ?_
   exact qCf ⟨k65,by omega,_,(w64 (x42+1)),by omega,E,.of,S,H⟩
   refine wp_exit ?_
   refine hK41 _ _ (sq fun K70 hK70=>sq fun K71 hK71=>pl0 ?_)
   have hb2:=S.ba 0
   refine plc E (.r 0 1<|.b 1 1 hb2<|.r 2 1<|.b 3 0 hb2<|.r 4 2<|.nil) fun a E=>pld (hK71 _ _ (E.ik 49 H (fun c72 E H=>?_) fun c72 E H=>?_))
   refine sq fun K73 hK73=>pl0 (plc E (.bn 0 0 3 hb2<|.r 1 1<|.nil) fun a E=>?_)
   have S:=S.front 2 rfl
   refine pls E S [.slice A36 t33.f0.length c37,iv x42,iv t33.f2] fun u74 hb6 S a E=>?_
   have S:=S.front 2 rfl
   refine pls E S [iv 0,iv 0,iv 0,iv 0,iv 0,iv 0,.slice none 0 0] fun u75 hb8 S a E=>plc E (.r 4 1 .nil) fun a E=>pld (hK73 _ _ (wp_ret (qCc ?_)))
   have hb6:=S.ba 1
   have S:=S.nilrow ki 3
   have S:=S.pm [5,0] 6
   obtain rfl:=si H
   exact rtm E (.b hb6 ag50 sz50 (.b hb8 ag29 sz29 (.t .nil))) ⟨_,rfl,_,_,_,_,_,rfl,S⟩
   refine wp_skip (hK70 _ _ (sq fun K77 hK77=>pl0 ?_))
   obtain ⟨c78,H⟩:=gd H
   have hr79:=S.ra 4
   have hE_:=E
   obtain ⟨b80,rfl⟩:=qCi hr79 c78.1 c78.2
   replace E:=hE_
   have hr_:=S.ra 4
   obtain ⟨cs82,⟨A84,c85,rfl,g86⟩,hc83⟩:=qCh hr_ qF.z x42 c78.1 c78.2
   refine plc E (.r 0 1<|.b 1 0 hb2<|.r 2 1<|.b 3 1 hb2<|.x 4 c78<|.cs 5 hc83<|.nil) fun a E=>pla (t:=29) E S [iv 0,iv 0,iv 0,iv 0,iv 0,iv 0,.slice none 0 0] fun b87 u88 hb87 S a E=>pls E S [iv ((nth qF.z t33.f0 x42).f0),iv ((nth qF.z t33.f0 x42).f1),iv ((nth qF.z t33.f0 x42).f2),iv ((nth qF.z t33.f0 x42).f3),iv ((nth qF.z t33.f0 x42).f4),iv ((nth qF.z t33.f0 x42).f5),.slice A84 (((nth qF.z t33.f0 x42).f6).length) c85] fun u89 hb87 S a E=>pld (hK77 _ _ (sq fun K90 hK90=>sq fun K91 hK91=>pl0 ?_))
   have hb2:=S.ba 1
   refine plc E (.bn 0 0 7 (S.ba 4)<|.bn 1 0 7 hb87<|.r 2 2<|.b 4 2 hb2<|.nil) fun a E=>?_
   obtain ⟨t93,h94,H⟩:=bd H
   refine plq E S en12 (qAn.calls k65 y (nth qF.z t33.f0 x42) z t33.f2 _ _ _ _ _ _ _ _ _ _ _ _ _ S.own.sub g1_4 g1_5 g1_6 g86 g2_0 h94) fun u92 S a E=>plc E (.r 6 1 .nil) fun a E=>pld (hK91 _ _ (rr E fun a E=>(E.ikn 65 H (fun c96 E H=>?_) fun c96 E H=>?_)))
   refine wp_skip (hK90 _ _ (sq fun K101 hK101=>pl0 (plc E (.r 0 1<|.b 1 6 (S.ba 0)<|.nil) fun a E=>?_)))
   obtain ⟨t103,h104,H⟩:=bd H
   refine ple E (.cl en54 (qAP.calls ((nth qF.z t33.f0 x42).f6) _ _ _ _ _ S.own.sub g86 h104)) ?_
   rintro _ u102 a ⟨F105,A106,c107,rfl,hC⟩ E
   have hs:=hC.sub
   have S:=S.called (X:=[]) hC
   have g2_0:=g2_0.mono hs
   have g1_4:=g1_4.mono hs
   have g1_5:=g1_5.mono hs
   have g1_6:=g1_6.mono hs
   refine plc E (.r 3 1 .nil) fun a E=>?_
   have S:=S.front 1 rfl
   refine pls E S [iv ((nth qF.z t33.f0 x42).f0),iv ((nth qF.z t33.f0 x42).f1),iv ((nth qF.z t33.f0 x42).f2),iv ((nth qF.z t33.f0 x42).f3),iv ((nth qF.z t33.f0 x42).f4),iv ((nth qF.z t33.f0 x42).f5),.slice A106 t103.length c107] fun u110 hb87 S a E=>pld (hK101 _ _ (sq fun K111 hK111=>?_))
   refine drawn 5 ⟨[2,3],[2,3],fun q=>q=b6\/q=b8⟩ mixed rfl (by kernel_rfl) fun hst=>?_
   have S:=S.drew
   have hb2:=S.ba 2
   have ne112:¬ (b87=b6\/b87=b8):=by rintro (h | h) <;> first | exact S.ne (i:=0) (j:=4) rfl rfl (by decide) h | exact S.ne (i:=0) (j:=3) rfl rfl (by decide) h
   have hb87:=S.ba 0
   refine mny 3 hst E (.bn 0 0 3 hb2<|.bnX 1 0 7 hb87 ne112<|.nil) fun a E=>?_
   have S:=S.front 4 rfl
   refine on1 2 E (.stx S [.slice (pb b80) t33.f0.length c37,iv x42,iv t33.f2]) ?_
   rintro _ u113 a ⟨⟨rfl,hb6,S,hz⟩,hx⟩ E
   refine ⟨.c (hx.mono (by intro q h; subst h; simp)),?_⟩
   have S:=S.front 4 rfl
   refine on1 3 E (.stx S [iv ((nth qF.z t33.f0 x42).f0),iv ((nth qF.z t33.f0 x42).f1),iv ((nth qF.z t33.f0 x42).f2),iv ((nth qF.z t33.f0 x42).f3),iv ((nth qF.z t33.f0 x42).f4),iv ((nth qF.z t33.f0 x42).f5),.slice A106 t103.length c107]) ?_
   rintro _ u114 a ⟨⟨rfl,hb8,S,hz⟩,hx⟩ E
   refine ⟨.c (hx.mono (by intro q h; subst h; simp)),?_⟩
   refine mny 0 hst E (.r 4 1 .nil) fun a E=>?_
   refine dn ?_
   refine hK111 _ _ (wp_ret ?_)
   have hb6:=S.ba 1
   have S:=S.pm [6,3] 7
   obtain rfl:=si H
   exact rtm E (.b hb6 ag50 sz50 (.b hb8 ag29 sz29 (.t .nil))) ⟨_,rfl,_,_,_,_,_,rfl,S⟩
   refine sq fun K97 hK97=>pl0 (plc E (.bn 0 0 3 (S.ba 1)<|.r 1 2<|.nil) fun a E=>?_)
   have S:=S.front 3 rfl
   refine pls E S [.slice (pb b80) t33.f0.length c37,iv x42,iv t33.f2] fun u98 hb6 S a E=>?_
   have S:=S.front 3 rfl
   refine pls E S [iv 0,iv 0,iv 0,iv 0,iv 0,iv 0,.slice none 0 0] fun u99 hb8 S a E=>plc E (.r 5 1 .nil) fun a E=>pld (hK97 _ _ (wp_ret (qCc ?_)))
   have hb6:=S.ba 1
   have S:=S.nilrow ki 3
   have S:=S.pm [6,0] 7
   obtain rfl:=si H
   exact rtm E (.b hb6 ag50 sz50 (.b hb8 ag29 sz29 (.t .nil))) ⟨_,rfl,_,_,_,_,_,rfl,S⟩
  refine drawn 16 ⟨[],[],fun q=>False⟩ mixed rfl (by kernel_rfl) fun hst=>?_
  have S:=S.drew
  have hb2:=S.ba 0
  refine mny 9 hst E (.r 0 1<|.b 1 1 hb2<|.r 2 1<|.b 3 0 hb2<|.r 4 3<|.nil) fun a E=>?_
  refine E.fk 30 H (fun c49 E H=>?_) fun c49 E H=>?_
  have hb4:=S.ba 3
  obtain ⟨c50,H⟩:=gd H
  have hr51:=S.ra 4
  have hE_:=E
  obtain ⟨b52,rfl⟩:=qCi hr51 c50.1 c50.2
  replace E:=hE_
  have hr_:=S.ra 4
  obtain ⟨cs54,⟨A56,c57,rfl,g58⟩,hc55⟩:=qCh hr_ qF.z x42 c50.1 c50.2
  refine mny 2 hst E (.bn 7 0 7 hb4<|.r 8 1<|.b 9 0 hb2<|.r 10 1<|.b 11 1 hb2<|.x 12 c50<|.cs 13 hc55<|.nil) fun a E=>?_
  obtain ⟨t60,h61,H⟩:=bd H
  refine on1 14 E (.cl en53 (qCF.calls k45 y (nth qF.z t33.f0 x42) _ _ _ _ _ _ _ _ _ _ _ S.own.sub g1_4 g1_5 g1_6 g58 h61)) ?_
  rintro _ u59 a ⟨_,rfl,hC⟩ E
  refine ⟨.of hC.agr,?_⟩
  have S:=S.lent hC
  refine mny 0 hst E (.r 15 1 .nil) fun a E=>?_
  refine dn ?_
  exact J66 _ (by omega) _ t60 _ _ E .of S H
  refine mny 0 hst E (.r 7 9 .nil) fun a E=>?_
  refine dn ?_
  exact J66 _ (by omega) _ false _ _ E .of S H
 refine pl0 (plc E (.bn 0 0 3 (S.ba 3) .nil) fun a E=>?_)
 obtain ⟨t13,h14,H⟩:=bd H
 refine plq E S en25 (qBQ.calls k x _ _ _ _ _ S.own.sub g0_0 h14) fun u12 S a E=>plc E (.r 2 2 .nil) fun a E=>E.fkn 14 H (fun c15 E H=>?_) fun c15 E H=>?_
 refine plc E (.bn 4 0 7 (S.ba 2)<|.r 5 1<|.nil) fun a E=>?_
 obtain ⟨t17,h18,H⟩:=bd H
 refine plq E S en38 (qBn.calls k y z _ _ _ _ _ _ _ _ _ _ _ S.own.sub g1_4 g1_5 g1_6 g2_0 h18) fun u16 S a E=>plc E (.r 7 2 .nil) fun a E=>pld ?_
 exact J23 _ (by omega) _ (!t17) _ _ E .of S H
 refine plc E (.r 4 5 .nil) fun a E=>pld ?_
 exact J23 _ (by omega) _ true _ _ E .of S H
def qCP.f(x:qAN):Option qF:=some (⟨1,x.f1,x.f2,x.f3,0,0,[]⟩:qF)
def qCP.Post(W F:World)(r:qF)(v:Value)(w':World):Prop:=∃(F':World)(RA0_6:OA)(rc0_6:Nat),v = .agg (dA r RA0_6 rc0_6)/\Sm W F w' F' []/\Rd ki F' RA0_6 rc0_6 r.f6
theorem qCP.calls(x:qAN)(r:qF)(W F:World)(hown:Sub F W)(H:qCP.f x=some r):
    Cr 57 #[.agg #[iv x.f0,iv x.f1,iv x.f2,iv x.f3,iv x.f4]] W (qCP.Post W F r):=by
 have S:=sT hown
 unfold qCP.f at H
 refine ent 10 rfl rfl rfl fun a E=>?_
 refine sq fun K1 hK1=>pl0 (plx (t:=65) E S [iv x.f0,iv x.f1,iv x.f2,iv x.f3,iv x.f4] fun b2 u3 hb2 S a E=>pla (t:=29) E S [iv 0,iv 0,iv 0,iv 0,iv 0,iv 0,.slice none 0 0] fun b4 u5 hb4 S a E=>pld (hK1 _ _ (sq fun K6 hK6=>pl0 ?_)))
 have hb2:=S.ba 1
 refine plc E (.r 0 1<|.b 1 1 hb2<|.r 2 1<|.b 3 2 hb2<|.r 4 1<|.b 5 3 hb2<|.r 6 1<|.nil) fun a E=>pls E S [iv 1,iv x.f1,iv x.f2,iv x.f3,iv 0,iv 0,.slice none 0 0] fun u7 hb4 S a E=>pld (hK6 _ _ (wp_ret ?_))
 have S:=S.pm [] 2
 obtain rfl:=si H
 exact ret1 E rfl (.cell (by kernel_rfl) (qCw [iv 1,iv x.f1,iv x.f2,iv x.f3,iv 0,iv 0,.slice none 0 0] ag29 sz29 hb4 rfl) .nil) ⟨_,rfl,_,_,_,rfl,S,(Rd.nil _ _)⟩
def qBK.j8:Nat->qAN->Bool->Option Int
 | 0,_,_=>none
 | k+1,x,y7=>if y7=true then (some 0) else (some x.f4)
theorem qBK.j8_s k x y7:type_of% (qBK.j8.eq_2 x y7 k):=qBK.j8.eq_2 x y7 k
def qBK.f(k:Nat)(x:qAN):Option Int:=if x.f0=1 then (qBK.j8 k x true) else (qBK.j8 k x (x.f0 == 4))
def qBK.Post(W F:World)(r:Int)(v:Value)(w':World):Prop:=∃(F':World),v=iv r/\Sm W F w' F' []
theorem qBK.calls(k:Nat)(x:qAN)(r:Int)(W F:World)(hown:Sub F W)(H:qBK.f k x=some r):
    Cr 60 #[.agg #[iv x.f0,iv x.f1,iv x.f2,iv x.f3,iv x.f4]] W (qBK.Post W F r):=by
 have S:=sT hown
 unfold qBK.f at H
 refine ent 13 rfl rfl rfl fun a E=>?_
 refine sq fun K1 hK1=>pl0 (plx (t:=65) E S [iv x.f0,iv x.f1,iv x.f2,iv x.f3,iv x.f4] fun b2 u3 hb2 S a E=>plc E (.r 1 1 .nil) fun a E=>pld (hK1 _ _ (sq fun K4 hK4=>sq fun K5 hK5=>?_)))
 have J11:∀ kq9,kq9<=k->∀(G:NV)(y7:Bool)(a:Act)(w':World),Env 13 G a->At G [(1,.pointer (pb b2)),(10,.bool y7)]->Sm W F w' F [box b2 #[iv x.f0,iv x.f1,iv x.f2,iv x.f3,iv x.f4] 65]->qBK.j8 kq9 x y7=some r->K5 a w':=by
  intro kq9 hkq G y7 a u12 E A S H
  obtain _ | k10:=kq9
  exact zz H
  rw [qBK.j8_s]at H
  obtain ⟨J,E⟩:=E.at A
  refine hK5 _ _ (E.ib 10 H (fun c13 E H=>?_) fun c13 E H=>?_)
  refine rr E fun a E=>(wp_ret (qCc ?_))
  have S:=S.tail
  obtain rfl:=si H
  exact rt1 E ⟨_,rfl,_,rfl,S⟩
  refine wp_skip (hK4 _ _ (rg E (.r 0 1<|.b 1 4 (S.ba 0)<|.r 2 1<|.nil) fun a E=>(wp_ret ?_)))
  have S:=S.tail
  obtain rfl:=si H
  exact rt1 E ⟨_,rfl,_,rfl,S⟩
 refine pl0 (plc E (.r 0 1<|.b 1 0 hb2<|.r 2 2<|.nil) fun a E=>E.fk 6 H (fun c6 E H=>?_) fun c6 E H=>?_)
 refine plc E (.r 4 4 .nil) fun a E=>pld ?_
 exact J11 _ (by omega) _ true _ _ E .of S H
 refine plc E (.r 4 1<|.b 5 0 hb2<|.r 6 2<|.nil) fun a E=>pld ?_
 exact J11 _ (by omega) _ (x.f0 == 4) _ _ E .of S H
def qBC.l8:Nat->qD->Int->Int->Option Bool
 | 0,_,_,_=>none
 | k+1,x,y,x6=>if x6<x.f3 then ((qBY.f k x x6).bind fun t19=>((qAG.f k t19 y).bind fun t27=>(if t27=true then (some true) else (qBC.l8 k x y (w64 (x6+1)))))) else (some false)
theorem qBC.l8_s k x y x6:type_of% (qBC.l8.eq_2 x y x6 k):=qBC.l8.eq_2 x y x6 k
def qBC.f(k:Nat)(x:qD)(y:Int):Option Bool:=qBC.l8 k x y 0
def qBC.Post(W F:World)(r:Bool)(v:Value)(w':World):Prop:=∃(F':World),v = .bool r/\Sm W F w' F' []
theorem qBC.calls(k:Nat)(x:qD)(y:Int)(A0_4:OA)(c0_4:Nat)(A0_5:OA)(c0_5:Nat)(A0_6:OA)(c0_6:Nat)(r:Bool)(W F:World)(hown:Sub F W)(g0_4:Rd qA.k F A0_4 c0_4 x.f4)(g0_5:Rd qE.k F A0_5 c0_5 x.f5)(g0_6:Rd qC.k F A0_6 c0_6 x.f6)(H:qBC.f k x y=some r):
    Cr 66 #[.agg (mA x A0_4 c0_4 A0_5 c0_5 A0_6 c0_6),iv y] W (qBC.Post W F r):=by
 have S:=sT hown
 unfold qBC.f at H
 refine ent 17 rfl rfl rfl fun a E=>?_
 refine sq fun K1 hK1=>pl0 (plx (t:=26) E S (mL x A0_4 c0_4 A0_5 c0_5 A0_6 c0_6) fun b2 u3 hb2 S a E=>plc E (.r 1 1 .nil) fun a E=>pld (hK1 _ _ (sq fun K4 hK4=>rg E (.r 0 1<|.b 1 3 hb2<|.r 2 1<|.nil) fun a E=>(wp_block ?_))))
 refine wp_loop_ghost (fun kq9 a w'=>∃(G:NV)(x6:Int)(F7:World),kq9<=k/\Env 17 G a/\At G [(1,iv y),(2,.pointer (pb b2)),(7,iv x.f3),(8,iv x6)]/\Sm W F w' F7 [box b2 (mA x A0_4 c0_4 A0_5 c0_5 A0_6 c0_6) 26]/\Rd qA.k F7 A0_4 c0_4 x.f4/\Rd qE.k F7 A0_5 c0_5 x.f5/\Rd qC.k F7 A0_6 c0_6 x.f6/\qBC.l8 kq9 x y x6=some r) k ⟨_,0,F,Nat.le_refl _,E,.of,S,g0_4,g0_5,g0_6,H⟩ ?_
 rintro kq9 a u11 ⟨G,x6,F7,hkq,E,A,S,g0_4,g0_5,g0_6,H⟩
 obtain _ | k10:=kq9
 exact zz H
 rw [qBC.l8_s]at H
 obtain ⟨J,E⟩:=E.at A
 refine rr E fun a E=>(sq fun K13 hK13=>E.ik 9 H (fun c14 E H=>?_) fun c14 E H=>?_)
 refine wp_skip (hK13 _ _ (sq fun K15 hK15=>wp_block (rr E fun a E=>(sq fun K17 hK17=>pl0 (plc E (.bn 0 0 7 (S.ba 0)<|.r 1 1<|.nil) fun a E=>?_)))))
 obtain ⟨t19,h20,H⟩:=bd H
 refine ple E (.cl en64 (qBY.calls k10 x x6 _ _ _ _ _ _ _ _ _ S.own.sub g0_4 g0_5 g0_6 h20)) ?_
 rintro _ u18 a ⟨F21,A22,c23,rfl,hC⟩ E
 have hs:=hC.sub
 have S:=S.called (X:=[]) hC
 have g0_4:=g0_4.mono hs
 have g0_5:=g0_5.mono hs
 have g0_6:=g0_6.mono hs
 refine plc E (.r 3 1 .nil) fun a E=>?_
 obtain ⟨t27,h28,H⟩:=bd H
 refine plq E S en75 (qAG.calls k10 t19 y _ _ _ _ _ (Sub.refl _) (S.rd_at (i:=0) rfl) h28) fun u26 S a E=>pld (hK17 _ _ (E.ib 15 H (fun c29 E H=>?_) fun c29 E H=>?_))
 refine rr E fun a E=>(wp_ret (qCd (qCc (qCc (qCd (qCc ?_))))))
 have S:=S.pm [] 2
 obtain rfl:=si H
 exact rt1 E ⟨_,rfl,_,rfl,S⟩
 refine wp_skip ?_
 refine qCe ?_
 refine hK15 _ _ (pl0 (plc E (.r 0 2 .nil) fun a E=>pld ?_))
 have S:=S.tail
 exact qCf ⟨k10,by omega,_,(w64 (x6+1)),F21,by omega,E,.of,S,g0_4,g0_5,g0_6,H⟩
 refine wp_exit ?_
 refine hK4 _ _ (rr E fun a E=>(wp_ret ?_))
 have S:=S.tail
 obtain rfl:=si H
 exact rt1 E ⟨_,rfl,_,rfl,S⟩
def qCT.f(x:qAN):Option qAN:=if x.f0=3 then (some x) else (if x.f0=2 then (some (⟨x.f0,x.f1,0,0,x.f4⟩:qAN)) else (some (⟨x.f0,x.f1,0,0,0⟩:qAN)))
def qCT.Post(W F:World)(r:qAN)(v:Value)(w':World):Prop:=∃(F':World),v = .agg #[iv r.f0,iv r.f1,iv r.f2,iv r.f3,iv r.f4]/\Sm W F w' F' []
theorem qCT.calls(x:qAN)(r:qAN)(W F:World)(hown:Sub F W)(H:qCT.f x=some r):
    Cr 82 #[.agg #[iv x.f0,iv x.f1,iv x.f2,iv x.f3,iv x.f4]] W (qCT.Post W F r):=by
 have S:=sT hown
 unfold qCT.f at H
 refine ent 22 rfl rfl rfl fun a E=>?_
 refine sq fun K1 hK1=>pl0 (plx (t:=65) E S [iv x.f0,iv x.f1,iv x.f2,iv x.f3,iv x.f4] fun b2 u3 hb2 S a E=>pla (t:=65) E S [iv 0,iv 0,iv 0,iv 0,iv 0] fun b4 u5 hb4 S a E=>pld (hK1 _ _ (sq fun K6 hK6=>sq fun K7 hK7=>pl0 ?_)))
 have hb2:=S.ba 1
 refine plc E (.r 0 1<|.b 1 0 hb2<|.nil) fun a E=>pld (hK7 _ _ (wp_block (rr E fun a E=>(E.ik 5 H (fun c9 E H=>?_) fun c9 E H=>?_))))
 refine sq fun K10 hK10=>pl0 (plc E (.bn 0 0 5 hb2 .nil) fun a E=>pls E S [iv x.f0,iv x.f1,iv x.f2,iv x.f3,iv x.f4] fun u11 hb4 S a E=>pld (hK10 _ _ (wp_ret (qCd (qCc ?_)))))
 have S:=S.pm [] 2
 obtain rfl:=si H
 exact ret1 E rfl (.cell (by kernel_rfl) (qCw [iv x.f0,iv x.f1,iv x.f2,iv x.f3,iv x.f4] ag65 sz65 hb4 rfl) .nil) ⟨_,rfl,_,rfl,S⟩
 refine rr E fun a E=>(E.ik 8 H (fun c13 E H=>?_) fun c13 E H=>?_)
 refine sq fun K14 hK14=>pl0 (plc E (.r 0 1<|.b 1 0 hb2<|.r 2 1<|.b 3 1 hb2<|.r 4 1<|.b 5 4 hb2<|.r 6 1<|.nil) fun a E=>pls E S [iv x.f0,iv x.f1,iv 0,iv 0,iv x.f4] fun u15 hb4 S a E=>pld (hK14 _ _ (wp_ret (qCd (qCc ?_)))))
 have S:=S.pm [] 2
 obtain rfl:=si H
 exact ret1 E rfl (.cell (by kernel_rfl) (qCw [iv x.f0,iv x.f1,iv 0,iv 0,iv x.f4] ag65 sz65 hb4 rfl) .nil) ⟨_,rfl,_,rfl,S⟩
 refine wp_skip ?_
 refine qCe ?_
 refine hK6 _ _ (sq fun K16 hK16=>pl0 (plc E (.r 0 1<|.b 1 0 hb2<|.r 2 1<|.b 3 1 hb2<|.r 4 1<|.nil) fun a E=>pls E S [iv x.f0,iv x.f1,iv 0,iv 0,iv 0] fun u17 hb4 S a E=>pld (hK16 _ _ (wp_ret ?_))))
 have S:=S.pm [] 2
 obtain rfl:=si H
 exact ret1 E rfl (.cell (by kernel_rfl) (qCw [iv x.f0,iv x.f1,iv 0,iv 0,iv 0] ag65 sz65 hb4 rfl) .nil) ⟨_,rfl,_,rfl,S⟩
def qCG.f(x:Int):Option Bool:=if x>=0 then (some (decide (x<=65536))) else (some false)
def qCG.Post(W F:World)(r:Bool)(v:Value)(w':World):Prop:=∃(F':World),v = .bool r/\Sm W F w' F' []
theorem qCG.calls(x:Int)(r:Bool)(W F:World)(hown:Sub F W)(H:qCG.f x=some r):
    Cr 83 #[iv x] W (qCG.Post W F r):=by
 have S:=sT hown
 unfold qCG.f at H
 refine ent 9 rfl rfl rfl fun a E=>?_
 refine rr E fun a E=>(sq fun K2 hK2=>pl0 (plc E (.r 0 3 .nil) fun a E=>E.fk 5 H (fun c3 E H=>?_) fun c3 E H=>?_))
 refine plc E (.r 3 4 .nil) fun a E=>pld (hK2 _ _ (wp_ret ?_))
 obtain rfl:=si H
 exact rt1 E ⟨_,rfl,_,rfl,S⟩
 refine plc E (.r 3 4 .nil) fun a E=>pld (hK2 _ _ (wp_ret ?_))
 obtain rfl:=si H
 exact rt1 E ⟨_,rfl,_,rfl,S⟩
def qBL.l15:Nat->List qB->Int->Int->Option Int
 | 0,_,_,_=>none
 | k+1,t6,x13,x14=>if x14<(t6.length:Int) then (if 0<=x14/\x14<(t6.length:Int) then (if (nth qB.z t6 x14).f1>0 then (qBL.l15 k t6 (w64 (x13+1)) (w64 (x14+1))) else (qBL.l15 k t6 x13 (w64 (x14+1)))) else (none)) else (some x13)
theorem qBL.l15_s k t6 x13 x14:type_of% (qBL.l15.eq_2 t6 x13 x14 k):=qBL.l15.eq_2 t6 x13 x14 k
def qBL.f(k:Nat)(x:List qA):Option Int:=(qBy.f k x).bind fun t6=>(qBL.l15 k t6 0 0)
def qBL.Post(W F:World)(r:Int)(v:Value)(w':World):Prop:=∃(F':World),v=iv r/\Sm W F w' F' []
theorem qBL.calls(k:Nat)(x:List qA)(A0_0:OA)(c0_0:Nat)(r:Int)(W F:World)(hown:Sub F W)(g0_0:Rd qA.k F A0_0 c0_0 x)(H:qBL.f k x=some r):
    Cr 84 #[.slice A0_0 x.length c0_0] W (qBL.Post W F r):=by
 have S:=sT hown
 unfold qBL.f at H
 refine ent 20 rfl rfl rfl fun a E=>?_
 refine rr E fun a E=>(rr E fun a E=>(sq fun K3 hK3=>sq fun K4 hK4=>pl0 (plc E (.r 0 1 .nil) fun a E=>?_)))
 obtain ⟨t6,h7,H⟩:=bd H
 refine ple E (.cl en113 (qBy.calls k x _ _ _ _ _ S.own.sub g0_0 h7)) ?_
 rintro _ u5 a ⟨F8,A9,c10,rfl,hC⟩ E
 have S:=S.called (X:=[]) hC
 refine plc E (.r 2 2 .nil) fun a E=>pld (hK4 _ _ (wp_block ?_))
 refine wp_loop_ghost (fun kq16 a w'=>∃(G:NV)(x13:Int)(x14:Int),kq16<=k/\Env 20 G a/\At G [(3,iv x13),(7,.slice A9 t6.length c10),(8,iv (t6.length:Int)),(9,iv x14)]/\Sm W F w' F8 [row qB.k 139 (.slice A9 t6.length c10) t6]/\qBL.l15 kq16 t6 x13 x14=some r) k ⟨_,0,0,Nat.le_refl _,E,.of,S,H⟩ ?_
 rintro kq16 a u18 ⟨G,x13,x14,hkq,E,A,S,H⟩
 obtain _ | k17:=kq16
 exact zz H
 rw [qBL.l15_s]at H
 obtain ⟨J,E⟩:=E.at A
 refine rr E fun a E=>(sq fun K20 hK20=>E.ik 10 H (fun c21 E H=>?_) fun c21 E H=>?_)
 refine wp_skip (hK20 _ _ (sq fun K22 hK22=>wp_block (sq fun K23 hK23=>pl0 ?_)))
 obtain ⟨c24,H⟩:=gd H
 have hr25:=S.ra 0
 have hE_:=E
 obtain ⟨b26,rfl⟩:=qCi hr25 c24.1 c24.2
 replace E:=hE_
 have hr_:=S.ra 0
 obtain ⟨cs28,rfl,hc29⟩:=qCh hr_ qB.z x14 c24.1 c24.2
 refine plc E (.x 0 c24<|.cs 1 hc29<|.nil) fun a E=>pla (t:=139) E S [iv 0,iv 0] fun b30 u31 hb30 S a E=>pls E S [iv ((nth qB.z t6 x14).f0),iv ((nth qB.z t6 x14).f1)] fun u32 hb30 S a E=>pld (hK23 _ _ (rg E (.r 0 1<|.b 1 1 hb30<|.r 2 1<|.nil) fun a E=>(E.ik 15 H (fun c34 E H=>?_) fun c34 E H=>?_)))
 refine pl0 (plc E (.r 0 3 .nil) fun a E=>pld ?_)
 refine qCe ?_
 refine hK22 _ _ (pl0 (plc E (.r 0 2 .nil) fun a E=>pld ?_))
 have S:=S.tail
 exact qCf ⟨k17,by omega,_,(w64 (x13+1)),(w64 (x14+1)),by omega,E,.of,S,H⟩
 refine wp_skip ?_
 refine qCe ?_
 refine hK22 _ _ (pl0 (plc E (.r 0 2 .nil) fun a E=>pld ?_))
 have S:=S.tail
 exact qCf ⟨k17,by omega,_,x13,(w64 (x14+1)),by omega,E,.of,S,H⟩
 refine wp_exit ?_
 refine hK3 _ _ (rr E fun a E=>(wp_ret ?_))
 have S:=S.tail
 obtain rfl:=si H
 exact rt1 E ⟨_,rfl,_,rfl,S⟩
def qBD.l15:Nat->Int->Int->List qA->List qA->Int->Option (List qA)
 | 0,_,_,_,_,_=>none
 | k+1,y,z,t4,l13,x14=>if x14<(t4.length:Int) then (if 0<=x14/\x14<(t4.length:Int) then (if (nth qA.z l13 x14).f0=y then (qBD.l15 k y z t4 (l13.set (x14).toNat (⟨(nth qA.z l13 x14).f0,(nth qA.z l13 x14).f1,(nth qA.z l13 x14).f2,z,(nth qA.z l13 x14).f4,(nth qA.z l13 x14).f5⟩:qA)) (w64 (x14+1))) else (qBD.l15 k y z t4 l13 (w64 (x14+1)))) else (none)) else (some l13)
theorem qBD.l15_s k y z t4 l13 x14:type_of% (qBD.l15.eq_2 y z t4 l13 x14 k):=qBD.l15.eq_2 y z t4 l13 x14 k
def qBD.f(k:Nat)(x:List qA)(y:Int)(z:Int):Option (List qA):=(qAZ.f x).bind fun t4=>(qBD.l15 k y z t4 t4 0)
def qBD.Post(W F:World)(r:List qA)(v:Value)(w':World):Prop:=∃(F':World)(RA0_0:OA)(rc0_0:Nat),v = .slice RA0_0 r.length rc0_0/\Sm W F w' F' [row qA.k 68 (.slice RA0_0 r.length rc0_0) r]
theorem qBD.calls(k:Nat)(x:List qA)(y:Int)(z:Int)(A0_0:OA)(c0_0:Nat)(r:List qA)(W F:World)(hown:Sub F W)(g0_0:Rd qA.k F A0_0 c0_0 x)(H:qBD.f k x y z=some r):
    Cr 85 #[.slice A0_0 x.length c0_0,iv y,iv z] W (qBD.Post W F r):=by
 have S:=sT hown
 unfold qBD.f at H
 refine ent 29 rfl rfl rfl fun a E=>?_
 refine rr E fun a E=>(sq fun K2 hK2=>pl0 (plc E (.r 0 1 .nil) fun a E=>?_))
 obtain ⟨t4,h5,H⟩:=bd H
 refine ple E (.cl en96 (qAZ.calls x _ _ _ _ _ S.own.sub g0_0 h5)) ?_
 rintro _ u3 a ⟨F6,A7,c8,rfl,hC⟩ E
 have S:=S.called (X:=[]) hC
 refine plc E (.r 2 1 .nil) fun a E=>pld (hK2 _ _ (sq fun K11 hK11=>rr E fun a E=>(wp_block ?_)))
 refine wp_loop_ghost (fun kq16 a w'=>∃(G:NV)(l13:List qA)(x14:Int),kq16<=k/\Env 29 G a/\At G [(0,.slice A7 t4.length c8),(1,iv y),(2,iv z),(11,.slice A7 t4.length c8),(12,iv (t4.length:Int)),(13,iv x14)]/\Sm W F w' F6 [row qA.k 68 (.slice A7 t4.length c8) l13]/\qBD.l15 kq16 y z t4 l13 x14=some r) k ⟨_,t4,0,Nat.le_refl _,E,.of,S,H⟩ ?_
 rintro kq16 a u18 ⟨G,l13,x14,hkq,E,A,S,H⟩
 obtain _ | k17:=kq16
 exact zz H
 rw [qBD.l15_s]at H
 obtain ⟨J,E⟩:=E.at A
 refine rr E fun a E=>(sq fun K20 hK20=>E.ik 14 H (fun c21 E H=>?_) fun c21 E H=>?_)
 refine wp_skip (hK20 _ _ (sq fun K22 hK22=>wp_block (sq fun K23 hK23=>pl0 ?_)))
 obtain ⟨c24,H⟩:=gd H
 have hr25:=S.ra 0
 have c26:0<=x14/\x14<(l13.length:Int):=by rw [← (qCg hr25).1]; exact c24
 have hE_:=E
 obtain ⟨b27,rfl⟩:=qCi hr25 c26.1 c26.2
 replace E:=hE_
 have hr_:=S.ra 0
 obtain ⟨cs29,rfl,hc30⟩:=qCh hr_ qA.z x14 c26.1 c26.2
 refine plc E (.r 0 1<|.x 1 c24<|.cs 2 hc30<|.nil) fun a E=>pla (t:=68) E S [iv 0,iv 0,iv 0,iv 0,.bool false,.bool false] fun b31 u32 hb31 S a E=>plc E (.r 4 1 .nil) fun a E=>pls E S (nL (nth qA.z l13 x14)) fun u33 hb31 S a E=>pld (hK23 _ _ (rg E (.r 0 1<|.b 1 0 hb31<|.r 2 2<|.nil) fun a E=>(E.ik 21 H (fun c35 E H=>?_) fun c35 E H=>?_)))
 refine pl0 ?_
 have hr36:=S.ra 1
 have c37:0<=x14/\x14<(l13.length:Int):=by rw [← (qCg hr36).1]; exact c24
 have hr_:=S.ra 1
 obtain ⟨cs39,rfl,hc40⟩:=qCh hr_ qA.z x14 c37.1 c37.2
 refine plc E (.r 0 3<|.x 3 c24<|.r 4 1<|.nil) fun a E=>?_
 have S:=S.front 1 rfl
 obtain ⟨cs42,rfl,hc43⟩:=qCh (S.row_at (i:=0) rfl) qA.z x14 c37.1 c37.2
 refine ple E (.set (d:=qA.k) (n:=t4.length) (i:=x14) (⟨(nth qA.z l13 x14).f0,(nth qA.z l13 x14).f1,(nth qA.z l13 x14).f2,z,(nth qA.z l13 x14).f4,(nth qA.z l13 x14).f5⟩:qA) 3 (ea1 _ _ _) S c37 (nL (nth qA.z l13 x14)) hc43 [iv ((nth qA.z l13 x14).f0),iv ((nth qA.z l13 x14).f1),iv ((nth qA.z l13 x14).f2),iv z,.bool ((nth qA.z l13 x14).f4),.bool ((nth qA.z l13 x14).f5)] rfl) ?_
 rintro _ u41 a ⟨rfl,S,hz⟩ E
 refine pld ?_
 refine qCe ?_
 refine hK22 _ _ (pl0 (plc E (.r 0 2 .nil) fun a E=>pld ?_))
 have S:=S.pm [0] 2
 exact qCf ⟨k17,by omega,_,(l13.set (x14).toNat (⟨(nth qA.z l13 x14).f0,(nth qA.z l13 x14).f1,(nth qA.z l13 x14).f2,z,(nth qA.z l13 x14).f4,(nth qA.z l13 x14).f5⟩:qA)),(w64 (x14+1)),by omega,E,.of,S,H⟩
 refine wp_skip ?_
 refine qCe ?_
 refine hK22 _ _ (pl0 (plc E (.r 0 2 .nil) fun a E=>pld ?_))
 have S:=S.tail
 exact qCf ⟨k17,by omega,_,l13,(w64 (x14+1)),by omega,E,.of,S,H⟩
 refine wp_exit ?_
 refine hK11 _ _ (rr E fun a E=>(wp_ret ?_))
 have hn45:=(qCg (S.row_at (i:=0) rfl)).1
 replace E:=E.set (d:=6) (v:=.slice A7 l13.length c8) (Eq.trans (b:=.slice A7 t4.length c8) (by kernel_rfl) (by rw [← hn45]))
 replace S:Sm W F u18 F6 [row qA.k 68 (.slice A7 l13.length c8) l13]:=by rw [← hn45]; exact S
 obtain rfl:=si H
 exact rt1 E ⟨_,rfl,_,_,_,rfl,S⟩
mutual
def qAC.j18:Nat->qD->qAN->Bool->Option Int
 | 0,_,_,_=>none
 | k+1,x,y,y17=>if y17=true then (some 1) else (if y.f0=3 then ((qCP.f y).bind fun t33=>((qAz.f k x t33).bind fun t42=>(if t42.2=0 then (qAC.j85 k x y t42.1.f0 t42.1.f1 t42.1.f2 t42.1.f3 t42.1.f4 t42.1.f5 t42.1.f6) else (some t42.2)))) else (qAC.j85 k x y x.f0 x.f1 x.f2 x.f3 x.f4 x.f5 x.f6))
def qAC.j85:Nat->qD->qAN->Int->Int->Int->Int->List qA->List qE->List qC->Option Int
 | 0,_,_,_,_,_,_,_,_,_=>none
 | k+1,x,y,x68,x69,x70,x71,l74,l78,l82=>(qBN.f k l74 y.f1).bind fun t92=>(if t92.2=true then ((qCG.f y.f4).bind fun t102=>(if t102=true then (if y.f0=2 then (qAC.j108 k x y x68 x69 x70 x71 l74 l78 l82 t92 (t92.1.f3 == y.f4)) else (qAC.j108 k x y x68 x69 x70 x71 l74 l78 l82 t92 false)) else (some 1))) else (some 5))
def qAC.j108:Nat->qD->qAN->Int->Int->Int->Int->List qA->List qE->List qC->qA × Bool->Bool->Option Int
 | 0,_,_,_,_,_,_,_,_,_,_,_=>none
 | k+1,x,y,x68,x69,x70,x71,l74,l78,l82,t92,y107=>if y107=true then (some 7) else (if y.f0=1 then (if t92.1.f3=0 then ((qBC.f k (⟨x68,x69,x70,x71,l74,l78,l82⟩:qD) y.f1).bind fun t119=>(qAC.j126 k x y l74 (!t119))) else (if t92.1.f5=true then (qAC.j126 k x y l74 false) else ((qBC.f k (⟨x68,x69,x70,x71,l74,l78,l82⟩:qD) y.f1).bind fun t123=>(qAC.j126 k x y l74 (!t123))))) else (qAC.j126 k x y l74 false))
def qAC.j126:Nat->qD->qAN->List qA->Bool->Option Int
 | 0,_,_,_,_=>none
 | k+1,x,y,l74,y125=>if y125=true then (some 7) else ((qBK.f k y).bind fun t138=>((qBD.f k l74 y.f1 t138).bind fun t141=>((qBL.f k t141).bind fun t149=>(if t149<x.f2 then ((qBL.f k x.f4).bind fun t154=>(qAC.j157 k (decide (t154>=x.f2)))) else (qAC.j157 k false)))))
def qAC.j157:Nat->Bool->Option Int
 | 0,_=>none
 | k+1,y156=>if y156=true then (some 12) else (some 0)
end
theorem qAC.j18_s k x y y17:type_of% (qAC.j18.eq_2 x y y17 k):=qAC.j18.eq_2 x y y17 k
theorem qAC.j85_s k x y x68 x69 x70 x71 l74 l78 l82:type_of% (qAC.j85.eq_2 x y x68 x69 x70 x71 l74 l78 l82 k):=qAC.j85.eq_2 x y x68 x69 x70 x71 l74 l78 l82 k
theorem qAC.j108_s k x y x68 x69 x70 x71 l74 l78 l82 t92 y107:type_of% (qAC.j108.eq_2 x y x68 x69 x70 x71 l74 l78 l82 t92 y107 k):=qAC.j108.eq_2 x y x68 x69 x70 x71 l74 l78 l82 t92 y107 k
theorem qAC.j126_s k x y l74 y125:type_of% (qAC.j126.eq_2 x y l74 y125 k):=qAC.j126.eq_2 x y l74 y125 k
theorem qAC.j157_s k y156:type_of% (qAC.j157.eq_2 y156 k):=qAC.j157.eq_2 y156 k
def qAC.f(k:Nat)(x:qD)(y:qAN):Option Int:=(qAF.f k x).bind fun t9=>(if t9=0 then (if y.f0<1 then (qAC.j18 k x y true) else (if y.f0>=5 then (qAC.j18 k x y true) else ((qCT.f y).bind fun t15=>(qAC.j18 k x y (!(decide (y=t15))))))) else (qAC.j18 k x y true))
def qAC.Post(W F:World)(r:Int)(v:Value)(w':World):Prop:=∃(F':World),v=iv r/\Sm W F w' F' []
theorem qAC.calls(k:Nat)(x:qD)(y:qAN)(A0_4:OA)(c0_4:Nat)(A0_5:OA)(c0_5:Nat)(A0_6:OA)(c0_6:Nat)(r:Int)(W F:World)(hown:Sub F W)(g0_4:Rd qA.k F A0_4 c0_4 x.f4)(g0_5:Rd qE.k F A0_5 c0_5 x.f5)(g0_6:Rd qC.k F A0_6 c0_6 x.f6)(H:qAC.f k x y=some r):
    Cr 56 #[.agg (mA x A0_4 c0_4 A0_5 c0_5 A0_6 c0_6),.agg #[iv y.f0,iv y.f1,iv y.f2,iv y.f3,iv y.f4]] W (qAC.Post W F r):=by
 have S:=sT hown
 unfold qAC.f at H
 refine ent 113 rfl rfl rfl fun a E=>?_
 refine sq fun K1 hK1=>pl0 (plx (t:=26) E S (mL x A0_4 c0_4 A0_5 c0_5 A0_6 c0_6) fun b2 u3 hb2 S a E=>plx (t:=65) E S [iv y.f0,iv y.f1,iv y.f2,iv y.f3,iv y.f4] fun b4 u5 hb4 S a E=>plc E (.r 2 1 .nil) fun a E=>pld (hK1 _ _ (sq fun K6 hK6=>sq fun K7 hK7=>?_)))
 have J21:∀ kq19,kq19<=k->∀(G:NV)(y17:Bool)(a:Act)(w':World),Env 113 G a->At G [(2,.pointer (pb b2)),(3,.pointer (pb b4)),(29,.bool y17)]->Sm W F w' F [box b4 #[iv y.f0,iv y.f1,iv y.f2,iv y.f3,iv y.f4] 65,box b2 (mA x A0_4 c0_4 A0_5 c0_5 A0_6 c0_6) 26]->qAC.j18 kq19 x y y17=some r->K7 a w':=by
  intro kq19 hkq G y17 a u22 E A S H
  obtain _ | k20:=kq19
  exact zz H
  rw [qAC.j18_s]at H
  obtain ⟨J,E⟩:=E.at A
  refine hK7 _ _ (E.ib 29 H (fun c23 E H=>?_) fun c23 E H=>?_)
  refine rr E fun a E=>(wp_ret (qCc ?_))
  have S:=S.pm [] 2
  obtain rfl:=si H
  exact rt1 E ⟨_,rfl,_,rfl,S⟩
  refine wp_skip (hK6 _ _ (sq fun K25 hK25=>pl0 ?_))
  have hb2:=S.ba 1
  refine plc E (.bn 0 0 7 hb2 .nil) fun a E=>pla (t:=26) E S [iv 0,iv 0,iv 0,iv 0,.slice none 0 0,.slice none 0 0,.slice none 0 0] fun b26 u27 hb26 S a E=>pls E S (mL x A0_4 c0_4 A0_5 c0_5 A0_6 c0_6) fun u28 hb26 S a E=>pld (hK25 _ _ (sq fun K29 hK29=>?_))
  have J88:∀ kq86,kq86<=k20->∀(G:NV)(x68:Int)(x69:Int)(x70:Int)(x71:Int)(A72:OA)(c73:Nat)(l74:List qA)(A76:OA)(c77:Nat)(l78:List qE)(A80:OA)(c81:Nat)(l82:List qC)(F84:World)(a:Act)(w':World),Env 113 G a->At G [(2,.pointer (pb b2)),(3,.pointer (pb b4)),(5,.pointer (pb b26))]->Sm W F w' F84 [box b26 #[iv x68,iv x69,iv x70,iv x71,.slice A72 l74.length c73,.slice A76 l78.length c77,.slice A80 l82.length c81] 26,box b4 #[iv y.f0,iv y.f1,iv y.f2,iv y.f3,iv y.f4] 65,box b2 (mA x A0_4 c0_4 A0_5 c0_5 A0_6 c0_6) 26]->Rd qA.k F84 A72 c73 l74->Rd qE.k F84 A76 c77 l78->Rd qC.k F84 A80 c81 l82->Rd qA.k F84 A0_4 c0_4 x.f4->Rd qE.k F84 A0_5 c0_5 x.f5->Rd qC.k F84 A0_6 c0_6 x.f6->qAC.j85 kq86 x y x68 x69 x70 x71 l74 l78 l82=some r->K29 a w':=by
   intro kq86 hkq G x68 x69 x70 x71 A72 c73 l74 A76 c77 l78 A80 c81 l82 F84 a u89 E A S g75 g79 g83 g0_4 g0_5 g0_6 H
   obtain _ | k87:=kq86
   exact zz H
   rw [qAC.j85_s]at H
   obtain ⟨J,E⟩:=E.at A
   refine hK29 _ _ (sq fun K90 hK90=>pl0 ?_)
   have hb26:=S.ba 0
   have hb4:=S.ba 1
   refine plc E (.r 0 1<|.b 1 4 hb26<|.r 2 1<|.b 3 1 hb4<|.nil) fun a E=>?_
   obtain ⟨t92,h93,H⟩:=bd H
   refine plq E S en59 (qBN.calls k87 l74 y.f1 _ _ _ _ _ S.own.sub g75 h93) fun u91 S a E=>plc E (.r 5 3 .nil) fun a E=>pla (t:=68) E S [iv 0,iv 0,iv 0,iv 0,.bool false,.bool false] fun b94 u95 hb94 S a E=>pls E S (nL t92.1) fun u96 hb94 S a E=>plc E (.r 10 1 .nil) fun a E=>pld (hK90 _ _ (sq fun K97 hK97=>wp_block (rr E fun a E=>(E.ibn 53 H (fun c99 E H=>?_) fun c99 E H=>?_))))
   refine sq fun K100 hK100=>pl0 ?_
   have hb4:=S.ba 2
   refine plc E (.r 0 1<|.b 1 4 hb4<|.nil) fun a E=>?_
   obtain ⟨t102,h103,H⟩:=bd H
   refine plq E S en83 (qCG.calls y.f4 _ _ _ S.own.sub h103) fun u101 S a E=>plc E (.r 3 2 .nil) fun a E=>pld (hK100 _ _ (E.ibn 56 H (fun c104 E H=>?_) fun c104 E H=>?_))
   refine sq fun K105 hK105=>?_
   have J111:∀ kq109,kq109<=k87->∀(G:NV)(y107:Bool)(a:Act)(w':World),Env 113 G a->At G [(2,.pointer (pb b2)),(3,.pointer (pb b4)),(5,.pointer (pb b26)),(8,.pointer (pb b94)),(61,.bool y107)]->Sm W F w' F84 [box b94 (nA t92.1) 68,box b26 #[iv x68,iv x69,iv x70,iv x71,.slice A72 l74.length c73,.slice A76 l78.length c77,.slice A80 l82.length c81] 26,box b4 #[iv y.f0,iv y.f1,iv y.f2,iv y.f3,iv y.f4] 65,box b2 (mA x A0_4 c0_4 A0_5 c0_5 A0_6 c0_6) 26]->qAC.j108 kq109 x y x68 x69 x70 x71 l74 l78 l82 t92 y107=some r->K105 a w':=by
    intro kq109 hkq G y107 a u112 E A S H
    obtain _ | k110:=kq109
    exact zz H
    rw [qAC.j108_s]at H
    obtain ⟨J,E⟩:=E.at A
    refine hK105 _ _ (E.ib 61 H (fun c113 E H=>?_) fun c113 E H=>?_)
    refine rr E fun a E=>(wp_ret (qCd (qCc ?_)))
    have S:=S.pm [] 4
    obtain rfl:=si H
    exact rt1 E ⟨_,rfl,_,rfl,S⟩
    refine sq fun K115 hK115=>?_
    have J129:∀ kq127,kq127<=k110->∀(G:NV)(y125:Bool)(a:Act)(w':World),Env 113 G a->At G [(2,.pointer (pb b2)),(3,.pointer (pb b4)),(5,.pointer (pb b26)),(72,.bool y125)]->Sm W F w' F84 [box b94 (nA t92.1) 68,box b26 #[iv x68,iv x69,iv x70,iv x71,.slice A72 l74.length c73,.slice A76 l78.length c77,.slice A80 l82.length c81] 26,box b4 #[iv y.f0,iv y.f1,iv y.f2,iv y.f3,iv y.f4] 65,box b2 (mA x A0_4 c0_4 A0_5 c0_5 A0_6 c0_6) 26]->qAC.j126 kq127 x y l74 y125=some r->K115 a w':=by
     intro kq127 hkq G y125 a u130 E A S H
     obtain _ | k128:=kq127
     exact zz H
     rw [qAC.j126_s]at H
     obtain ⟨J,E⟩:=E.at A
     refine hK115 _ _ (E.ib 72 H (fun c131 E H=>?_) fun c131 E H=>?_)
     refine rr E fun a E=>(wp_ret (qCd (qCc ?_)))
     have S:=S.pm [] 4
     obtain rfl:=si H
     exact rt1 E ⟨_,rfl,_,rfl,S⟩
     refine wp_skip ?_
     refine qCe ?_
     refine hK97 _ _ (sq fun K135 hK135=>sq fun K136 hK136=>?_)
     refine drawn 9 ⟨[],[],fun q=>False⟩ mixed rfl (by kernel_rfl) fun hst=>?_
     have S:=S.drew
     have hb26:=S.ba 1
     have hb4:=S.ba 2
     refine mny 4 hst E (.r 0 1<|.b 1 4 hb26<|.r 2 1<|.b 3 1 hb4<|.bn 4 0 5 hb4<|.nil) fun a E=>?_
     obtain ⟨t138,h139,H⟩:=bd H
     refine on1 5 E (.cl en60 (qBK.calls k128 y _ _ _ S.own.sub h139)) ?_
     rintro _ u137 a ⟨_,rfl,hC⟩ E
     refine ⟨.of hC.agr,?_⟩
     have S:=S.lent hC
     obtain ⟨t141,h142,H⟩:=bd H
     refine on1 6 E (.cl en85 (qBD.calls k128 l74 y.f1 t138 _ _ _ _ _ S.own.sub g75 h142)) ?_
     rintro _ u140 a ⟨F143,A144,c145,rfl,hC⟩ E
     refine ⟨.of hC.agr,?_⟩
     have hs:=hC.sub
     have S:=S.called (X:=[]) hC
     have g75:=g75.mono hs
     have g79:=g79.mono hs
     have g83:=g83.mono hs
     have g0_4:=g0_4.mono hs
     have g0_5:=g0_5.mono hs
     have g0_6:=g0_6.mono hs
     obtain ⟨t149,h150,H⟩:=bd H
     refine on1 7 E (.cl en84 (qBL.calls k128 t141 _ _ _ _ _ (Sub.refl _) (S.rd_at (i:=0) rfl) h150)) ?_
     rintro _ u148 a ⟨_,rfl,hC⟩ E
     refine ⟨.of hC.agr,?_⟩
     have S:=S.lent hC
     refine mny 0 hst E (.r 8 1 .nil) fun a E=>?_
     refine dn ?_
     refine hK136 _ _ (sq fun K151 hK151=>?_)
     have J160:∀ kq158,kq158<=k128->∀(G:NV)(y156:Bool)(a:Act)(w':World),Env 113 G a->At G [(112,.bool y156)]->Sm W F w' F143 [box b94 (nA t92.1) 68,box b26 #[iv x68,iv x69,iv x70,iv x71,.slice A72 l74.length c73,.slice A76 l78.length c77,.slice A80 l82.length c81] 26,box b4 #[iv y.f0,iv y.f1,iv y.f2,iv y.f3,iv y.f4] 65,box b2 (mA x A0_4 c0_4 A0_5 c0_5 A0_6 c0_6) 26]->qAC.j157 kq158 y156=some r->K151 a w':=by
      intro kq158 hkq G y156 a u161 E A S H
      obtain _ | k159:=kq158
      exact zz H
      rw [qAC.j157_s]at H
      obtain ⟨J,E⟩:=E.at A
      refine hK151 _ _ (E.ib 112 H (fun c162 E H=>?_) fun c162 E H=>?_)
      refine rr E fun a E=>(wp_ret (qCc ?_))
      have S:=S.pm [] 4
      obtain rfl:=si H
      exact rt1 E ⟨_,rfl,_,rfl,S⟩
      refine wp_skip (hK135 _ _ (rr E fun a E=>(wp_ret ?_)))
      have S:=S.pm [] 4
      obtain rfl:=si H
      exact rt1 E ⟨_,rfl,_,rfl,S⟩
     refine drawn 12 ⟨[],[],fun q=>False⟩ mixed rfl (by kernel_rfl) fun hst=>?_
     have S:=S.drew
     have hb2:=S.ba 4
     refine mny 7 hst E (.r 0 2<|.b 2 2 hb2<|.r 3 2<|.nil) fun a E=>?_
     refine E.fk 105 H (fun c152 E H=>?_) fun c152 E H=>?_
     refine mny 3 hst E (.r 5 1<|.b 6 4 hb2<|.r 8 1<|.b 9 2 hb2<|.nil) fun a E=>?_
     obtain ⟨t154,h155,H⟩:=bd H
     refine on1 7 E (.cl en84 (qBL.calls k128 x.f4 _ _ _ _ _ S.own.sub g0_4 h155)) ?_
     rintro _ u153 a ⟨_,rfl,hC⟩ E
     refine ⟨.of hC.agr,?_⟩
     have S:=S.lent hC
     refine mny 0 hst E (.r 10 2 .nil) fun a E=>?_
     refine dn ?_
     have S:=S.tail
     exact J160 _ (by omega) _ (decide (t154>=x.f2)) _ _ E .of S H
     refine mny 0 hst E (.r 5 7 .nil) fun a E=>?_
     refine dn ?_
     have S:=S.tail
     exact J160 _ (by omega) _ false _ _ E .of S H
    refine pl0 ?_
    have hb4:=S.ba 2
    refine plc E (.r 0 1<|.b 1 0 hb4<|.r 2 2<|.nil) fun a E=>E.fk 76 H (fun c116 E H=>?_) fun c116 E H=>?_
    have hb94:=S.ba 0
    refine plc E (.r 4 1<|.b 5 3 hb94<|.r 6 2<|.nil) fun a E=>E.fk 80 H (fun c117 E H=>?_) fun c117 E H=>?_
    refine plc E (.r 8 6<|.bn 14 0 7 (S.ba 1)<|.r 15 1<|.b 16 1 hb4<|.nil) fun a E=>?_
    obtain ⟨t119,h120,H⟩:=bd H
    refine plq E S en66 (qBC.calls k110 (⟨x68,x69,x70,x71,l74,l78,l82⟩:qD) y.f1 _ _ _ _ _ _ _ _ _ S.own.sub g75 g79 g83 h120) fun u118 S a E=>plc E (.r 18 3 .nil) fun a E=>pld ?_
    exact J129 _ (by omega) _ (!t119) _ _ E .of S H
    refine plc E (.r 8 1<|.b 9 5 hb94<|.r 10 4<|.nil) fun a E=>E.fbn 86 H (fun c121 E H=>?_) fun c121 E H=>?_
    refine plc E (.r 14 7 .nil) fun a E=>pld ?_
    exact J129 _ (by omega) _ false _ _ E .of S H
    refine plc E (.bn 14 0 7 (S.ba 1)<|.r 15 1<|.b 16 1 hb4<|.nil) fun a E=>?_
    obtain ⟨t123,h124,H⟩:=bd H
    refine plq E S en66 (qBC.calls k110 (⟨x68,x69,x70,x71,l74,l78,l82⟩:qD) y.f1 _ _ _ _ _ _ _ _ _ S.own.sub g75 g79 g83 h124) fun u122 S a E=>plc E (.r 18 3 .nil) fun a E=>pld ?_
    exact J129 _ (by omega) _ (!t123) _ _ E .of S H
    refine plc E (.r 4 17 .nil) fun a E=>pld ?_
    exact J129 _ (by omega) _ false _ _ E .of S H
   refine pl0 ?_
   have hb4:=S.ba 2
   refine plc E (.r 0 1<|.b 1 0 hb4<|.r 2 2<|.nil) fun a E=>E.fk 65 H (fun c106 E H=>?_) fun c106 E H=>?_
   refine plc E (.r 4 1<|.b 5 3 (S.ba 0)<|.r 6 1<|.b 7 4 hb4<|.r 8 3<|.nil) fun a E=>pld ?_
   exact J111 _ (by omega) _ (t92.1.f3 == y.f4) _ _ E .of S H
   refine plc E (.r 4 7 .nil) fun a E=>pld ?_
   exact J111 _ (by omega) _ false _ _ E .of S H
   refine rr E fun a E=>(wp_ret (qCd (qCc ?_)))
   have S:=S.pm [] 4
   obtain rfl:=si H
   exact rt1 E ⟨_,rfl,_,rfl,S⟩
   refine rr E fun a E=>(wp_ret (qCd (qCc ?_)))
   have S:=S.pm [] 4
   obtain rfl:=si H
   exact rt1 E ⟨_,rfl,_,rfl,S⟩
  refine sq fun K30 hK30=>pl0 ?_
  have hb4:=S.ba 1
  refine plc E (.r 0 1<|.b 1 0 hb4<|.r 2 1<|.nil) fun a E=>pld (hK30 _ _ (E.ik 33 H (fun c31 E H=>?_) fun c31 E H=>?_))
  refine sq fun K32 hK32=>?_
  refine drawn 10 ⟨[8],[],fun q=>False⟩ mixed rfl (by kernel_rfl) fun hst=>?_
  have S:=S.drew
  have hb2:=S.ba 2
  have hb4:=S.ba 1
  refine mny 8 hst E (.bn 0 0 7 hb2<|.bn 1 0 5 hb4<|.nil) fun a E=>?_
  obtain ⟨t33,h34,H⟩:=bd H
  obtain ⟨t42,h43,H⟩:=bd H
  refine meet2 (fun a w'=>∃(G:NV)(b40:Nat)(A52:OA)(c53:Nat)(A46:OA)(c47:Nat)(A49:OA)(c50:Nat)(F60:World),Env 113 G a/\At G [(2,.pointer (pb b2)),(3,.pointer (pb b4)),(5,.pointer (pb b26)),(6,.pointer (pb b40)),(39,.agg (mA t42.1 A46 c47 A49 c50 A52 c53)),(40,iv t42.2)]/\Sm W F w' F60 [box b40 #[iv 0,iv 0,iv 0,iv 0,.slice none 0 0,.slice none 0 0,.slice none 0 0] 26,box b26 (mA x A0_4 c0_4 A0_5 c0_5 A0_6 c0_6) 26,box b4 #[iv y.f0,iv y.f1,iv y.f2,iv y.f3,iv y.f4] 65,box b2 (mA x A0_4 c0_4 A0_5 c0_5 A0_6 c0_6) 26,row qC.k 73 (.slice A52 t42.1.f6.length c53) t42.1.f6]/\Rd qA.k F60 A46 c47 t42.1.f4/\Rd qE.k F60 A49 c50 t42.1.f5/\Rd qA.k F60 A0_4 c0_4 x.f4/\Rd qE.k F60 A0_5 c0_5 x.f5/\Rd qC.k F60 A0_6 c0_6 x.f6) 2 255 ?_ fun hJb=>?_
  rintro a u61 ⟨G,b40,A52,c53,A46,c47,A49,c50,F60,E,A,S,g48,g51,g0_4,g0_5,g0_6⟩
  obtain ⟨J,E⟩:=E.at A
  refine on1 8 E (.sto S (mL t42.1 A46 c47 A49 c50 A52 c53)) ?_
  rintro _ u62 a ⟨rfl,hb40,S,hz⟩ E
  refine ⟨.d,?_⟩
  refine mny 0 hst E (.r 9 1 .nil) fun a E=>?_
  refine dn ?_
  refine hK32 _ _ (sq fun K63 hK63=>rr E fun a E=>(E.ikn 42 H (fun c65 E H=>?_) fun c65 E H=>?_))
  refine wp_skip (hK63 _ _ (pl0 (plc E (.bn 0 0 7 hb40 .nil) fun a E=>?_)))
  have S:=S.front 1 rfl
  refine pls E S (mL t42.1 A46 c47 A49 c50 A52 c53) fun u67 hb26 S a E=>pld ?_
  have S:=S.front 4 rfl
  obtain ⟨F165,hs,g166,S⟩:=S.give
  have g48:=g48.mono hs
  have g51:=g51.mono hs
  have g0_4:=g0_4.mono hs
  have g0_5:=g0_5.mono hs
  have g0_6:=g0_6.mono hs
  have S:=S.pm [0] 2
  exact J88 _ (by omega) _ t42.1.f0 t42.1.f1 t42.1.f2 t42.1.f3 A46 c47 t42.1.f4 A49 c50 t42.1.f5 A52 c53 t42.1.f6 F165 _ _ E .of S g48 g51 g166 g0_4 g0_5 g0_6 H
  refine rr E fun a E=>(wp_ret (qCc (qCc ?_)))
  have S:=S.pm [] 5
  obtain rfl:=si H
  exact rt1 E ⟨_,rfl,_,rfl,S⟩
  refine meet2 (fun a w'=>∃(G:NV)(b40:Nat)(A37:OA)(c38:Nat)(F57:World),Env 113 G a/\At G [(2,.pointer (pb b2)),(3,.pointer (pb b4)),(5,.pointer (pb b26)),(6,.pointer (pb b40)),(35,.agg (mA x A0_4 c0_4 A0_5 c0_5 A0_6 c0_6)),(37,.agg (dA t33 A37 c38))]/\Sm W F w' F57 [box b40 #[iv 0,iv 0,iv 0,iv 0,.slice none 0 0,.slice none 0 0,.slice none 0 0] 26,box b26 (mA x A0_4 c0_4 A0_5 c0_5 A0_6 c0_6) 26,box b4 #[iv y.f0,iv y.f1,iv y.f2,iv y.f3,iv y.f4] 65,box b2 (mA x A0_4 c0_4 A0_5 c0_5 A0_6 c0_6) 26]/\Rd qA.k F57 A0_4 c0_4 x.f4/\Rd qE.k F57 A0_5 c0_5 x.f5/\Rd qC.k F57 A0_6 c0_6 x.f6/\Rd ki F57 A37 c38 t33.f6) 6 135 ?_ fun hJ=>?_
  rintro a u58 ⟨G,b40,A37,c38,F57,E,A,S,g0_4,g0_5,g0_6,g39⟩
  obtain ⟨J,E⟩:=E.at A
  refine on1 3 E (.cl en39 (qAz.calls k20 x t33 _ _ _ _ _ _ _ _ _ _ _ S.own.sub g0_4 g0_5 g0_6 g39 h43)) ?_
  rintro _ u44 a ⟨F45,A46,c47,A49,c50,A52,c53,rfl,hC,g48,g51⟩ E
  refine ⟨.of hC.agr,?_⟩
  have hs:=hC.sub
  have S:=S.called (X:=[]) hC
  have g0_4:=g0_4.mono hs
  have g0_5:=g0_5.mono hs
  have g0_6:=g0_6.mono hs
  have g39:=g39.mono hs
  refine mny 2 hst E (.r 4 3 .nil) fun a E=>?_
  have S:=S.pm [1,2,3,4,0] 5
  exact hJb _ _ ⟨_,b40,A52,c53,A46,c47,A49,c50,F45,E,.of,S,g48,g51,g0_4,g0_5,g0_6⟩
  refine pk2 2 7 ?_ ?_
  refine pk1 2 E (.cl en57 (qCP.calls y _ _ _ S.own.sub h34)) ?_
  rintro _ u35 a ⟨F36,A37,c38,rfl,hC,g39⟩ E
  refine ⟨.of hC.agr,?_⟩
  have hs:=hC.sub
  have S:=S.called (X:=[]) hC
  have g0_4:=g0_4.mono hs
  have g0_5:=g0_5.mono hs
  have g0_6:=g0_6.mono hs
  refine pk2 7 3 ?_ ?_
  refine pk1 7 E (.al (t:=26) S [iv 0,iv 0,iv 0,iv 0,.slice none 0 0,.slice none 0 0,.slice none 0 0]) ?_
  rintro _ u41 a ⟨b40,rfl,hb40,S,hg⟩ E
  refine ⟨.of hg,?_⟩
  exact hJ _ _ ⟨_,b40,A37,c38,F36,E,.of,S,g0_4,g0_5,g0_6,g39⟩
  refine pk1 3 E (.cl en39 (qAz.calls k20 x t33 _ _ _ _ _ _ _ _ _ _ _ S.own.sub g0_4 g0_5 g0_6 g39 h43)) ?_
  rintro _ u44 a ⟨F45,A46,c47,A49,c50,A52,c53,rfl,hC,g48,g51⟩ E
  refine ⟨.of hC.agr,?_⟩
  have hs:=hC.sub
  have S:=S.called (X:=[]) hC
  have g0_4:=g0_4.mono hs
  have g0_5:=g0_5.mono hs
  have g0_6:=g0_6.mono hs
  have g39:=g39.mono hs
  refine mny 3 hst E (.r 4 3 .nil) fun a E=>?_
  refine on1 7 E (.al (t:=26) S [iv 0,iv 0,iv 0,iv 0,.slice none 0 0,.slice none 0 0,.slice none 0 0]) ?_
  rintro _ u41 a ⟨b40,rfl,hb40,S,hg⟩ E
  refine ⟨.of hg,?_⟩
  have S:=S.pm [0,2,3,4,1] 5
  exact hJb _ _ ⟨_,b40,A52,c53,A46,c47,A49,c50,F45,E,.of,S,g48,g51,g0_4,g0_5,g0_6⟩
  refine pk1 7 E (.al (t:=26) S [iv 0,iv 0,iv 0,iv 0,.slice none 0 0,.slice none 0 0,.slice none 0 0]) ?_
  rintro _ u41 a ⟨b40,rfl,hb40,S,hg⟩ E
  refine ⟨.of hg,?_⟩
  refine on1 2 E (.cl en57 (qCP.calls y _ _ _ S.own.sub h34)) ?_
  rintro _ u35 a ⟨F36,A37,c38,rfl,hC,g39⟩ E
  refine ⟨.of hC.agr,?_⟩
  have hs:=hC.sub
  have S:=S.called (X:=[]) hC
  have g0_4:=g0_4.mono hs
  have g0_5:=g0_5.mono hs
  have g0_6:=g0_6.mono hs
  exact hJ _ _ ⟨_,b40,A37,c38,F36,E,.of,S,g0_4,g0_5,g0_6,g39⟩
  refine wp_skip ?_
  exact J88 _ (by omega) _ x.f0 x.f1 x.f2 x.f3 A0_4 c0_4 x.f4 A0_5 c0_5 x.f5 A0_6 c0_6 x.f6 F _ _ E .of S g0_4 g0_5 g0_6 g0_4 g0_5 g0_6 H
 refine drawn 19 ⟨[],[],fun q=>False⟩ mixed rfl (by kernel_rfl) fun hst=>?_
 have S:=S.drew
 have hb2:=S.ba 1
 refine mny 18 hst E (.bn 0 0 7 hb2 .nil) fun a E=>?_
 obtain ⟨t9,h10,H⟩:=bd H
 refine on1 1 E (.cl en65 (qAF.calls k x _ _ _ _ _ _ _ _ _ S.own.sub g0_4 g0_5 g0_6 h10)) ?_
 rintro _ u8 a ⟨_,rfl,hC⟩ E
 refine ⟨.of hC.agr,?_⟩
 have S:=S.lent hC
 refine mny 15 hst E (.r 2 2 .nil) fun a E=>?_
 refine E.fkn 14 H (fun c11 E H=>?_) fun c11 E H=>?_
 have hb4:=S.ba 0
 refine mny 10 hst E (.r 4 1<|.b 5 0 hb4<|.r 6 3<|.nil) fun a E=>?_
 refine E.fk 19 H (fun c12 E H=>?_) fun c12 E H=>?_
 refine mny 0 hst E (.r 9 10 .nil) fun a E=>?_
 refine dn ?_
 exact J21 _ (by omega) _ true _ _ E .of S H
 refine mny 5 hst E (.r 9 1<|.b 10 0 hb4<|.r 11 3<|.nil) fun a E=>?_
 refine E.fk 24 H (fun c13 E H=>?_) fun c13 E H=>?_
 refine mny 0 hst E (.r 14 5 .nil) fun a E=>?_
 refine dn ?_
 exact J21 _ (by omega) _ true _ _ E .of S H
 refine mny 3 hst E (.bn 14 0 5 hb4<|.bn 15 0 5 hb4<|.nil) fun a E=>?_
 obtain ⟨t15,h16,H⟩:=bd H
 refine on1 16 E (.cl en82 (qCT.calls y _ _ _ S.own.sub h16)) ?_
 rintro _ u14 a ⟨_,rfl,hC⟩ E
 refine ⟨.of hC.agr,?_⟩
 have S:=S.lent hC
 refine mny 0 hst E (.y 17 (y_nes fun w=>eqs65 y t15 w 9998)<|.r 18 1<|.nil) fun a E=>?_
 refine dn ?_
 exact J21 _ (by omega) _ (!(decide (y=t15))) _ _ E .of S H
 refine mny 0 hst E (.r 4 15 .nil) fun a E=>?_
 refine dn ?_
 exact J21 _ (by omega) _ true _ _ E .of S H
def qBH.l7:Nat->qD->Int->Int->Option (List Int)
 | 0,_,_,_=>none
 | k+1,x,y,x6=>if x6<(x.f5.length:Int) then (if 0<=x6/\x6<(x.f5.length:Int) then (if (nth qE.z x.f5 x6).f0=y then (some ((nth qE.z x.f5 x6).f1)) else (qBH.l7 k x y (w64 (x6+1)))) else (none)) else (some [])
theorem qBH.l7_s k x y x6:type_of% (qBH.l7.eq_2 x y x6 k):=qBH.l7.eq_2 x y x6 k
def qBH.f(k:Nat)(x:qD)(y:Int):Option (List Int):=qBH.l7 k x y 0
def qBH.Post(W F:World)(r:List Int)(v:Value)(w':World):Prop:=∃(F':World)(RA0_0:OA)(rc0_0:Nat),v = .slice RA0_0 r.length rc0_0/\Sm W F w' F' []/\Rd ki F' RA0_0 rc0_0 r
theorem qBH.calls(k:Nat)(x:qD)(y:Int)(A0_4:OA)(c0_4:Nat)(A0_5:OA)(c0_5:Nat)(A0_6:OA)(c0_6:Nat)(r:List Int)(W F:World)(hown:Sub F W)(g0_4:Rd qA.k F A0_4 c0_4 x.f4)(g0_5:Rd qE.k F A0_5 c0_5 x.f5)(g0_6:Rd qC.k F A0_6 c0_6 x.f6)(H:qBH.f k x y=some r):
    Cr 87 #[.agg (mA x A0_4 c0_4 A0_5 c0_5 A0_6 c0_6),iv y] W (qBH.Post W F r):=by
 have S:=sT hown
 unfold qBH.f at H
 refine ent 21 rfl rfl rfl fun a E=>?_
 refine sq fun K1 hK1=>pl0 (plx (t:=26) E S (mL x A0_4 c0_4 A0_5 c0_5 A0_6 c0_6) fun b2 u3 hb2 S a E=>plc E (.r 1 1 .nil) fun a E=>pld (hK1 _ _ (sq fun K4 hK4=>rg E (.r 0 1<|.b 1 5 hb2<|.r 2 2<|.nil) fun a E=>(wp_block ?_))))
 refine wp_loop_ghost (fun kq8 a w'=>∃(G:NV)(x6:Int),kq8<=k/\Env 21 G a/\At G [(1,iv y),(8,.slice A0_5 x.f5.length c0_5),(9,iv (x.f5.length:Int)),(10,iv x6)]/\Sm W F w' F [box b2 (mA x A0_4 c0_4 A0_5 c0_5 A0_6 c0_6) 26]/\qBH.l7 kq8 x y x6=some r) k ⟨_,0,Nat.le_refl _,E,.of,S,H⟩ ?_
 rintro kq8 a u10 ⟨G,x6,hkq,E,A,S,H⟩
 obtain _ | k9:=kq8
 exact zz H
 rw [qBH.l7_s]at H
 obtain ⟨J,E⟩:=E.at A
 refine rr E fun a E=>(sq fun K12 hK12=>E.ik 11 H (fun c13 E H=>?_) fun c13 E H=>?_)
 refine wp_skip (hK12 _ _ (sq fun K14 hK14=>wp_block (sq fun K15 hK15=>pl0 ?_)))
 obtain ⟨c16,H⟩:=gd H
 have hE_:=E
 obtain ⟨ad17,rfl⟩:=g0_5.addr c16.1 c16.2
 replace E:=hE_
 obtain ⟨cs19,⟨A21,c22,rfl,g23⟩,hc20⟩:=g0_5.el qE.z x6 c16.1 c16.2
 refine plc E (.x 0 c16<|.cs 1 (S.fcs hc20)<|.nil) fun a E=>pla (t:=75) E S [iv 0,.slice none 0 0] fun b24 u25 hb24 S a E=>pls E S [iv ((nth qE.z x.f5 x6).f0),.slice A21 (((nth qE.z x.f5 x6).f1).length) c22] fun u26 hb24 S a E=>pld (hK15 _ _ (rg E (.r 0 1<|.b 1 0 hb24<|.r 2 2<|.nil) fun a E=>(E.ik 17 H (fun c28 E H=>?_) fun c28 E H=>?_)))
 refine rg E (.r 0 1<|.b 1 1 hb24<|.r 2 1<|.nil) fun a E=>(wp_ret (qCd (qCc (qCc (qCd (qCc ?_))))))
 have S:=S.pm [] 2
 obtain rfl:=si H
 exact rt1 E ⟨_,rfl,_,_,_,rfl,S,g23⟩
 refine wp_skip ?_
 refine qCe ?_
 refine hK14 _ _ (pl0 (plc E (.r 0 2 .nil) fun a E=>pld ?_))
 have S:=S.tail
 exact qCf ⟨k9,by omega,_,(w64 (x6+1)),by omega,E,.of,S,H⟩
 refine wp_exit ?_
 refine hK4 _ _ (rr E fun a E=>(wp_ret ?_))
 have S:=S.tail
 obtain rfl:=si H
 exact rt1 E ⟨_,rfl,_,_,_,rfl,S,(Rd.nil _ _)⟩
mutual
def qAr.l26:Nat->qD->Int->Int->List Int->List qA->Int->Option (List Int)
 | 0,_,_,_,_,_,_=>none
 | k+1,x,y,z,l19,l22,x24=>if x24<x.f3 then ((qCM.f k x.f4 x24 x.f1).bind fun t37=>((qCM.f k l22 x24 x.f1).bind fun t45=>((qr.f k t37 t45).bind fun t53=>(if t53=true then (if z=0 then ((qBH.f k x x24).bind fun t59=>((qAG.f k t59 y).bind fun t66=>(qAr.j70 k x y z l19 l22 x24 t66))) else (qAr.j70 k x y z l19 l22 x24 false)) else (qAr.j70 k x y z l19 l22 x24 true))))) else (some l19)
def qAr.j70:Nat->qD->Int->Int->List Int->List qA->Int->Bool->Option (List Int)
 | 0,_,_,_,_,_,_,_=>none
 | k+1,x,y,z,l19,l22,x24,y68=>if y68=true then (if ((l19.length:Int)+((1:Nat):Int)) * 8<=140737488355328 then (qAr.l26 k x y z (l19++[x24]) l22 (w64 (x24+1))) else (none)) else (qAr.l26 k x y z l19 l22 (w64 (x24+1)))
end
theorem qAr.l26_s k x y z l19 l22 x24:type_of% (qAr.l26.eq_2 x y z l19 l22 x24 k):=qAr.l26.eq_2 x y z l19 l22 x24 k
theorem qAr.j70_s k x y z l19 l22 x24 y68:type_of% (qAr.j70.eq_2 x y z l19 l22 x24 y68 k):=qAr.j70.eq_2 x y z l19 l22 x24 y68 k
def qAr.f(k:Nat)(x:qD)(y:Int)(z:Int):Option (List Int):=(qBD.f k x.f4 y z).bind fun t7=>(qAr.l26 k x y z [] t7 0)
def qAr.Post(W F:World)(r:List Int)(v:Value)(w':World):Prop:=∃(F':World)(RA0_0:OA)(rc0_0:Nat),v = .slice RA0_0 r.length rc0_0/\Sm W F w' F' [row ki 3 (.slice RA0_0 r.length rc0_0) r]
theorem qAr.calls(k:Nat)(x:qD)(y:Int)(z:Int)(A0_4:OA)(c0_4:Nat)(A0_5:OA)(c0_5:Nat)(A0_6:OA)(c0_6:Nat)(r:List Int)(W F:World)(hown:Sub F W)(g0_4:Rd qA.k F A0_4 c0_4 x.f4)(g0_5:Rd qE.k F A0_5 c0_5 x.f5)(g0_6:Rd qC.k F A0_6 c0_6 x.f6)(H:qAr.f k x y z=some r):
    Cr 86 #[.agg (mA x A0_4 c0_4 A0_5 c0_5 A0_6 c0_6),iv y,iv z] W (qAr.Post W F r):=by
 have S:=sT hown
 unfold qAr.f at H
 refine ent 52 rfl rfl rfl fun a E=>?_
 refine sq fun K1 hK1=>pl0 (plx (t:=26) E S (mL x A0_4 c0_4 A0_5 c0_5 A0_6 c0_6) fun b2 u3 hb2 S a E=>plc E (.r 1 1 .nil) fun a E=>pld (hK1 _ _ (rr E fun a E=>(sq fun K5 hK5=>pl0 (plc E (.r 0 1<|.b 1 4 hb2<|.r 2 2<|.nil) fun a E=>?_)))))
 obtain ⟨t7,h8,H⟩:=bd H
 refine ple E (.cl en85 (qBD.calls k x.f4 y z _ _ _ _ _ S.own.sub g0_4 h8)) ?_
 rintro _ u6 a ⟨F9,A10,c11,rfl,hC⟩ E
 have hs:=hC.sub
 have S:=S.called (X:=[]) hC
 have g0_4:=g0_4.mono hs
 have g0_5:=g0_5.mono hs
 have g0_6:=g0_6.mono hs
 refine plc E (.r 5 1 .nil) fun a E=>pld (hK5 _ _ (sq fun K14 hK14=>sq fun K15 hK15=>pl0 ?_))
 have hb2:=S.ba 1
 refine plc E (.r 0 1<|.b 1 3 hb2<|.r 2 1<|.nil) fun a E=>pld (hK15 _ _ (wp_block ?_))
 obtain ⟨F84,hs,g85,S⟩:=S.give
 have g0_4:=g0_4.mono hs
 have g0_5:=g0_5.mono hs
 have g0_6:=g0_6.mono hs
 have S:=S.nilrow ki 3
 have S:=S.front 1 rfl
 refine wp_loop_ghost (fun kq27 a w'=>∃(G:NV)(A17:OA)(c18:Nat)(l19:List Int)(A20:OA)(c21:Nat)(l22:List qA)(x24:Int)(F25:World),kq27<=k/\Env 52 G a/\At G [(1,iv y),(2,iv z),(3,.pointer (pb b2)),(7,.slice A17 l19.length c18),(8,.slice A20 l22.length c21),(17,iv x.f3),(18,iv x24)]/\Sm W F w' F25 [box b2 (mA x A0_4 c0_4 A0_5 c0_5 A0_6 c0_6) 26,row ki 3 (.slice A17 l19.length c18) l19]/\Rd qA.k F25 A20 c21 l22/\Rd qA.k F25 A0_4 c0_4 x.f4/\Rd qE.k F25 A0_5 c0_5 x.f5/\Rd qC.k F25 A0_6 c0_6 x.f6/\qAr.l26 kq27 x y z l19 l22 x24=some r) k ⟨_,none,0,[],A10,c11,t7,0,F84,Nat.le_refl _,E,.of,S,g85,g0_4,g0_5,g0_6,H⟩ ?_
 rintro kq27 a u29 ⟨G,A17,c18,l19,A20,c21,l22,x24,F25,hkq,E,A,S,g23,g0_4,g0_5,g0_6,H⟩
 obtain _ | k28:=kq27
 exact zz H
 rw [qAr.l26_s]at H
 obtain ⟨J,E⟩:=E.at A
 refine rr E fun a E=>(sq fun K31 hK31=>E.ik 19 H (fun c32 E H=>?_) fun c32 E H=>?_)
 refine wp_skip (hK31 _ _ (sq fun K33 hK33=>wp_block (rr E fun a E=>(sq fun K35 hK35=>?_))))
 refine drawn 14 ⟨[],[],fun q=>False⟩ mixed rfl (by kernel_rfl) fun hst=>?_
 have S:=S.drew
 have hb2:=S.ba 0
 refine mny 5 hst E (.r 0 1<|.b 1 4 hb2<|.r 2 2<|.b 4 1 hb2<|.r 6 3<|.b 9 1 hb2<|.nil) fun a E=>?_
 obtain ⟨t37,h38,H⟩:=bd H
 refine on1 5 E (.cl en114 (qCM.calls k28 x.f4 x24 x.f1 _ _ _ _ _ S.own.sub g0_4 h38)) ?_
 rintro _ u36 a ⟨F39,A40,c41,rfl,hC⟩ E
 refine ⟨.of hC.agr,?_⟩
 have hs:=hC.sub
 have S:=S.called (X:=[]) hC
 have g23:=g23.mono hs
 have g0_4:=g0_4.mono hs
 have g0_5:=g0_5.mono hs
 have g0_6:=g0_6.mono hs
 obtain ⟨t45,h46,H⟩:=bd H
 refine on1 10 E (.cl en114 (qCM.calls k28 l22 x24 x.f1 _ _ _ _ _ S.own.sub g23 h46)) ?_
 rintro _ u44 a ⟨F47,A48,c49,rfl,hC⟩ E
 refine ⟨.of hC.agr,?_⟩
 have hs:=hC.sub
 have S:=S.called (X:=[]) hC
 have g23:=g23.mono hs
 have g0_4:=g0_4.mono hs
 have g0_5:=g0_5.mono hs
 have g0_6:=g0_6.mono hs
 obtain ⟨t53,h54,H⟩:=bd H
 refine on1 11 E (.cl en63 (qr.calls k28 t37 t45 _ _ _ _ _ _ _ (Sub.refl _) (S.rd_at (i:=1) rfl) (S.rd_at (i:=0) rfl) h54)) ?_
 rintro _ u52 a ⟨_,rfl,hC⟩ E
 refine ⟨.of hC.agr,?_⟩
 have S:=S.lent hC
 refine mny 0 hst E (.r 12 2 .nil) fun a E=>?_
 refine dn ?_
 refine hK35 _ _ (sq fun K55 hK55=>?_)
 have J73:∀ kq71,kq71<=k28->∀(G:NV)(y68:Bool)(F69:World)(a:Act)(w':World),Env 52 G a->At G [(1,iv y),(2,iv z),(3,.pointer (pb b2)),(7,.slice A17 l19.length c18),(8,.slice A20 l22.length c21),(9,iv x24),(17,iv x.f3),(18,iv x24),(45,.bool y68)]->Sm W F w' F69 [box b2 (mA x A0_4 c0_4 A0_5 c0_5 A0_6 c0_6) 26,row ki 3 (.slice A17 l19.length c18) l19]->Rd qA.k F69 A20 c21 l22->Rd qA.k F69 A0_4 c0_4 x.f4->Rd qE.k F69 A0_5 c0_5 x.f5->Rd qC.k F69 A0_6 c0_6 x.f6->qAr.j70 kq71 x y z l19 l22 x24 y68=some r->K55 a w':=by
  intro kq71 hkq G y68 F69 a u74 E A S g23 g0_4 g0_5 g0_6 H
  obtain _ | k72:=kq71
  exact zz H
  rw [qAr.j70_s]at H
  obtain ⟨J,E⟩:=E.at A
  refine hK55 _ _ (E.ib 45 H (fun c75 E H=>?_) fun c75 E H=>?_)
  refine pl0 (plc E (.r 0 2 .nil) fun a E=>ple E (.lit (d:=ki) (e:=3) S [x24] (.cons rfl .nil)) ?_)
  rintro _ u76 a ⟨A77,c78,rfl,S,hg⟩ E
  obtain ⟨c80,H⟩:=gd H
  have S:=S.front 2 rfl
  refine ple E (.ap (d:=ki) 8 S (qCj (S.row_at (i:=1) rfl)) c80 c78) ?_
  rintro _ u83 a ⟨A81,c82,rfl,S,hz⟩ E
  refine plc E (.r 4 1 .nil) fun a E=>pld ?_
  refine qCe ?_
  refine hK33 _ _ (pl0 (plc E (.r 0 2 .nil) fun a E=>pld ?_))
  have S:=S.pm [2,0] 3
  exact qCf ⟨k72,by omega,_,A81,c82,(l19++[x24]),A20,c21,l22,(w64 (x24+1)),F69,by omega,E,.of,S,g23,g0_4,g0_5,g0_6,H⟩
  refine wp_skip ?_
  refine qCe ?_
  refine hK33 _ _ (pl0 (plc E (.r 0 2 .nil) fun a E=>pld ?_))
  exact qCf ⟨k72,by omega,_,A17,c18,l19,A20,c21,l22,(w64 (x24+1)),F69,by omega,E,.of,S,g23,g0_4,g0_5,g0_6,H⟩
 refine pl0 (plc E (.r 0 2 .nil) fun a E=>E.fbn 35 H (fun c56 E H=>?_) fun c56 E H=>?_)
 refine plc E (.r 2 3 .nil) fun a E=>E.fk 38 H (fun c57 E H=>?_) fun c57 E H=>?_
 refine plc E (.bn 5 0 7 (S.ba 2)<|.r 6 1<|.nil) fun a E=>?_
 obtain ⟨t59,h60,H⟩:=bd H
 refine ple E (.cl en87 (qBH.calls k28 x x24 _ _ _ _ _ _ _ _ _ S.own.sub g0_4 g0_5 g0_6 h60)) ?_
 rintro _ u58 a ⟨F61,A62,c63,rfl,hC,g64⟩ E
 have hs:=hC.sub
 have S:=S.called (X:=[]) hC
 have g23:=g23.mono hs
 have g0_4:=g0_4.mono hs
 have g0_5:=g0_5.mono hs
 have g0_6:=g0_6.mono hs
 refine plc E (.r 8 1 .nil) fun a E=>?_
 obtain ⟨t66,h67,H⟩:=bd H
 refine plq E S en75 (qAG.calls k28 t59 y _ _ _ _ _ S.own.sub g64 h67) fun u65 S a E=>plc E (.r 10 2 .nil) fun a E=>pld ?_
 have S:=S.pm [] 2
 exact J73 _ (by omega) _ t66 F61 _ _ E .of S g23 g0_4 g0_5 g0_6 H
 refine plc E (.r 5 7 .nil) fun a E=>pld ?_
 have S:=S.pm [] 2
 exact J73 _ (by omega) _ false F47 _ _ E .of S g23 g0_4 g0_5 g0_6 H
 refine plc E (.r 2 10 .nil) fun a E=>pld ?_
 have S:=S.pm [] 2
 exact J73 _ (by omega) _ true F47 _ _ E .of S g23 g0_4 g0_5 g0_6 H
 refine wp_exit ?_
 refine hK14 _ _ (rr E fun a E=>(wp_ret ?_))
 have S:=S.tail
 obtain rfl:=si H
 exact rt1 E ⟨_,rfl,_,_,_,rfl,S⟩
mutual
def qAb.l25:Nat->qD->Int->Int->List Int->List qF->List qF->Int->Option (List qF)
 | 0,_,_,_,_,_,_,_=>none
 | k+1,x,y,z,t8,l19,l22,x23=>if x23<(t8.length:Int) then (if 0<=x23/\x23<(t8.length:Int) then ((qBY.f k x (nth 0 t8 x23)).bind fun t42=>(if (t42.length:Int)=0 then (qAb.l25 k x y z t8 l19 l22 (w64 (x23+1))) else ((qBH.f k x (nth 0 t8 x23)).bind fun t55=>(if (t55.length:Int)=0 then (if ((l19.length:Int)+((1:Nat):Int)) * 72<=140737488355328 then (qAb.j77 k x y z t8 l22 x23 (l19++[(⟨8,0,0,0,0,(nth 0 t8 x23),t42⟩:qF)])) else (none)) else (qAb.j77 k x y z t8 l22 x23 l19))))) else (none)) else ((qBN.f k x.f4 y).bind fun t95=>(if t95.1.f3=z then (qAb.j114 k l22 l19) else (if ((l19.length:Int)+((1:Nat):Int)) * 72<=140737488355328 then (qAb.j114 k l22 (l19++[(⟨2,y,0,0,z,0,[]⟩:qF)])) else (none))))
def qAb.j77:Nat->qD->Int->Int->List Int->List qF->Int->List qF->Option (List qF)
 | 0,_,_,_,_,_,_,_=>none
 | k+1,x,y,z,t8,l22,x23,l75=>if ((l22.length:Int)+((1:Nat):Int)) * 72<=140737488355328 then (qAb.l25 k x y z t8 l75 (l22++[(⟨8,0,0,0,0,(nth 0 t8 x23),[]⟩:qF)]) (w64 (x23+1))) else (none)
def qAb.j114:Nat->List qF->List qF->Option (List qF)
 | 0,_,_=>none
 | k+1,l22,l113=>if ((l113.length:Int)+(l22.length:Int)) * 72<=140737488355328 then (some (l113++l22)) else (none)
end
theorem qAb.l25_s k x y z t8 l19 l22 x23:type_of% (qAb.l25.eq_2 x y z t8 l19 l22 x23 k):=qAb.l25.eq_2 x y z t8 l19 l22 x23 k
theorem qAb.j77_s(k:Nat)(x:qD)(y:Int)(z:Int)(t8:List Int)(l22:List qF)(x23:Int)(l75:List qF):qAb.j77 (k+1) x y z t8 l22 x23 l75=(if ((l22.length:Int)+((1:Nat):Int)) * 72<=140737488355328 then (qAb.l25 k x y z t8 l75 (l22++[(⟨8,0,0,0,0,(nth 0 t8 x23),[]⟩:qF)]) (w64 (x23+1))) else (none)):=by kernel_rfl
theorem qAb.j114_s k l22 l113:type_of% (qAb.j114.eq_2 l22 l113 k):=qAb.j114.eq_2 l22 l113 k
def qAb.f(k:Nat)(x:qD)(y:Int)(z:Int):Option (List qF):=(qAr.f k x y z).bind fun t8=>(qAb.l25 k x y z t8 [] [] 0)
def qAb.Post(W F:World)(r:List qF)(v:Value)(w':World):Prop:=∃(F':World)(RA0_0:OA)(rc0_0:Nat),v = .slice RA0_0 r.length rc0_0/\Sm W F w' F' [row qF.k 29 (.slice RA0_0 r.length rc0_0) r]
theorem qAb.calls(k:Nat)(x:qD)(y:Int)(z:Int)(A0_4:OA)(c0_4:Nat)(A0_5:OA)(c0_5:Nat)(A0_6:OA)(c0_6:Nat)(r:List qF)(W F:World)(hown:Sub F W)(g0_4:Rd qA.k F A0_4 c0_4 x.f4)(g0_5:Rd qE.k F A0_5 c0_5 x.f5)(g0_6:Rd qC.k F A0_6 c0_6 x.f6)(H:qAb.f k x y z=some r):
    Cr 58 #[.agg (mA x A0_4 c0_4 A0_5 c0_5 A0_6 c0_6),iv y,iv z] W (qAb.Post W F r):=by
 have S:=sT hown
 unfold qAb.f at H
 refine ent 66 rfl rfl rfl fun a E=>?_
 refine sq fun K1 hK1=>pl0 (plx (t:=26) E S (mL x A0_4 c0_4 A0_5 c0_5 A0_6 c0_6) fun b2 u3 hb2 S a E=>plc E (.r 1 1 .nil) fun a E=>pld (hK1 _ _ (rr E fun a E=>(sq fun K5 hK5=>sq fun K6 hK6=>pl0 (plc E (.bn 0 0 7 hb2<|.r 1 2<|.nil) fun a E=>?_)))))
 obtain ⟨t8,h9,H⟩:=bd H
 refine ple E (.cl en86 (qAr.calls k x y z _ _ _ _ _ _ _ _ _ S.own.sub g0_4 g0_5 g0_6 h9)) ?_
 rintro _ u7 a ⟨F10,A11,c12,rfl,hC⟩ E
 have hs:=hC.sub
 have S:=S.called (X:=[]) hC
 have g0_4:=g0_4.mono hs
 have g0_5:=g0_5.mono hs
 have g0_6:=g0_6.mono hs
 refine plc E (.r 4 2 .nil) fun a E=>pld (hK6 _ _ (wp_block ?_))
 have S:=S.nilrow qF.k 29
 have S:=S.nilrow qF.k 29
 have S:=S.pm [3,2,1,0] 4
 refine wp_loop_ghost (fun kq26 a w'=>∃(G:NV)(A17:OA)(c18:Nat)(l19:List qF)(A20:OA)(c21:Nat)(l22:List qF)(x23:Int)(F24:World),kq26<=k/\Env 66 G a/\At G [(1,iv y),(2,iv z),(3,.pointer (pb b2)),(7,.slice A17 l19.length c18),(8,.slice A20 l22.length c21),(17,.slice A11 t8.length c12),(18,iv (t8.length:Int)),(19,iv x23)]/\Sm W F w' F24 [box b2 (mA x A0_4 c0_4 A0_5 c0_5 A0_6 c0_6) 26,row ki 3 (.slice A11 t8.length c12) t8,row qF.k 29 (.slice A17 l19.length c18) l19,row qF.k 29 (.slice A20 l22.length c21) l22]/\Rd qA.k F24 A0_4 c0_4 x.f4/\Rd qE.k F24 A0_5 c0_5 x.f5/\Rd qC.k F24 A0_6 c0_6 x.f6/\qAb.l25 kq26 x y z t8 l19 l22 x23=some r) k ⟨_,none,0,[],none,0,[],0,F10,Nat.le_refl _,E,.of,S,g0_4,g0_5,g0_6,H⟩ ?_
 rintro kq26 a u28 ⟨G,A17,c18,l19,A20,c21,l22,x23,F24,hkq,E,A,S,g0_4,g0_5,g0_6,H⟩
 obtain _ | k27:=kq26
 exact zz H
 rw [qAb.l25_s]at H
 obtain ⟨J,E⟩:=E.at A
 refine rr E fun a E=>(sq fun K30 hK30=>E.ik 20 H (fun c31 E H=>?_) fun c31 E H=>?_)
 refine wp_skip (hK30 _ _ (sq fun K32 hK32=>wp_block (sq fun K33 hK33=>pl0 ?_)))
 obtain ⟨c34,H⟩:=gd H
 have hr35:=S.ra 1
 have hE_:=E
 obtain ⟨b36,rfl⟩:=qCi hr35 c34.1 c34.2
 replace E:=hE_
 have hr_:=S.ra 1
 obtain ⟨cs38,rfl,hc39⟩:=qCh hr_ 0 x23 c34.1 c34.2
 refine plc E (.x 0 c34<|.c 1 (hc39 0 _ rfl)<|.r 2 1<|.nil) fun a E=>pld (hK33 _ _ (sq fun K40 hK40=>pl0 (plc E (.bn 0 0 7 (S.ba 0)<|.r 1 1<|.nil) fun a E=>?_)))
 obtain ⟨t42,h43,H⟩:=bd H
 refine ple E (.cl en64 (qBY.calls k27 x (nth 0 t8 x23) _ _ _ _ _ _ _ _ _ S.own.sub g0_4 g0_5 g0_6 h43)) ?_
 rintro _ u41 a ⟨F44,A45,c46,rfl,hC⟩ E
 have hs:=hC.sub
 have S:=S.called (X:=[]) hC
 have g0_4:=g0_4.mono hs
 have g0_5:=g0_5.mono hs
 have g0_6:=g0_6.mono hs
 refine plc E (.r 3 1 .nil) fun a E=>pld (hK40 _ _ (sq fun K49 hK49=>rr E fun a E=>(E.ik 28 H (fun c51 E H=>?_) fun c51 E H=>?_)))
 refine wp_exit ?_
 refine hK32 _ _ (pl0 (plc E (.r 0 2 .nil) fun a E=>pld ?_))
 have S:=S.tail
 exact qCf ⟨k27,by omega,_,A17,c18,l19,A20,c21,l22,(w64 (x23+1)),F44,by omega,E,.of,S,g0_4,g0_5,g0_6,H⟩
 refine wp_skip (hK49 _ _ (sq fun K52 hK52=>?_))
 have J80:∀ kq78,kq78<=k27->∀(G:NV)(A73:OA)(c74:Nat)(l75:List qF)(F76:World)(a:Act)(w':World),Env 66 G a->At G [(1,iv y),(2,iv z),(3,.pointer (pb b2)),(7,.slice A73 l75.length c74),(8,.slice A20 l22.length c21),(10,iv (nth 0 t8 x23)),(17,.slice (pb b36) t8.length c12),(18,iv (t8.length:Int)),(19,iv x23)]->Sm W F w' F76 [box b2 (mA x A0_4 c0_4 A0_5 c0_5 A0_6 c0_6) 26,row ki 3 (.slice (pb b36) t8.length c12) t8,row qF.k 29 (.slice A20 l22.length c21) l22,row qF.k 29 (.slice A73 l75.length c74) l75]->Rd qA.k F76 A0_4 c0_4 x.f4->Rd qE.k F76 A0_5 c0_5 x.f5->Rd qC.k F76 A0_6 c0_6 x.f6->qAb.j77 kq78 x y z t8 l22 x23 l75=some r->K52 a w':=by
  intro kq78 hkq G A73 c74 l75 F76 a u81 E A S g0_4 g0_5 g0_6 H
  obtain _ | k79:=kq78
  exact zz H
  rw [qAb.j77_s]at H
  obtain ⟨J,E⟩:=E.at A
  refine hK52 _ _ (pl0 (plc E (.r 0 3 .nil) fun a E=>ple E (.lit (d:=qF.k) (e:=29) S [(⟨8,0,0,0,0,(nth 0 t8 x23),[]⟩:qF)] (.cons ⟨none,0,rfl,Rd.nil _ _⟩ .nil)) ?_))
  rintro _ u82 a ⟨A83,c84,rfl,S,hg⟩ E
  obtain ⟨c86,H⟩:=gd H
  have S:=S.front 3 rfl
  refine ple E (.ap (d:=qF.k) 72 S (qCj (S.row_at (i:=1) rfl)) c86 c84) ?_
  rintro _ u89 a ⟨A87,c88,rfl,S,hz⟩ E
  refine plc E (.r 5 1 .nil) fun a E=>pld ?_
  refine qCe ?_
  refine hK32 _ _ (pl0 (plc E (.r 0 2 .nil) fun a E=>pld ?_))
  have S:=S.pm [2,3,4,0] 5
  exact qCf ⟨k79,by omega,_,A73,c74,l75,A87,c88,(l22++[(⟨8,0,0,0,0,(nth 0 t8 x23),[]⟩:qF)]),(w64 (x23+1)),F76,by omega,E,.of,S,g0_4,g0_5,g0_6,H⟩
 refine sq fun K53 hK53=>pl0 (plc E (.bn 0 0 7 (S.ba 1)<|.r 1 1<|.nil) fun a E=>?_)
 obtain ⟨t55,h56,H⟩:=bd H
 refine ple E (.cl en87 (qBH.calls k27 x (nth 0 t8 x23) _ _ _ _ _ _ _ _ _ S.own.sub g0_4 g0_5 g0_6 h56)) ?_
 rintro _ u54 a ⟨F57,A58,c59,rfl,hC,g60⟩ E
 have hs:=hC.sub
 have S:=S.called (X:=[]) hC
 have g0_4:=g0_4.mono hs
 have g0_5:=g0_5.mono hs
 have g0_6:=g0_6.mono hs
 refine plc E (.r 3 2 .nil) fun a E=>pld (hK53 _ _ (E.ik 33 H (fun c61 E H=>?_) fun c61 E H=>?_))
 refine pl0 (plc E (.r 0 4 .nil) fun a E=>?_)
 obtain ⟨F65,hs,g66,S⟩:=S.give
 have g0_4:=g0_4.mono hs
 have g0_5:=g0_5.mono hs
 have g0_6:=g0_6.mono hs
 refine ple E (.lit (d:=qF.k) (e:=29) S [(⟨8,0,0,0,0,(nth 0 t8 x23),t42⟩:qF)] (.cons ⟨_,_,rfl,g66⟩ .nil)) ?_
 rintro _ u62 a ⟨A63,c64,rfl,S,hg⟩ E
 obtain ⟨c68,H⟩:=gd H
 have S:=S.front 3 rfl
 refine ple E (.ap (d:=qF.k) 72 S (qCj (S.row_at (i:=1) rfl)) c68 c64) ?_
 rintro _ u71 a ⟨A69,c70,rfl,S,hz⟩ E
 refine plc E (.r 6 1 .nil) fun a E=>pld ?_
 have S:=S.pm [2,3,4,0] 5
 exact J80 _ (by omega) _ A69 c70 (l19++[(⟨8,0,0,0,0,(nth 0 t8 x23),t42⟩:qF)]) F65 _ _ E .of S g0_4 g0_5 g0_6 H
 refine wp_skip ?_
 have S:=S.pm [1,2,4,3] 5
 exact J80 _ (by omega) _ A17 c18 l19 F57 _ _ E .of S g0_4 g0_5 g0_6 H
 refine wp_exit ?_
 refine hK5 _ _ (sq fun K92 hK92=>?_)
 have J117:∀ kq115,kq115<=k27->∀(G:NV)(A111:OA)(c112:Nat)(l113:List qF)(a:Act)(w':World),Env 66 G a->At G [(7,.slice A111 l113.length c112),(8,.slice A20 l22.length c21)]->Sm W F w' F24 [box b2 (mA x A0_4 c0_4 A0_5 c0_5 A0_6 c0_6) 26,row qF.k 29 (.slice A20 l22.length c21) l22,row qF.k 29 (.slice A111 l113.length c112) l113]->qAb.j114 kq115 l22 l113=some r->K92 a w':=by
  intro kq115 hkq G A111 c112 l113 a u118 E A S H
  obtain _ | k116:=kq115
  exact zz H
  rw [qAb.j114_s]at H
  obtain ⟨J,E⟩:=E.at A
  refine hK92 _ _ (sq fun K119 hK119=>pl0 (plc E (.r 0 2 .nil) fun a E=>?_))
  obtain ⟨c120,H⟩:=gd H
  have S:=S.front 2 rfl
  refine ple E (.ap (d:=qF.k) 72 S (qCj (S.row_at (i:=2) rfl)) c120 c21) ?_
  rintro _ u123 a ⟨A121,c122,rfl,S,hz⟩ E
  refine plc E (.r 3 1 .nil) fun a E=>pld (hK119 _ _ (wp_ret ?_))
  have S:=S.pm [0] 3
  obtain rfl:=si H
  exact rt1 E ⟨_,rfl,_,_,_,rfl,S⟩
 refine sq fun K93 hK93=>pl0 (plc E (.r 0 1<|.b 1 4 (S.ba 0)<|.r 2 1<|.nil) fun a E=>?_)
 obtain ⟨t95,h96,H⟩:=bd H
 refine plq E S en59 (qBN.calls k27 x.f4 y _ _ _ _ _ S.own.sub g0_4 h96) fun u94 S a E=>plc E (.r 4 3 .nil) fun a E=>pla (t:=68) E S [iv 0,iv 0,iv 0,iv 0,.bool false,.bool false] fun b97 u98 hb97 S a E=>pls E S (nL t95.1) fun u99 hb97 S a E=>plc E (.r 9 1 .nil) fun a E=>pld (hK93 _ _ (rg E (.r 0 1<|.b 1 3 hb97<|.r 2 2<|.nil) fun a E=>(E.ikn 56 H (fun c101 E H=>?_) fun c101 E H=>?_)))
 refine wp_skip ?_
 have S:=S.pm [1,4,3] 5
 exact J117 _ (by omega) _ A17 c18 l19 _ _ E .of S H
 refine pl0 (plc E (.r 0 4 .nil) fun a E=>ple E (.lit (d:=qF.k) (e:=29) S [(⟨2,y,0,0,z,0,[]⟩:qF)] (.cons ⟨none,0,rfl,Rd.nil _ _⟩ .nil)) ?_)
 rintro _ u102 a ⟨A103,c104,rfl,S,hg⟩ E
 obtain ⟨c106,H⟩:=gd H
 have S:=S.front 4 rfl
 refine ple E (.ap (d:=qF.k) 72 S (qCj (S.row_at (i:=1) rfl)) c106 c104) ?_
 rintro _ u109 a ⟨A107,c108,rfl,S,hz⟩ E
 refine plc E (.r 6 1 .nil) fun a E=>pld ?_
 have S:=S.pm [3,5,0] 6
 exact J117 _ (by omega) _ A107 c108 (l19++[(⟨2,y,0,0,z,0,[]⟩:qF)]) _ _ E .of S H
def qBd.j112:Nat->qAN->List qF->Option ((List qF) × Int)
 | 0,_,_=>none
 | k+1,y,l111=>if ((l111.length:Int)+((1:Nat):Int)) * 72<=140737488355328 then (some ((l111++[(⟨7,y.f1,0,0,0,0,[]⟩:qF)]),0)) else (none)
theorem qBd.j112_s(k:Nat)(y:qAN)(l111:List qF):qBd.j112 (k+1) y l111=(if ((l111.length:Int)+((1:Nat):Int)) * 72<=140737488355328 then (some ((l111++[(⟨7,y.f1,0,0,0,0,[]⟩:qF)]),0)) else (none)):=by kernel_rfl
def qBd.f(k:Nat)(x:qD)(y:qAN):Option ((List qF) × Int):=(qAC.f k x y).bind fun t9=>(if t9=0 then (if y.f0=3 then ((qCP.f y).bind fun t20=>((qAz.f k x t20).bind fun t29=>((qCP.f y).bind fun t52=>((qAb.f k t29.1 y.f1 y.f4).bind fun t58=>(if (([t52].length:Int)+(t58.length:Int)) * 72<=140737488355328 then (some (([t52]++t58),0)) else (none)))))) else (if y.f0=4 then ((qAb.f k x y.f1 0).bind fun t83=>((qBN.f k x.f4 y.f1).bind fun t93=>(if t93.1.f5=true then (if ((t83.length:Int)+((1:Nat):Int)) * 72<=140737488355328 then (qBd.j112 k y (t83++[(⟨5,y.f1,0,0,0,0,[]⟩:qF)])) else (none)) else (qBd.j112 k y t83)))) else ((qBK.f k y).bind fun t128=>((qAb.f k x y.f1 t128).bind fun t131=>(some (t131,0)))))) else (some ([],t9)))
def qBd.Post(W F:World)(r:(List qF) × Int)(v:Value)(w':World):Prop:=∃(F':World)(RA0_0:OA)(rc0_0:Nat),v = .tuple #[.slice RA0_0 r.1.length rc0_0,iv r.2]/\Sm W F w' F' [row qF.k 29 (.slice RA0_0 r.1.length rc0_0) r.1]
theorem qBd.calls(k:Nat)(x:qD)(y:qAN)(A0_4:OA)(c0_4:Nat)(A0_5:OA)(c0_5:Nat)(A0_6:OA)(c0_6:Nat)(r:(List qF) × Int)(W F:World)(hown:Sub F W)(g0_4:Rd qA.k F A0_4 c0_4 x.f4)(g0_5:Rd qE.k F A0_5 c0_5 x.f5)(g0_6:Rd qC.k F A0_6 c0_6 x.f6)(H:qBd.f k x y=some r):
    Cr 32 #[.agg (mA x A0_4 c0_4 A0_5 c0_5 A0_6 c0_6),.agg #[iv y.f0,iv y.f1,iv y.f2,iv y.f3,iv y.f4]] W (qBd.Post W F r):=by
 have S:=sT hown
 unfold qBd.f at H
 refine ent 73 rfl rfl rfl fun a E=>?_
 refine sq fun K1 hK1=>pl0 (plx (t:=26) E S (mL x A0_4 c0_4 A0_5 c0_5 A0_6 c0_6) fun b2 u3 hb2 S a E=>plx (t:=65) E S [iv y.f0,iv y.f1,iv y.f2,iv y.f3,iv y.f4] fun b4 u5 hb4 S a E=>plc E (.r 2 2 .nil) fun a E=>pld (hK1 _ _ (sq fun K6 hK6=>sq fun K7 hK7=>pl0 ?_)))
 have hb2:=S.ba 1
 refine plc E (.bn 0 0 7 hb2<|.bn 1 0 5 hb4<|.nil) fun a E=>?_
 obtain ⟨t9,h10,H⟩:=bd H
 refine plq E S en56 (qAC.calls k x y _ _ _ _ _ _ _ _ _ S.own.sub g0_4 g0_5 g0_6 h10) fun u8 S a E=>plc E (.r 3 1 .nil) fun a E=>pld (hK7 _ _ (rr E fun a E=>(E.ikn 16 H (fun c12 E H=>?_) fun c12 E H=>?_)))
 refine wp_skip (hK6 _ _ (sq fun K15 hK15=>sq fun K16 hK16=>pl0 ?_))
 have hb4:=S.ba 0
 refine plc E (.r 0 1<|.b 1 0 hb4<|.nil) fun a E=>pld (hK16 _ _ (wp_block (rr E fun a E=>(E.ik 20 H (fun c18 E H=>?_) fun c18 E H=>?_))))
 refine sq fun K19 hK19=>?_
 refine drawn 10 ⟨[8],[],fun q=>False⟩ mixed rfl (by kernel_rfl) fun hst=>?_
 have S:=S.drew
 have hb2:=S.ba 1
 have hb4:=S.ba 0
 refine mny 8 hst E (.bn 0 0 7 hb2<|.bn 1 0 5 hb4<|.nil) fun a E=>?_
 obtain ⟨t20,h21,H⟩:=bd H
 obtain ⟨t29,h30,H⟩:=bd H
 refine meet2 (fun a w'=>∃(G:NV)(b27:Nat)(A39:OA)(c40:Nat)(A33:OA)(c34:Nat)(A36:OA)(c37:Nat)(F47:World),Env 73 G a/\At G [(3,.pointer (pb b4)),(7,.pointer (pb b27)),(27,.agg (mA t29.1 A33 c34 A36 c37 A39 c40)),(28,iv t29.2)]/\Sm W F w' F47 [box b27 #[iv 0,iv 0,iv 0,iv 0,.slice none 0 0,.slice none 0 0,.slice none 0 0] 26,box b4 #[iv y.f0,iv y.f1,iv y.f2,iv y.f3,iv y.f4] 65,box b2 (mA x A0_4 c0_4 A0_5 c0_5 A0_6 c0_6) 26,row qC.k 73 (.slice A39 t29.1.f6.length c40) t29.1.f6]/\Rd qA.k F47 A33 c34 t29.1.f4/\Rd qE.k F47 A36 c37 t29.1.f5/\Rd qA.k F47 A0_4 c0_4 x.f4/\Rd qE.k F47 A0_5 c0_5 x.f5/\Rd qC.k F47 A0_6 c0_6 x.f6) 2 255 ?_ fun hJb=>?_
 rintro a u48 ⟨G,b27,A39,c40,A33,c34,A36,c37,F47,E,A,S,g35,g38,g0_4,g0_5,g0_6⟩
 obtain ⟨J,E⟩:=E.at A
 refine on1 8 E (.sto S (mL t29.1 A33 c34 A36 c37 A39 c40)) ?_
 rintro _ u49 a ⟨rfl,hb27,S,hz⟩ E
 refine ⟨.d,?_⟩
 refine mny 0 hst E (.r 9 1 .nil) fun a E=>?_
 refine dn ?_
 refine hK19 _ _ (sq fun K50 hK50=>?_)
 refine drawn 12 ⟨[9],[],fun q=>False⟩ mixed rfl (by kernel_rfl) fun hst=>?_
 have S:=S.drew
 have hb4:=S.ba 1
 have hb27:=S.ba 0
 refine mny 6 hst E (.bn 0 0 5 hb4<|.bn 3 0 7 hb27<|.r 4 1<|.b 5 1 hb4<|.r 6 1<|.b 7 4 hb4<|.nil) fun a E=>?_
 obtain ⟨t52,h53,H⟩:=bd H
 refine on1 1 E (.cl en57 (qCP.calls y _ _ _ S.own.sub h53)) ?_
 rintro _ u51 a ⟨F54,A55,c56,rfl,hC,g57⟩ E
 refine ⟨.of hC.agr,?_⟩
 have hs:=hC.sub
 have S:=S.called (X:=[]) hC
 have g35:=g35.mono hs
 have g38:=g38.mono hs
 have g0_4:=g0_4.mono hs
 have g0_5:=g0_5.mono hs
 have g0_6:=g0_6.mono hs
 obtain ⟨t58,h59,H⟩:=bd H
 refine meet2 (fun a w'=>∃(G:NV)(A68:OA)(c69:Nat)(A61:OA)(c62:Nat)(F73:World),Env 73 G a/\At G [(31,.slice A61 ([t52].length) c62),(37,.slice A68 t58.length c69)]/\Sm W F w' F73 [box b27 (mA t29.1 A33 c34 A36 c37 A39 c40) 26,box b4 #[iv y.f0,iv y.f1,iv y.f2,iv y.f3,iv y.f4] 65,box b2 (mA x A0_4 c0_4 A0_5 c0_5 A0_6 c0_6) 26,row qF.k 29 (.slice A68 t58.length c69) t58,row qF.k 29 (.slice A61 ([t52].length) c62) [t52]]/\Rd qA.k F73 A33 c34 t29.1.f4/\Rd qE.k F73 A36 c37 t29.1.f5/\Rd qC.k F73 A39 c40 t29.1.f6/\Rd qA.k F73 A0_4 c0_4 x.f4/\Rd qE.k F73 A0_5 c0_5 x.f5/\Rd qC.k F73 A0_6 c0_6 x.f6) 3 511 ?_ fun hJ=>?_
 rintro a u74 ⟨G,A68,c69,A61,c62,F73,E,A,S,g35,g38,g65,g0_4,g0_5,g0_6⟩
 obtain ⟨J,E⟩:=E.at A
 obtain ⟨c75,H⟩:=gd H
 have S:=S.front 4 rfl
 refine on1 9 E (.ap (d:=qF.k) 72 S (qCj (S.row_at (i:=4) rfl)) c75 c69) ?_
 rintro _ u78 a ⟨A76,c77,rfl,S,hz⟩ E
 refine ⟨.d,?_⟩
 refine mny 0 hst E (.r 10 2 .nil) fun a E=>?_
 refine dn ?_
 refine hK50 _ _ (wp_ret (qCd (qCc ?_)))
 have S:=S.pm [0] 5
 obtain rfl:=si H
 exact rtN E ⟨_,rfl,_,_,_,rfl,S⟩
 refine pk2 2 8 ?_ ?_
 refine pk1 2 E (.lit (d:=qF.k) (e:=29) S [t52] (.cons ⟨_,_,rfl,g57⟩ .nil)) ?_
 rintro _ u60 a ⟨A61,c62,rfl,S,hg⟩ E
 refine ⟨.of hg,?_⟩
 have S:=S.front 4 rfl
 obtain ⟨F64,hs,g65,S⟩:=S.give
 have g35:=g35.mono hs
 have g38:=g38.mono hs
 have g57:=g57.mono hs
 have g0_4:=g0_4.mono hs
 have g0_5:=g0_5.mono hs
 have g0_6:=g0_6.mono hs
 refine on1 8 E (.cl en58 (qAb.calls k t29.1 y.f1 y.f4 _ _ _ _ _ _ _ _ _ S.own.sub g35 g38 g65 h59)) ?_
 rintro _ u66 a ⟨F67,A68,c69,rfl,hC⟩ E
 refine ⟨.of hC.agr,?_⟩
 have hs:=hC.sub
 have S:=S.called (X:=[]) hC
 have g35:=g35.mono hs
 have g38:=g38.mono hs
 have g65:=g65.mono hs
 have g57:=g57.mono hs
 have g0_4:=g0_4.mono hs
 have g0_5:=g0_5.mono hs
 have g0_6:=g0_6.mono hs
 have S:=S.pm [2,3,4,0,1] 5
 exact hJ _ _ ⟨_,A68,c69,A61,c62,F67,E,.of,S,g35,g38,g65,g0_4,g0_5,g0_6⟩
 have S:=S.front 3 rfl
 obtain ⟨F64,hs,g65,S⟩:=S.give
 have g35:=g35.mono hs
 have g38:=g38.mono hs
 have g57:=g57.mono hs
 have g0_4:=g0_4.mono hs
 have g0_5:=g0_5.mono hs
 have g0_6:=g0_6.mono hs
 refine pk1 8 E (.cl en58 (qAb.calls k t29.1 y.f1 y.f4 _ _ _ _ _ _ _ _ _ S.own.sub g35 g38 g65 h59)) ?_
 rintro _ u66 a ⟨F67,A68,c69,rfl,hC⟩ E
 refine ⟨.of hC.agr,?_⟩
 have hs:=hC.sub
 have S:=S.called (X:=[]) hC
 have g35:=g35.mono hs
 have g38:=g38.mono hs
 have g65:=g65.mono hs
 have g57:=g57.mono hs
 have g0_4:=g0_4.mono hs
 have g0_5:=g0_5.mono hs
 have g0_6:=g0_6.mono hs
 refine on1 2 E (.lit (d:=qF.k) (e:=29) S [t52] (.cons ⟨_,_,rfl,g57⟩ .nil)) ?_
 rintro _ u60 a ⟨A61,c62,rfl,S,hg⟩ E
 refine ⟨.of hg,?_⟩
 have S:=S.pm [2,3,4,1,0] 5
 exact hJ _ _ ⟨_,A68,c69,A61,c62,F67,E,.of,S,g35,g38,g65,g0_4,g0_5,g0_6⟩
 refine meet2 (fun a w'=>∃(G:NV)(b27:Nat)(A24:OA)(c25:Nat)(F44:World),Env 73 G a/\At G [(3,.pointer (pb b4)),(7,.pointer (pb b27)),(23,.agg (mA x A0_4 c0_4 A0_5 c0_5 A0_6 c0_6)),(25,.agg (dA t20 A24 c25))]/\Sm W F w' F44 [box b27 #[iv 0,iv 0,iv 0,iv 0,.slice none 0 0,.slice none 0 0,.slice none 0 0] 26,box b4 #[iv y.f0,iv y.f1,iv y.f2,iv y.f3,iv y.f4] 65,box b2 (mA x A0_4 c0_4 A0_5 c0_5 A0_6 c0_6) 26]/\Rd qA.k F44 A0_4 c0_4 x.f4/\Rd qE.k F44 A0_5 c0_5 x.f5/\Rd qC.k F44 A0_6 c0_6 x.f6/\Rd ki F44 A24 c25 t20.f6) 6 135 ?_ fun hJ=>?_
 rintro a u45 ⟨G,b27,A24,c25,F44,E,A,S,g0_4,g0_5,g0_6,g26⟩
 obtain ⟨J,E⟩:=E.at A
 refine on1 3 E (.cl en39 (qAz.calls k x t20 _ _ _ _ _ _ _ _ _ _ _ S.own.sub g0_4 g0_5 g0_6 g26 h30)) ?_
 rintro _ u31 a ⟨F32,A33,c34,A36,c37,A39,c40,rfl,hC,g35,g38⟩ E
 refine ⟨.of hC.agr,?_⟩
 have hs:=hC.sub
 have S:=S.called (X:=[]) hC
 have g0_4:=g0_4.mono hs
 have g0_5:=g0_5.mono hs
 have g0_6:=g0_6.mono hs
 have g26:=g26.mono hs
 refine mny 2 hst E (.r 4 3 .nil) fun a E=>?_
 have S:=S.pm [1,2,3,0] 4
 exact hJb _ _ ⟨_,b27,A39,c40,A33,c34,A36,c37,F32,E,.of,S,g35,g38,g0_4,g0_5,g0_6⟩
 refine pk2 2 7 ?_ ?_
 refine pk1 2 E (.cl en57 (qCP.calls y _ _ _ S.own.sub h21)) ?_
 rintro _ u22 a ⟨F23,A24,c25,rfl,hC,g26⟩ E
 refine ⟨.of hC.agr,?_⟩
 have hs:=hC.sub
 have S:=S.called (X:=[]) hC
 have g0_4:=g0_4.mono hs
 have g0_5:=g0_5.mono hs
 have g0_6:=g0_6.mono hs
 refine pk2 7 3 ?_ ?_
 refine pk1 7 E (.al (t:=26) S [iv 0,iv 0,iv 0,iv 0,.slice none 0 0,.slice none 0 0,.slice none 0 0]) ?_
 rintro _ u28 a ⟨b27,rfl,hb27,S,hg⟩ E
 refine ⟨.of hg,?_⟩
 exact hJ _ _ ⟨_,b27,A24,c25,F23,E,.of,S,g0_4,g0_5,g0_6,g26⟩
 refine pk1 3 E (.cl en39 (qAz.calls k x t20 _ _ _ _ _ _ _ _ _ _ _ S.own.sub g0_4 g0_5 g0_6 g26 h30)) ?_
 rintro _ u31 a ⟨F32,A33,c34,A36,c37,A39,c40,rfl,hC,g35,g38⟩ E
 refine ⟨.of hC.agr,?_⟩
 have hs:=hC.sub
 have S:=S.called (X:=[]) hC
 have g0_4:=g0_4.mono hs
 have g0_5:=g0_5.mono hs
 have g0_6:=g0_6.mono hs
 have g26:=g26.mono hs
 refine mny 3 hst E (.r 4 3 .nil) fun a E=>?_
 refine on1 7 E (.al (t:=26) S [iv 0,iv 0,iv 0,iv 0,.slice none 0 0,.slice none 0 0,.slice none 0 0]) ?_
 rintro _ u28 a ⟨b27,rfl,hb27,S,hg⟩ E
 refine ⟨.of hg,?_⟩
 have S:=S.pm [0,2,3,1] 4
 exact hJb _ _ ⟨_,b27,A39,c40,A33,c34,A36,c37,F32,E,.of,S,g35,g38,g0_4,g0_5,g0_6⟩
 refine pk1 7 E (.al (t:=26) S [iv 0,iv 0,iv 0,iv 0,.slice none 0 0,.slice none 0 0,.slice none 0 0]) ?_
 rintro _ u28 a ⟨b27,rfl,hb27,S,hg⟩ E
 refine ⟨.of hg,?_⟩
 refine on1 2 E (.cl en57 (qCP.calls y _ _ _ S.own.sub h21)) ?_
 rintro _ u22 a ⟨F23,A24,c25,rfl,hC,g26⟩ E
 refine ⟨.of hC.agr,?_⟩
 have hs:=hC.sub
 have S:=S.called (X:=[]) hC
 have g0_4:=g0_4.mono hs
 have g0_5:=g0_5.mono hs
 have g0_6:=g0_6.mono hs
 exact hJ _ _ ⟨_,b27,A24,c25,F23,E,.of,S,g0_4,g0_5,g0_6,g26⟩
 refine rr E fun a E=>(E.ik 39 H (fun c80 E H=>?_) fun c80 E H=>?_)
 refine sq fun K81 hK81=>pl0 (plc E (.bn 0 0 7 (S.ba 1)<|.r 1 1<|.b 2 1 hb4<|.nil) fun a E=>?_)
 obtain ⟨t83,h84,H⟩:=bd H
 refine ple E (.cl en58 (qAb.calls k x y.f1 0 _ _ _ _ _ _ _ _ _ S.own.sub g0_4 g0_5 g0_6 h84)) ?_
 rintro _ u82 a ⟨F85,A86,c87,rfl,hC⟩ E
 have hs:=hC.sub
 have S:=S.called (X:=[]) hC
 have g0_4:=g0_4.mono hs
 have g0_5:=g0_5.mono hs
 have g0_6:=g0_6.mono hs
 refine plc E (.r 4 1 .nil) fun a E=>pld (hK81 _ _ (sq fun K90 hK90=>?_))
 have J115:∀ kq113,kq113<=k->∀(G:NV)(A109:OA)(c110:Nat)(l111:List qF)(a:Act)(w':World),Env 73 G a->At G [(3,.pointer (pb b4)),(9,.slice A109 l111.length c110)]->Sm W F w' F85 [box b4 #[iv y.f0,iv y.f1,iv y.f2,iv y.f3,iv y.f4] 65,box b2 (mA x A0_4 c0_4 A0_5 c0_5 A0_6 c0_6) 26,row qF.k 29 (.slice A109 l111.length c110) l111]->qBd.j112 kq113 y l111=some r->K90 a w':=by
  intro kq113 hkq G A109 c110 l111 a u116 E A S H
  obtain _ | k114:=kq113
  exact zz H
  rw [qBd.j112_s]at H
  obtain ⟨J,E⟩:=E.at A
  refine hK90 _ _ (sq fun K117 hK117=>pl0 (plc E (.r 0 2<|.b 2 1 (S.ba 0)<|.r 3 1<|.nil) fun a E=>ple E (.lit (d:=qF.k) (e:=29) S [(⟨7,y.f1,0,0,0,0,[]⟩:qF)] (.cons ⟨none,0,rfl,Rd.nil _ _⟩ .nil)) ?_))
  rintro _ u118 a ⟨A119,c120,rfl,S,hg⟩ E
  obtain ⟨c122,H⟩:=gd H
  have S:=S.front 3 rfl
  refine ple E (.ap (d:=qF.k) 72 S (qCj (S.row_at (i:=1) rfl)) c122 c120) ?_
  rintro _ u125 a ⟨A123,c124,rfl,S,hz⟩ E
  refine plc E (.r 6 2 .nil) fun a E=>pld (hK117 _ _ (wp_ret (qCd (qCc ?_))))
  have S:=S.pm [0] 4
  obtain rfl:=si H
  exact rtN E ⟨_,rfl,_,_,_,rfl,S⟩
 refine sq fun K91 hK91=>pl0 ?_
 have hb4:=S.ba 1
 refine plc E (.r 0 1<|.b 1 4 (S.ba 2)<|.r 2 1<|.b 3 1 hb4<|.nil) fun a E=>?_
 obtain ⟨t93,h94,H⟩:=bd H
 refine plq E S en59 (qBN.calls k x.f4 y.f1 _ _ _ _ _ S.own.sub g0_4 h94) fun u92 S a E=>plc E (.r 5 3 .nil) fun a E=>pla (t:=68) E S [iv 0,iv 0,iv 0,iv 0,.bool false,.bool false] fun b95 u96 hb95 S a E=>pls E S (nL t93.1) fun u97 hb95 S a E=>plc E (.r 10 1 .nil) fun a E=>pld (hK91 _ _ (rg E (.r 0 1<|.b 1 5 hb95<|.nil) fun a E=>(E.ib 54 H (fun c99 E H=>?_) fun c99 E H=>?_)))
 refine pl0 (plc E (.r 0 2<|.b 2 1 (S.ba 2)<|.r 3 1<|.nil) fun a E=>ple E (.lit (d:=qF.k) (e:=29) S [(⟨5,y.f1,0,0,0,0,[]⟩:qF)] (.cons ⟨none,0,rfl,Rd.nil _ _⟩ .nil)) ?_)
 rintro _ u100 a ⟨A101,c102,rfl,S,hg⟩ E
 obtain ⟨c104,H⟩:=gd H
 have S:=S.front 2 rfl
 refine ple E (.ap (d:=qF.k) 72 S (qCj (S.row_at (i:=1) rfl)) c104 c102) ?_
 rintro _ u107 a ⟨A105,c106,rfl,S,hz⟩ E
 refine plc E (.r 6 1 .nil) fun a E=>pld ?_
 have S:=S.pm [3,4,0] 5
 exact J115 _ (by omega) _ A105 c106 (t83++[(⟨5,y.f1,0,0,0,0,[]⟩:qF)]) _ _ E .of S H
 refine wp_skip ?_
 have S:=S.pm [2,3,1] 4
 exact J115 _ (by omega) _ A86 c87 t83 _ _ E .of S H
 refine wp_skip ?_
 refine qCe ?_
 refine hK15 _ _ (sq fun K126 hK126=>?_)
 refine drawn 8 ⟨[],[],fun q=>False⟩ mixed rfl (by kernel_rfl) fun hst=>?_
 have S:=S.drew
 have hb2:=S.ba 1
 have hb4:=S.ba 0
 refine mny 4 hst E (.bn 0 0 7 hb2<|.r 1 1<|.b 2 1 hb4<|.bn 3 0 5 hb4<|.nil) fun a E=>?_
 obtain ⟨t128,h129,H⟩:=bd H
 refine on1 4 E (.cl en60 (qBK.calls k y _ _ _ S.own.sub h129)) ?_
 rintro _ u127 a ⟨_,rfl,hC⟩ E
 refine ⟨.of hC.agr,?_⟩
 have S:=S.lent hC
 obtain ⟨t131,h132,H⟩:=bd H
 refine on1 5 E (.cl en58 (qAb.calls k x y.f1 t128 _ _ _ _ _ _ _ _ _ S.own.sub g0_4 g0_5 g0_6 h132)) ?_
 rintro _ u130 a ⟨F133,A134,c135,rfl,hC⟩ E
 refine ⟨.of hC.agr,?_⟩
 have S:=S.called (X:=[]) hC
 refine mny 0 hst E (.r 6 2 .nil) fun a E=>?_
 refine dn ?_
 refine hK126 _ _ (wp_ret ?_)
 have S:=S.pm [0] 3
 obtain rfl:=si H
 exact rtN E ⟨_,rfl,_,_,_,rfl,S⟩
 refine rr E fun a E=>(wp_ret (qCc ?_))
 have S:=S.nilrow qF.k 29
 have S:=S.pm [0] 3
 obtain rfl:=si H
 exact rtN E ⟨_,rfl,_,_,_,rfl,S⟩
mutual
def qw.j29:Nat->qD × Int->Bool->Option qD
 | 0,_,_=>none
 | k+1,t10,y28=>if y28=true then (qw.j37 k t10 (w64 (t10.1.f0+1))) else (qw.j37 k t10 t10.1.f0)
def qw.j37:Nat->qD × Int->Int->Option qD
 | 0,_,_=>none
 | k+1,t10,x36=>some (⟨x36,t10.1.f1,t10.1.f2,t10.1.f3,t10.1.f4,t10.1.f5,t10.1.f6⟩:qD)
end
theorem qw.j29_s k t10 y28:type_of% (qw.j29.eq_2 t10 y28 k):=qw.j29.eq_2 t10 y28 k
theorem qw.j37_s k t10 x36:type_of% (qw.j37.eq_2 t10 x36 k):=qw.j37.eq_2 t10 x36 k
def qw.f(k:Nat)(x:qD)(y:qF):Option qD:=(qt.f k x y).bind fun t10=>(if t10.2=0 then (qw.j29 k t10 false) else (qw.j29 k t10 (decide (x.f0<2147483647))))
def qw.Post(W F:World)(r:qD)(v:Value)(w':World):Prop:=∃(F':World)(RA0_4:OA)(rc0_4:Nat)(RA0_5:OA)(rc0_5:Nat)(RA0_6:OA)(rc0_6:Nat),v = .agg (mA r RA0_4 rc0_4 RA0_5 rc0_5 RA0_6 rc0_6)/\Sm W F w' F' []/\Rd qA.k F' RA0_4 rc0_4 r.f4/\Rd qE.k F' RA0_5 rc0_5 r.f5/\Rd qC.k F' RA0_6 rc0_6 r.f6
theorem qw.calls(k:Nat)(x:qD)(y:qF)(A0_4:OA)(c0_4:Nat)(A0_5:OA)(c0_5:Nat)(A0_6:OA)(c0_6:Nat)(A1_6:OA)(c1_6:Nat)(r:qD)(W F:World)(hown:Sub F W)(g0_4:Rd qA.k F A0_4 c0_4 x.f4)(g0_5:Rd qE.k F A0_5 c0_5 x.f5)(g0_6:Rd qC.k F A0_6 c0_6 x.f6)(g1_6:Rd ki F A1_6 c1_6 y.f6)(H:qw.f k x y=some r):
    Cr 33 #[.agg (mA x A0_4 c0_4 A0_5 c0_5 A0_6 c0_6),.agg (dA y A1_6 c1_6)] W (qw.Post W F r):=by
 have S:=sT hown
 unfold qw.f at H
 refine ent 25 rfl rfl rfl fun a E=>?_
 refine sq fun K1 hK1=>pl0 (plx (t:=26) E S (mL x A0_4 c0_4 A0_5 c0_5 A0_6 c0_6) fun b2 u3 hb2 S a E=>plx (t:=29) E S (dL y A1_6 c1_6) fun b4 u5 hb4 S a E=>pla (t:=26) E S [iv 0,iv 0,iv 0,iv 0,.slice none 0 0,.slice none 0 0,.slice none 0 0] fun b6 u7 hb6 S a E=>pld (hK1 _ _ (sq fun K8 hK8=>pl0 (plc E (.bn 0 0 7 (S.ba 2)<|.bn 1 0 7 (S.ba 1)<|.nil) fun a E=>?_))))
 obtain ⟨t10,h11,H⟩:=bd H
 refine ple E (.cl en14 (qt.calls k x y _ _ _ _ _ _ _ _ _ _ _ S.own.sub g0_4 g0_5 g0_6 g1_6 h11)) ?_
 rintro _ u9 a ⟨F12,A13,c14,A16,c17,A19,c20,rfl,hC,g15,g18,g21⟩ E
 have S:=S.called (X:=[]) hC
 refine plc E (.r 3 3 .nil) fun a E=>pla (t:=26) E S [iv 0,iv 0,iv 0,iv 0,.slice none 0 0,.slice none 0 0,.slice none 0 0] fun b22 u23 hb22 S a E=>pls E S (mL t10.1 A13 c14 A16 c17 A19 c20) fun u24 hb22 S a E=>plc E (.r 8 1 .nil) fun a E=>pld (hK8 _ _ (sq fun K25 hK25=>?_))
 have J40:∀ kq38,kq38<=k->∀(G:NV)(x36:Int)(a:Act)(w':World),Env 25 G a->At G [(4,.pointer (pb b6)),(5,.pointer (pb b22))]->Sm W F w' F12 [box b22 #[iv x36,iv t10.1.f1,iv t10.1.f2,iv t10.1.f3,.slice A13 t10.1.f4.length c14,.slice A16 t10.1.f5.length c17,.slice A19 t10.1.f6.length c20] 26,box b6 #[iv 0,iv 0,iv 0,iv 0,.slice none 0 0,.slice none 0 0,.slice none 0 0] 26,box b4 (dA y A1_6 c1_6) 29,box b2 (mA x A0_4 c0_4 A0_5 c0_5 A0_6 c0_6) 26]->qw.j37 kq38 t10 x36=some r->K25 a w':=by
  intro kq38 hkq G x36 a u41 E A S H
  obtain _ | k39:=kq38
  exact zz H
  rw [qw.j37_s]at H
  obtain ⟨J,E⟩:=E.at A
  refine hK25 _ _ (sq fun K42 hK42=>pl0 (plc E (.bn 0 0 7 (S.ba 0) .nil) fun a E=>?_))
  have S:=S.front 1 rfl
  refine pls E S [iv x36,iv t10.1.f1,iv t10.1.f2,iv t10.1.f3,.slice A13 t10.1.f4.length c14,.slice A16 t10.1.f5.length c17,.slice A19 t10.1.f6.length c20] fun u43 hb6 S a E=>pld (hK42 _ _ (wp_ret ?_))
  have S:=S.pm [] 4
  obtain rfl:=si H
  exact ret1 E rfl (.cell (by kernel_rfl) (qCw [iv x36,iv t10.1.f1,iv t10.1.f2,iv t10.1.f3,.slice A13 t10.1.f4.length c14,.slice A16 t10.1.f5.length c17,.slice A19 t10.1.f6.length c20] ag26 sz26 hb6 rfl) .nil) ⟨_,rfl,_,_,_,_,_,_,_,rfl,S,g15,g18,g21⟩
 refine sq fun K26 hK26=>?_
 have J32:∀ kq30,kq30<=k->∀(G:NV)(y28:Bool)(a:Act)(w':World),Env 25 G a->At G [(4,.pointer (pb b6)),(5,.pointer (pb b22)),(19,.bool y28)]->Sm W F w' F12 [box b22 (mA t10.1 A13 c14 A16 c17 A19 c20) 26,box b6 #[iv 0,iv 0,iv 0,iv 0,.slice none 0 0,.slice none 0 0,.slice none 0 0] 26,box b4 (dA y A1_6 c1_6) 29,box b2 (mA x A0_4 c0_4 A0_5 c0_5 A0_6 c0_6) 26]->qw.j29 kq30 t10 y28=some r->K26 a w':=by
  intro kq30 hkq G y28 a u33 E A S H
  obtain _ | k31:=kq30
  exact zz H
  rw [qw.j29_s]at H
  obtain ⟨J,E⟩:=E.at A
  refine hK26 _ _ (E.ib 19 H (fun c34 E H=>?_) fun c34 E H=>?_)
  refine pl0 (plc E (.r 0 1<|.b 1 0 (S.ba 0)<|.r 2 2<|.nil) fun a E=>pls E S [iv (w64 (t10.1.f0+1)),iv t10.1.f1,iv t10.1.f2,iv t10.1.f3,.slice A13 t10.1.f4.length c14,.slice A16 t10.1.f5.length c17,.slice A19 t10.1.f6.length c20] fun u35 hb22 S a E=>pld ?_)
  exact J40 _ (by omega) _ (w64 (t10.1.f0+1)) _ _ E .of S H
  refine wp_skip ?_
  exact J40 _ (by omega) _ t10.1.f0 _ _ E .of S H
 refine pl0 (plc E (.r 0 3 .nil) fun a E=>E.fkn 15 H (fun c27 E H=>?_) fun c27 E H=>?_)
 refine plc E (.r 3 4 .nil) fun a E=>pld ?_
 exact J32 _ (by omega) _ false _ _ E .of S H
 refine plc E (.r 3 1<|.b 4 0 (S.ba 3)<|.r 5 2<|.nil) fun a E=>pld ?_
 exact J32 _ (by omega) _ (decide (x.f0<2147483647)) _ _ E .of S H
def qBF.j37:Nat->qAN->qA × Bool->Bool->Option Bool
 | 0,_,_,_=>none
 | k+1,y,t15,y36=>if y36=true then (if t15.2=true then (some (t15.1.f3 == y.f4)) else (some false)) else (if y.f0=4 then (some (!t15.2)) else (some false))
theorem qBF.j37_s k y t15 y36:type_of% (qBF.j37.eq_2 y t15 y36 k):=qBF.j37.eq_2 y t15 y36 k
def qBF.f(k:Nat)(x:qD)(y:qAN):Option Bool:=(qAF.f k x).bind fun t9=>(if t9=0 then ((qBN.f k x.f4 y.f1).bind fun t15=>(if y.f0=1 then (if t15.1.f3=0 then ((qBC.f k x y.f1).bind fun t27=>(some (!t27))) else (if t15.1.f5=true then (some false) else ((qBC.f k x y.f1).bind fun t31=>(some (!t31))))) else (if y.f0=2 then (qBF.j37 k y t15 true) else (qBF.j37 k y t15 (y.f0 == 3))))) else (some false))
def qBF.Post(W F:World)(r:Bool)(v:Value)(w':World):Prop:=∃(F':World),v = .bool r/\Sm W F w' F' []
theorem qBF.calls(k:Nat)(x:qD)(y:qAN)(A0_4:OA)(c0_4:Nat)(A0_5:OA)(c0_5:Nat)(A0_6:OA)(c0_6:Nat)(r:Bool)(W F:World)(hown:Sub F W)(g0_4:Rd qA.k F A0_4 c0_4 x.f4)(g0_5:Rd qE.k F A0_5 c0_5 x.f5)(g0_6:Rd qC.k F A0_6 c0_6 x.f6)(H:qBF.f k x y=some r):
    Cr 36 #[.agg (mA x A0_4 c0_4 A0_5 c0_5 A0_6 c0_6),.agg #[iv y.f0,iv y.f1,iv y.f2,iv y.f3,iv y.f4]] W (qBF.Post W F r):=by
 have S:=sT hown
 unfold qBF.f at H
 refine ent 52 rfl rfl rfl fun a E=>?_
 refine sq fun K1 hK1=>pl0 (plx (t:=26) E S (mL x A0_4 c0_4 A0_5 c0_5 A0_6 c0_6) fun b2 u3 hb2 S a E=>plx (t:=65) E S [iv y.f0,iv y.f1,iv y.f2,iv y.f3,iv y.f4] fun b4 u5 hb4 S a E=>plc E (.r 2 1 .nil) fun a E=>pld (hK1 _ _ (sq fun K6 hK6=>sq fun K7 hK7=>pl0 ?_)))
 have hb2:=S.ba 1
 refine plc E (.bn 0 0 7 hb2 .nil) fun a E=>?_
 obtain ⟨t9,h10,H⟩:=bd H
 refine plq E S en65 (qAF.calls k x _ _ _ _ _ _ _ _ _ S.own.sub g0_4 g0_5 g0_6 h10) fun u8 S a E=>plc E (.r 2 1 .nil) fun a E=>pld (hK7 _ _ (E.ikn 9 H (fun c11 E H=>?_) fun c11 E H=>?_))
 refine wp_skip (hK6 _ _ (sq fun K13 hK13=>pl0 ?_))
 have hb2:=S.ba 1
 refine plc E (.r 0 1<|.b 1 4 hb2<|.r 2 1<|.b 3 1 (S.ba 0)<|.nil) fun a E=>?_
 obtain ⟨t15,h16,H⟩:=bd H
 refine plq E S en59 (qBN.calls k x.f4 y.f1 _ _ _ _ _ S.own.sub g0_4 h16) fun u14 S a E=>plc E (.r 5 3 .nil) fun a E=>pla (t:=68) E S [iv 0,iv 0,iv 0,iv 0,.bool false,.bool false] fun b17 u18 hb17 S a E=>pls E S (nL t15.1) fun u19 hb17 S a E=>plc E (.r 10 1 .nil) fun a E=>pld (hK13 _ _ (sq fun K20 hK20=>sq fun K21 hK21=>pl0 ?_))
 have hb4:=S.ba 1
 refine plc E (.r 0 1<|.b 1 0 hb4<|.nil) fun a E=>pld (hK21 _ _ (wp_block (rr E fun a E=>(E.ik 20 H (fun c23 E H=>?_) fun c23 E H=>?_))))
 refine sq fun K24 hK24=>pl0 (plc E (.r 0 1<|.b 1 3 hb17<|.r 2 2<|.nil) fun a E=>E.fk 25 H (fun c25 E H=>?_) fun c25 E H=>?_)
 refine plc E (.r 4 5<|.bn 9 0 7 (S.ba 2)<|.r 10 1<|.b 11 1 hb4<|.nil) fun a E=>?_
 obtain ⟨t27,h28,H⟩:=bd H
 refine plq E S en66 (qBC.calls k x y.f1 _ _ _ _ _ _ _ _ _ S.own.sub g0_4 g0_5 g0_6 h28) fun u26 S a E=>plc E (.r 13 3 .nil) fun a E=>pld (hK24 _ _ (wp_ret (qCd (qCc ?_))))
 have S:=S.pm [] 3
 obtain rfl:=si H
 exact rt1 E ⟨_,rfl,_,rfl,S⟩
 refine plc E (.r 4 1<|.b 5 5 hb17<|.r 6 3<|.nil) fun a E=>E.fbn 30 H (fun c29 E H=>?_) fun c29 E H=>?_
 refine plc E (.r 9 7 .nil) fun a E=>pld (hK24 _ _ (wp_ret (qCd (qCc ?_))))
 have S:=S.pm [] 3
 obtain rfl:=si H
 exact rt1 E ⟨_,rfl,_,rfl,S⟩
 refine plc E (.bn 9 0 7 (S.ba 2)<|.r 10 1<|.b 11 1 hb4<|.nil) fun a E=>?_
 obtain ⟨t31,h32,H⟩:=bd H
 refine plq E S en66 (qBC.calls k x y.f1 _ _ _ _ _ _ _ _ _ S.own.sub g0_4 g0_5 g0_6 h32) fun u30 S a E=>plc E (.r 13 3 .nil) fun a E=>pld (hK24 _ _ (wp_ret (qCd (qCc ?_))))
 have S:=S.pm [] 3
 obtain rfl:=si H
 exact rt1 E ⟨_,rfl,_,rfl,S⟩
 refine sq fun K33 hK33=>?_
 have J40:∀ kq38,kq38<=k->∀(G:NV)(y36:Bool)(a:Act)(w':World),Env 52 G a->At G [(3,.pointer (pb b4)),(5,.pointer (pb b17)),(6,.bool t15.2),(19,iv y.f0),(37,.bool y36)]->Sm W F w' F [box b17 (nA t15.1) 68,box b4 #[iv y.f0,iv y.f1,iv y.f2,iv y.f3,iv y.f4] 65,box b2 (mA x A0_4 c0_4 A0_5 c0_5 A0_6 c0_6) 26]->qBF.j37 kq38 y t15 y36=some r->K33 a w':=by
  intro kq38 hkq G y36 a u41 E A S H
  obtain _ | k39:=kq38
  exact zz H
  rw [qBF.j37_s]at H
  obtain ⟨J,E⟩:=E.at A
  refine hK33 _ _ (E.ib 37 H (fun c42 E H=>?_) fun c42 E H=>?_)
  refine sq fun K43 hK43=>pl0 (plc E (.r 0 2 .nil) fun a E=>E.fb 41 H (fun c44 E H=>?_) fun c44 E H=>?_)
  refine plc E (.r 2 1<|.b 3 3 (S.ba 0)<|.r 4 1<|.b 5 4 (S.ba 1)<|.r 6 3<|.nil) fun a E=>pld (hK43 _ _ (wp_ret (qCd (qCc ?_))))
  have S:=S.pm [] 3
  obtain rfl:=si H
  exact rt1 E ⟨_,rfl,_,rfl,S⟩
  refine plc E (.r 2 7 .nil) fun a E=>pld (hK43 _ _ (wp_ret (qCd (qCc ?_))))
  have S:=S.pm [] 3
  obtain rfl:=si H
  exact rt1 E ⟨_,rfl,_,rfl,S⟩
  refine rr E fun a E=>(E.ik 48 H (fun c46 E H=>?_) fun c46 E H=>?_)
  refine rr E fun a E=>(wp_ret (qCd (qCc ?_)))
  have S:=S.pm [] 3
  obtain rfl:=si H
  exact rt1 E ⟨_,rfl,_,rfl,S⟩
  refine wp_skip ?_
  refine qCe ?_
  refine hK20 _ _ (rr E fun a E=>(wp_ret ?_))
  have S:=S.pm [] 3
  obtain rfl:=si H
  exact rt1 E ⟨_,rfl,_,rfl,S⟩
 refine rr E fun a E=>(E.ik 37 H (fun c35 E H=>?_) fun c35 E H=>?_)
 refine wp_skip ?_
 exact J40 _ (by omega) _ true _ _ E .of S H
 refine pl0 (plc E (.r 0 2 .nil) fun a E=>pld ?_)
 exact J40 _ (by omega) _ (y.f0 == 3) _ _ E .of S H
 refine rr E fun a E=>(wp_ret (qCc ?_))
 have S:=S.pm [] 2
 obtain rfl:=si H
 exact rt1 E ⟨_,rfl,_,rfl,S⟩
end Go.Proofs.YthgfhlbjkmjlpaaGreat.GD
