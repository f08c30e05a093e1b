import Derived.Test.YthgfhlbjkmjlpaaGreatGN8
namespace Go.Proofs.YthgfhlbjkmjlpaaGreat.GN
open Go Go.RowKit Go.Proofs.YthgfhlbjkmjlpaaGreat.Sl
set_option linter.unusedVariables false
set_option linter.unusedSimpArgs false
set_option maxHeartbeats 4000000
set_option maxRecDepth 100000
mutual
def qAs.j20:Nat→qAH→qE→List Bool→Bool→Option (qAH × qF × Int)
 | 0,_,_,_,_=>none
 | k+1,x,y,z,y19=>if y19=true then (some ((⟨[],0,0⟩:qAH),(⟨0,0,0,0,0,0,[]⟩:qF),1)) else ((qBe.f k x).bind fun t33=>(qAs.l43 k y z t33 t33.f1))
def qAs.l43:Nat→qE→List Bool→qAH→Int→Option (qAH × qF × Int)
 | 0,_,_,_,_=>none
 | k+1,y,z,t33,x42=>if x42<(t33.f0.length:Int) then (if 0≤x42∧x42<(t33.f0.length:Int) then ((qBz.f k y (nth qF.z t33.f0 x42)).bind fun t60=>(qAs.j63 k y z t33 x42 t60)) else (none)) else (qAs.j63 k y z t33 x42 false)
def qAs.j63:Nat→qE→List Bool→qAH→Int→Bool→Option (qAH × qF × Int)
 | 0,_,_,_,_,_=>none
 | k+1,y,z,t33,x42,y62=>if y62=true then (qAs.l43 k y z t33 (w64 (x42+1))) else (if x42=(t33.f0.length:Int) then (some ((⟨t33.f0,x42,t33.f2⟩:qAH),(⟨0,0,0,0,0,0,[]⟩:qF),5)) else (if 0≤x42∧x42<(t33.f0.length:Int) then ((qAl.f k y (nth qF.z t33.f0 x42) z t33.f2).bind fun t93=>(if t93=0 then ((qAP.f ((nth qF.z t33.f0 x42).f6)).bind fun t103=>(some ((⟨t33.f0,x42,t33.f2⟩:qAH),(⟨(nth qF.z t33.f0 x42).f0,(nth qF.z t33.f0 x42).f1,(nth qF.z t33.f0 x42).f2,(nth qF.z t33.f0 x42).f3,(nth qF.z t33.f0 x42).f4,(nth qF.z t33.f0 x42).f5,t103⟩:qF),0))) else (some ((⟨t33.f0,x42,t33.f2⟩:qAH),(⟨0,0,0,0,0,0,[]⟩:qF),t93)))) else (none)))
end
theorem qAs.j20_s k x y z y19:type_of% (qAs.j20.eq_2 x y z y19 k):=qAs.j20.eq_2 x y z y19 k
theorem qAs.l43_s k y z t33 x42:type_of% (qAs.l43.eq_2 y z t33 x42 k):=qAs.l43.eq_2 y z t33 x42 k
theorem qAs.j63_s k y z t33 x42 y62:type_of% (qAs.j63.eq_2 y z t33 x42 y62 k):=qAs.j63.eq_2 y z t33 x42 y62 k
def qAs.f(k:Nat)(x:qAH)(y:qE)(z:List Bool):Option (qAH × qF × Int):=(qBE.f k x).bind fun t13=>(if t13=0 then ((qBi.f k y z).bind fun t17=>(qAs.j20 k x y z (!t17))) else (qAs.j20 k x y z true))
def qAs.Post(W F:World)(r:qAH × qF × Int)(v:Value)(w':World):Prop:=∃(F':World)(RA0_0:OA)(rc0_0:Nat)(RA1_6:OA)(rc1_6:Nat),v = .tuple #[.agg #[.slice RA0_0 r.1.f0.length rc0_0,iv r.1.f1,iv r.1.f2],.agg #[iv r.2.1.f0,iv r.2.1.f1,iv r.2.1.f2,iv r.2.1.f3,iv r.2.1.f4,iv r.2.1.f5,.slice RA1_6 r.2.1.f6.length rc1_6],iv r.2.2]∧Sm W F w' F' [row qF.k 29 (.slice RA0_0 r.1.f0.length rc0_0) r.1.f0,row ki 3 (.slice RA1_6 r.2.1.f6.length rc1_6) r.2.1.f6]
theorem qAs.calls(k:Nat)(x:qAH)(y:qE)(z:List Bool)(A0_0:OA)(c0_0:Nat)(A1_4:OA)(c1_4:Nat)(A1_5:OA)(c1_5:Nat)(A1_6:OA)(c1_6:Nat)(A2_0:OA)(c2_0:Nat)(r:qAH × qF × Int)(W F:World)(hown:Sub F W)(g0_0:Rd qF.k F A0_0 c0_0 x.f0)(g1_4:Rd qA.k F A1_4 c1_4 y.f4)(g1_5:Rd qD.k F A1_5 c1_5 y.f5)(g1_6:Rd qC.k F A1_6 c1_6 y.f6)(g2_0:Rd Kn.bool F A2_0 c2_0 z)(H:qAs.f k x y z=some r):
    Cr 24 #[.agg #[.slice A0_0 x.f0.length c0_0,iv x.f1,iv x.f2],.agg #[iv y.f0,iv y.f1,iv y.f2,iv y.f3,.slice A1_4 y.f4.length c1_4,.slice A1_5 y.f5.length c1_5,.slice A1_6 y.f6.length c1_6],.slice A2_0 z.length c2_0] W (qAs.Post W F r):=by
 have S:=sT hown
 unfold qAs.f at H
 refine ent 75 rfl rfl rfl (fun a E=>?_)
 refine sq fun K1 hK1=>pl0 (plx (t:=50) E S [.slice A0_0 x.f0.length c0_0,iv x.f1,iv x.f2] fun b2 u3 hb2 S a E=>plx (t:=26) E S [iv y.f0,iv y.f1,iv y.f2,iv y.f3,.slice A1_4 y.f4.length c1_4,.slice A1_5 y.f5.length c1_5,.slice A1_6 y.f6.length c1_6] fun b4 u5 hb4 S a E=>pla (t:=50) E S [.slice none 0 0,iv 0,iv 0] fun b6 u7 hb6 S a E=>pla (t:=29) E S [iv 0,iv 0,iv 0,iv 0,iv 0,iv 0,.slice none 0 0] fun b8 u9 hb8 S a E=>plc E (.r 4 1 .nil) (fun a E=>pld (hK1 _ _ (sq fun K10 hK10=>sq fun K11 hK11=>?_))))
 have J23:∀ kq21,kq21≤k→∀(G:NV)(y19:Bool)(a:Act)(w':World),Env 75 G a→At G [(2,.slice A2_0 z.length c2_0),(3,.pointer (pb b2)),(4,.pointer (pb b4)),(6,.pointer (pb b6)),(7,.pointer (pb b8)),(19,.bool y19)]→Sm W F w' F [box b8 #[iv 0,iv 0,iv 0,iv 0,iv 0,iv 0,.slice none 0 0] 29,box b6 #[.slice none 0 0,iv 0,iv 0] 50,box b4 #[iv y.f0,iv y.f1,iv y.f2,iv y.f3,.slice A1_4 y.f4.length c1_4,.slice A1_5 y.f5.length c1_5,.slice A1_6 y.f6.length c1_6] 26,box b2 #[.slice A0_0 x.f0.length c0_0,iv x.f1,iv x.f2] 50]→qAs.j20 kq21 x y z y19=some r→K11 a w':=by
  intro kq21 hkq G y19 a u24 E A S H
  obtain _ | k22:=kq21
  exact zz H
  rw [qAs.j20_s]at H
  obtain ⟨J,E⟩:=E.at A
  refine hK11 _ _ (E.ib 19 H (fun c25 E H=>?_) fun c25 E H=>?_)
  refine sq fun K26 hK26=>pl0 (plc E (.r 0 2 .nil) (fun a E=>?_))
  replace S:=S.front 1 rfl
  refine pls E S [.slice none 0 0,iv 0,iv 0] fun u27 hb6 S a E=>?_
  replace S:=S.front 1 rfl
  refine pls E S [iv 0,iv 0,iv 0,iv 0,iv 0,iv 0,.slice none 0 0] fun u28 hb8 S a E=>plc E (.r 4 1 .nil) (fun a E=>pld (hK26 _ _ (wp_ret (qCV ?_))))
  have hb6:=S.ba 1
  replace S:=S.nilrow qF.k 29
  replace S:=S.nilrow ki 3
  replace S:=S.pm [1,0] 6
  obtain rfl:=si H
  exact rtm E (.b hb6 ag50 sz50 (.b hb8 ag29 sz29 (.t .nil))) ⟨_,rfl,_,_,_,_,_,rfl,S⟩
  refine wp_skip (hK10 _ _ (sq fun K31 hK31=>pl0 (plc E (.bn 0 0 3 (S.ba 3) .nil) (fun a E=>?_))))
  obtain ⟨t33,h34,H⟩:=bd H
  refine ple E (.cl en52 (qBe.calls k22 x _ _ _ _ _ S.own.sub g0_0 h34)) ?_
  rintro _ u32 a ⟨F35,A36,c37,rfl,hC⟩ E
  have hs:=hC.sub
  replace S:=S.called (X:=[]) hC
  replace g2_0:=g2_0.mono hs
  replace g0_0:=g0_0.mono hs
  replace g1_4:=g1_4.mono hs
  replace g1_5:=g1_5.mono hs
  replace g1_6:=g1_6.mono hs
  replace S:=S.front 4 rfl
  refine pls E S [.slice A36 t33.f0.length c37,iv t33.f1,iv t33.f2] fun u40 hb2 S a E=>pld (hK31 _ _ (sq fun K41 hK41=>wp_block ?_))
  replace S:=S.pm [0,2,3,4,1] 5
  refine wp_loop_ghost (fun kq44 a w'=>∃(G:NV)(x42:Int),kq44≤k22∧Env 75 G a∧At G [(2,.slice A2_0 z.length c2_0),(3,.pointer (pb b2)),(4,.pointer (pb b4)),(6,.pointer (pb b6)),(7,.pointer (pb b8))]∧Sm W F w' F35 [box b2 #[.slice A36 t33.f0.length c37,iv x42,iv t33.f2] 50,box b8 #[iv 0,iv 0,iv 0,iv 0,iv 0,iv 0,.slice none 0 0] 29,box b6 #[.slice none 0 0,iv 0,iv 0] 50,box b4 #[iv y.f0,iv y.f1,iv y.f2,iv y.f3,.slice A1_4 y.f4.length c1_4,.slice A1_5 y.f5.length c1_5,.slice A1_6 y.f6.length c1_6] 26,row qF.k 29 (.slice A36 t33.f0.length c37) t33.f0]∧qAs.l43 kq44 y z t33 x42=some r) k22 ⟨_,t33.f1,Nat.le_refl _,E,.of,S,H⟩ ?_
  rintro kq44 a u46 ⟨G,x42,hkq,E,A,S,H⟩
  obtain _ | k45:=kq44
  exact zz H
  rw [qAs.l43_s]at H
  obtain ⟨J,E⟩:=E.at A
  refine sq fun K47 hK47=>sq fun K48 hK48=>?_
  have J66:∀ kq64,kq64≤k45→∀(G:NV)(y62:Bool)(a:Act)(w':World),Env 75 G a→At G [(2,.slice A2_0 z.length c2_0),(3,.pointer (pb b2)),(4,.pointer (pb b4)),(6,.pointer (pb b6)),(7,.pointer (pb b8)),(39,.bool y62)]→Sm W F w' F35 [box b2 #[.slice A36 t33.f0.length c37,iv x42,iv t33.f2] 50,box b8 #[iv 0,iv 0,iv 0,iv 0,iv 0,iv 0,.slice none 0 0] 29,box b6 #[.slice none 0 0,iv 0,iv 0] 50,box b4 #[iv y.f0,iv y.f1,iv y.f2,iv y.f3,.slice A1_4 y.f4.length c1_4,.slice A1_5 y.f5.length c1_5,.slice A1_6 y.f6.length c1_6] 26,row qF.k 29 (.slice A36 t33.f0.length c37) t33.f0]→qAs.j63 kq64 y z t33 x42 y62=some r→K48 a w':=by
   intro kq64 hkq G y62 a u67 E A S H
   obtain _ | k65:=kq64
   exact zz H
   rw [qAs.j63_s]at H
   obtain ⟨J,E⟩:=E.at A
   refine hK48 _ _ (E.ib 39 H (fun c68 E H=>?_) fun c68 E H=>?_)
   refine wp_skip (hK47 _ _ (wp_block (pl0 (plc E (.r 0 1<|.b 1 1 (S.ba 0)<|.r 2 2<|.nil) (fun a E=>pls E S [.slice A36 t33.f0.length c37,iv (w64 (x42+1)),iv t33.f2] fun u69 hb2 S a E=>pld ?_)))))
   refine qCX ?_
   exact qCY ⟨k65,by omega,_,(w64 (x42+1)),by omega,E,.of,S,H⟩
   refine wp_exit ?_
   refine hK41 _ _ (sq fun K70 hK70=>sq fun K71 hK71=>pl0 ?_)
   have hb2:=S.ba 0
   refine plc E (.r 0 1<|.b 1 1 hb2<|.r 2 1<|.b 3 0 hb2<|.r 4 2<|.nil) (fun a E=>pld (hK71 _ _ (E.ik 49 H (fun c72 E H=>?_) fun c72 E H=>?_)))
   refine sq fun K73 hK73=>pl0 (plc E (.bn 0 0 3 hb2<|.r 1 1<|.nil) (fun a E=>?_))
   replace S:=S.front 2 rfl
   refine pls E S [.slice A36 t33.f0.length c37,iv x42,iv t33.f2] fun u74 hb6 S a E=>?_
   replace S:=S.front 2 rfl
   refine pls E S [iv 0,iv 0,iv 0,iv 0,iv 0,iv 0,.slice none 0 0] fun u75 hb8 S a E=>plc E (.r 4 1 .nil) (fun a E=>pld (hK73 _ _ (wp_ret (qCV ?_))))
   have hb6:=S.ba 1
   replace S:=S.nilrow ki 3
   replace S:=S.pm [5,0] 6
   obtain rfl:=si H
   exact rtm E (.b hb6 ag50 sz50 (.b hb8 ag29 sz29 (.t .nil))) ⟨_,rfl,_,_,_,_,_,rfl,S⟩
   refine wp_skip (hK70 _ _ (sq fun K77 hK77=>pl0 ?_))
   obtain ⟨c78,H⟩:=gd H
   have hr79:=S.ra 4
   have hE_:=E
   obtain ⟨b80,rfl⟩:=qCb hr79 c78.1 c78.2
   replace E:=hE_
   have hr_:=S.ra 4
   obtain ⟨cs82,⟨A84,c85,rfl,g86⟩,hc83⟩:=qCa hr_ qF.z x42 c78.1 c78.2
   refine plc E (.r 0 1<|.b 1 0 hb2<|.r 2 1<|.b 3 1 hb2<|.x 4 c78<|.cs 5 hc83<|.nil) (fun a E=>pla (t:=29) E S [iv 0,iv 0,iv 0,iv 0,iv 0,iv 0,.slice none 0 0] fun b87 u88 hb87 S a E=>pls E S [iv ((nth qF.z t33.f0 x42).f0),iv ((nth qF.z t33.f0 x42).f1),iv ((nth qF.z t33.f0 x42).f2),iv ((nth qF.z t33.f0 x42).f3),iv ((nth qF.z t33.f0 x42).f4),iv ((nth qF.z t33.f0 x42).f5),.slice A84 (((nth qF.z t33.f0 x42).f6).length) c85] fun u89 hb87 S a E=>pld (hK77 _ _ (sq fun K90 hK90=>sq fun K91 hK91=>pl0 ?_)))
   have hb2:=S.ba 1
   refine plc E (.bn 0 0 7 (S.ba 4)<|.bn 1 0 7 hb87<|.r 2 2<|.b 4 2 hb2<|.nil) (fun a E=>?_)
   obtain ⟨t93,h94,H⟩:=bd H
   refine plq E S en12 (qAl.calls k65 y (nth qF.z t33.f0 x42) z t33.f2 _ _ _ _ _ _ _ _ _ _ _ _ _ S.own.sub g1_4 g1_5 g1_6 g86 g2_0 h94) fun u92 S a E=>plc E (.r 6 1 .nil) (fun a E=>pld (hK91 _ _ (rr E fun a E=>(E.ikn 65 H (fun c96 E H=>?_) fun c96 E H=>?_))))
   refine wp_skip (hK90 _ _ (sq fun K101 hK101=>pl0 (plc E (.r 0 1<|.b 1 6 (S.ba 0)<|.nil) (fun a E=>?_))))
   obtain ⟨t103,h104,H⟩:=bd H
   refine ple E (.cl en54 (qAP.calls ((nth qF.z t33.f0 x42).f6) _ _ _ _ _ S.own.sub g86 h104)) ?_
   rintro _ u102 a ⟨F105,A106,c107,rfl,hC⟩ E
   have hs:=hC.sub
   replace S:=S.called (X:=[]) hC
   replace g2_0:=g2_0.mono hs
   replace g86:=g86.mono hs
   replace g1_4:=g1_4.mono hs
   replace g1_5:=g1_5.mono hs
   replace g1_6:=g1_6.mono hs
   refine plc E (.r 3 1 .nil) (fun a E=>?_)
   replace S:=S.front 1 rfl
   refine pls E S [iv ((nth qF.z t33.f0 x42).f0),iv ((nth qF.z t33.f0 x42).f1),iv ((nth qF.z t33.f0 x42).f2),iv ((nth qF.z t33.f0 x42).f3),iv ((nth qF.z t33.f0 x42).f4),iv ((nth qF.z t33.f0 x42).f5),.slice A106 t103.length c107] fun u110 hb87 S a E=>pld (hK101 _ _ (sq fun K111 hK111=>?_))
   refine drawn 5 ⟨[2,3],[2,3],fun q=>q=b6∨q=b8⟩ mixed rfl (by kernel_rfl) (fun hst=>?_)
   replace S:=S.drew
   have hb2:=S.ba 2
   have ne112:¬ (b87=b6∨b87=b8):=by rintro (h | h) <;> first | exact S.ne (i:=0) (j:=4) rfl rfl (by decide) h | exact S.ne (i:=0) (j:=3) rfl rfl (by decide) h
   have hb87:=S.ba 0
   refine mny 3 hst E (.bn 0 0 3 hb2<|.bnX 1 0 7 hb87 ne112<|.nil) (fun a E=>?_)
   replace S:=S.front 4 rfl
   refine on1 2 E (.stx S [.slice (pb b80) t33.f0.length c37,iv x42,iv t33.f2]) ?_
   rintro _ u113 a ⟨⟨rfl,hb6,S,hz⟩,hx⟩ E
   refine ⟨.c (hx.mono (by intro q h; subst h; simp)),?_⟩
   replace S:=S.front 4 rfl
   refine on1 3 E (.stx S [iv ((nth qF.z t33.f0 x42).f0),iv ((nth qF.z t33.f0 x42).f1),iv ((nth qF.z t33.f0 x42).f2),iv ((nth qF.z t33.f0 x42).f3),iv ((nth qF.z t33.f0 x42).f4),iv ((nth qF.z t33.f0 x42).f5),.slice A106 t103.length c107]) ?_
   rintro _ u114 a ⟨⟨rfl,hb8,S,hz⟩,hx⟩ E
   refine ⟨.c (hx.mono (by intro q h; subst h; simp)),?_⟩
   refine mny 0 hst E (.r 4 1 .nil) (fun a E=>?_)
   refine dn ?_
   refine hK111 _ _ (wp_ret ?_)
   have hb6:=S.ba 1
   replace S:=S.pm [6,3] 7
   obtain rfl:=si H
   exact rtm E (.b hb6 ag50 sz50 (.b hb8 ag29 sz29 (.t .nil))) ⟨_,rfl,_,_,_,_,_,rfl,S⟩
   refine sq fun K97 hK97=>pl0 (plc E (.bn 0 0 3 (S.ba 1)<|.r 1 2<|.nil) (fun a E=>?_))
   replace S:=S.front 3 rfl
   refine pls E S [.slice (pb b80) t33.f0.length c37,iv x42,iv t33.f2] fun u98 hb6 S a E=>?_
   replace S:=S.front 3 rfl
   refine pls E S [iv 0,iv 0,iv 0,iv 0,iv 0,iv 0,.slice none 0 0] fun u99 hb8 S a E=>plc E (.r 5 1 .nil) (fun a E=>pld (hK97 _ _ (wp_ret (qCV ?_))))
   have hb6:=S.ba 1
   replace S:=S.nilrow ki 3
   replace S:=S.pm [6,0] 7
   obtain rfl:=si H
   exact rtm E (.b hb6 ag50 sz50 (.b hb8 ag29 sz29 (.t .nil))) ⟨_,rfl,_,_,_,_,_,rfl,S⟩
  refine drawn 16 ⟨[],[],fun q=>False⟩ mixed rfl (by kernel_rfl) (fun hst=>?_)
  replace S:=S.drew
  have hb2:=S.ba 0
  refine mny 9 hst E (.r 0 1<|.b 1 1 hb2<|.r 2 1<|.b 3 0 hb2<|.r 4 3<|.nil) (fun a E=>?_)
  refine E.fk 30 H (fun c49 E H=>?_) fun c49 E H=>?_
  have hb4:=S.ba 3
  obtain ⟨c50,H⟩:=gd H
  have hr51:=S.ra 4
  have hE_:=E
  obtain ⟨b52,rfl⟩:=qCb hr51 c50.1 c50.2
  replace E:=hE_
  have hr_:=S.ra 4
  obtain ⟨cs54,⟨A56,c57,rfl,g58⟩,hc55⟩:=qCa hr_ qF.z x42 c50.1 c50.2
  refine mny 2 hst E (.bn 7 0 7 hb4<|.r 8 1<|.b 9 0 hb2<|.r 10 1<|.b 11 1 hb2<|.x 12 c50<|.cs 13 hc55<|.nil) (fun a E=>?_)
  obtain ⟨t60,h61,H⟩:=bd H
  refine on1 14 E (.cl en53 (qBz.calls k45 y (nth qF.z t33.f0 x42) _ _ _ _ _ _ _ _ _ _ _ S.own.sub g1_4 g1_5 g1_6 g58 h61)) ?_
  rintro _ u59 a ⟨_,rfl,hC⟩ E
  refine ⟨.of hC.agr,?_⟩
  replace S:=S.lent hC
  refine mny 0 hst E (.r 15 1 .nil) (fun a E=>?_)
  refine dn ?_
  exact J66 _ (by omega) _ t60 _ _ E .of S H
  refine mny 0 hst E (.r 7 9 .nil) (fun a E=>?_)
  refine dn ?_
  exact J66 _ (by omega) _ false _ _ E .of S H
 refine pl0 (plc E (.bn 0 0 3 (S.ba 3) .nil) (fun a E=>?_))
 obtain ⟨t13,h14,H⟩:=bd H
 refine plq E S en25 (qBE.calls k x _ _ _ _ _ S.own.sub g0_0 h14) fun u12 S a E=>plc E (.r 2 2 .nil) (fun a E=>E.fkn 14 H (fun c15 E H=>?_) fun c15 E H=>?_)
 refine plc E (.bn 4 0 7 (S.ba 2)<|.r 5 1<|.nil) (fun a E=>?_)
 obtain ⟨t17,h18,H⟩:=bd H
 refine plq E S en38 (qBi.calls k y z _ _ _ _ _ _ _ _ _ _ _ S.own.sub g1_4 g1_5 g1_6 g2_0 h18) fun u16 S a E=>plc E (.r 7 2 .nil) (fun a E=>pld ?_)
 exact J23 _ (by omega) _ (!t17) _ _ E .of S H
 refine plc E (.r 4 5 .nil) (fun a E=>pld ?_)
 exact J23 _ (by omega) _ true _ _ E .of S H
def qAz.f(x:qAH):Option Bool:=if (x.f0.length:Int)≤100 then (if x.f1≥0 then (if x.f1≤(x.f0.length:Int) then (if x.f2≥1 then (some (decide (x.f2≤8))) else (some false)) else (some false)) else (some false)) else (some false)
def qAz.Post(W F:World)(r:Bool)(v:Value)(w':World):Prop:=∃(F':World),v = .bool r∧Sm W F w' F' []
theorem qAz.calls(x:qAH)(A0_0:OA)(c0_0:Nat)(r:Bool)(W F:World)(hown:Sub F W)(g0_0:Rd qF.k F A0_0 c0_0 x.f0)(H:qAz.f x=some r):
    Cr 26 #[.agg #[.slice A0_0 x.f0.length c0_0,iv x.f1,iv x.f2]] W (qAz.Post W F r):=by
 have S:=sT hown
 unfold qAz.f at H
 refine ent 30 rfl rfl rfl (fun a E=>?_)
 refine sq fun K1 hK1=>pl0 (plx (t:=50) E S [.slice A0_0 x.f0.length c0_0,iv x.f1,iv x.f2] fun b2 u3 hb2 S a E=>plc E (.r 1 1 .nil) (fun a E=>pld (hK1 _ _ (sq fun K4 hK4=>pl0 (plc E (.r 0 1<|.b 1 0 hb2<|.r 2 3<|.nil) (fun a E=>E.fk 7 H (fun c5 E H=>?_) fun c5 E H=>?_))))))
 refine plc E (.r 5 1<|.b 6 1 hb2<|.r 7 3<|.nil) (fun a E=>E.fk 12 H (fun c6 E H=>?_) fun c6 E H=>?_)
 refine plc E (.r 10 1<|.b 11 1 hb2<|.r 12 1<|.b 13 0 hb2<|.r 14 4<|.nil) (fun a E=>E.fk 20 H (fun c7 E H=>?_) fun c7 E H=>?_)
 refine plc E (.r 18 1<|.b 19 2 hb2<|.r 20 3<|.nil) (fun a E=>E.fk 25 H (fun c8 E H=>?_) fun c8 E H=>?_)
 refine plc E (.r 23 1<|.b 24 2 hb2<|.r 25 3<|.nil) (fun a E=>pld (hK4 _ _ (wp_ret ?_)))
 replace S:=S.tail
 obtain rfl:=si H
 exact rt1 E ⟨_,rfl,_,rfl,S⟩
 refine plc E (.r 23 5 .nil) (fun a E=>pld (hK4 _ _ (wp_ret ?_)))
 replace S:=S.tail
 obtain rfl:=si H
 exact rt1 E ⟨_,rfl,_,rfl,S⟩
 refine plc E (.r 18 10 .nil) (fun a E=>pld (hK4 _ _ (wp_ret ?_)))
 replace S:=S.tail
 obtain rfl:=si H
 exact rt1 E ⟨_,rfl,_,rfl,S⟩
 refine plc E (.r 10 18 .nil) (fun a E=>pld (hK4 _ _ (wp_ret ?_)))
 replace S:=S.tail
 obtain rfl:=si H
 exact rt1 E ⟨_,rfl,_,rfl,S⟩
 refine plc E (.r 5 23 .nil) (fun a E=>pld (hK4 _ _ (wp_ret ?_)))
 replace S:=S.tail
 obtain rfl:=si H
 exact rt1 E ⟨_,rfl,_,rfl,S⟩
def qCD.f(k:Nat)(x:qAH):Option Int:=(qBE.f k x).bind fun t7=>(if t7=0 then (some (w64 ((x.f0.length:Int) - x.f1))) else (some 0))
def qCD.Post(W F:World)(r:Int)(v:Value)(w':World):Prop:=∃(F':World),v=iv r∧Sm W F w' F' []
theorem qCD.calls(k:Nat)(x:qAH)(A0_0:OA)(c0_0:Nat)(r:Int)(W F:World)(hown:Sub F W)(g0_0:Rd qF.k F A0_0 c0_0 x.f0)(H:qCD.f k x=some r):
    Cr 28 #[.agg #[.slice A0_0 x.f0.length c0_0,iv x.f1,iv x.f2]] W (qCD.Post W F r):=by
 have S:=sT hown
 unfold qCD.f at H
 refine ent 12 rfl rfl rfl (fun a E=>?_)
 refine sq fun K1 hK1=>pl0 (plx (t:=50) E S [.slice A0_0 x.f0.length c0_0,iv x.f1,iv x.f2] fun b2 u3 hb2 S a E=>plc E (.r 1 1 .nil) (fun a E=>pld (hK1 _ _ (sq fun K4 hK4=>sq fun K5 hK5=>pl0 (plc E (.bn 0 0 3 hb2 .nil) (fun a E=>?_))))))
 obtain ⟨t7,h8,H⟩:=bd H
 refine plq E S en25 (qBE.calls k x _ _ _ _ _ S.own.sub g0_0 h8) fun u6 S a E=>plc E (.r 2 1 .nil) (fun a E=>pld (hK5 _ _ (E.ikn 5 H (fun c9 E H=>?_) fun c9 E H=>?_)))
 refine wp_skip (hK4 _ _ (sq fun K11 hK11=>pl0 ?_))
 have hb2:=S.ba 0
 refine plc E (.r 0 1<|.b 1 0 hb2<|.r 2 2<|.b 4 1 hb2<|.r 5 2<|.nil) (fun a E=>pld (hK11 _ _ (wp_ret ?_)))
 replace S:=S.tail
 obtain rfl:=si H
 exact rt1 E ⟨_,rfl,_,rfl,S⟩
 refine rr E fun a E=>(wp_ret (qCV ?_))
 replace S:=S.tail
 obtain rfl:=si H
 exact rt1 E ⟨_,rfl,_,rfl,S⟩
mutual
def qg.l36:Nat→qE→qE × Int→List Int→Int→Option (List Int)
 | 0,_,_,_,_=>none
 | k+1,x,t13,l33,x34=>if x34<x.f3 then (qg.j44 k x t13 l33 x34 (t13.2 == 0)) else (qg.j44 k x t13 l33 x34 false)
def qg.j44:Nat→qE→qE × Int→List Int→Int→Bool→Option (List Int)
 | 0,_,_,_,_,_=>none
 | k+1,x,t13,l33,x34,y43=>if y43=true then ((qAR.f k x x34).bind fun t53=>((qAR.f k t13.1 x34).bind fun t60=>((qz.f k t53 t60).bind fun t67=>(if t67=true then ((qw.f k x x34).bind fun t71=>((qw.f k t13.1 x34).bind fun t79=>((qz.f k t71 t79).bind fun t87=>(qg.j91 k x t13 l33 x34 (!t87))))) else (qg.j91 k x t13 l33 x34 true))))) else (some l33)
def qg.j91:Nat→qE→qE × Int→List Int→Int→Bool→Option (List Int)
 | 0,_,_,_,_,_=>none
 | k+1,x,t13,l33,x34,y89=>if y89=true then (if ((l33.length:Int)+((1:Nat):Int)) * 8≤140737488355328 then (qg.l36 k x t13 (l33++[x34]) (w64 (x34+1))) else (none)) else (qg.l36 k x t13 l33 (w64 (x34+1)))
end
theorem qg.l36_s k x t13 l33 x34:type_of% (qg.l36.eq_2 x t13 l33 x34 k):=qg.l36.eq_2 x t13 l33 x34 k
theorem qg.j44_s k x t13 l33 x34 y43:type_of% (qg.j44.eq_2 x t13 l33 x34 y43 k):=qg.j44.eq_2 x t13 l33 x34 y43 k
theorem qg.j91_s k x t13 l33 x34 y89:type_of% (qg.j91.eq_2 x t13 l33 x34 y89 k):=qg.j91.eq_2 x t13 l33 x34 y89 k
def qg.f(k:Nat)(x:qE)(y:qF):Option (List Int):=(qq.f k x y).bind fun t13=>(qg.l36 k x t13 ([]:List Int) 0)
def qg.Post(W F:World)(r:List Int)(v:Value)(w':World):Prop:=∃(F':World)(RA0_0:OA)(rc0_0:Nat),v = .slice RA0_0 r.length rc0_0∧Sm W F w' F' [row ki 3 (.slice RA0_0 r.length rc0_0) r]
theorem qg.calls(k:Nat)(x:qE)(y:qF)(A0_4:OA)(c0_4:Nat)(A0_5:OA)(c0_5:Nat)(A0_6:OA)(c0_6:Nat)(A1_6:OA)(c1_6:Nat)(r:List Int)(W F:World)(hown:Sub F W)(g0_4:Rd qA.k F A0_4 c0_4 x.f4)(g0_5:Rd qD.k F A0_5 c0_5 x.f5)(g0_6:Rd qC.k F A0_6 c0_6 x.f6)(g1_6:Rd ki F A1_6 c1_6 y.f6)(H:qg.f k x y=some r):
    Cr 15 #[.agg #[iv x.f0,iv x.f1,iv x.f2,iv x.f3,.slice A0_4 x.f4.length c0_4,.slice A0_5 x.f5.length c0_5,.slice A0_6 x.f6.length c0_6],.agg #[iv y.f0,iv y.f1,iv y.f2,iv y.f3,iv y.f4,iv y.f5,.slice A1_6 y.f6.length c1_6]] W (qg.Post W F r):=by
 have S:=sT hown
 unfold qg.f at H
 refine ent 49 rfl rfl rfl (fun a E=>?_)
 refine sq fun K1 hK1=>pl0 (plx (t:=26) E S [iv x.f0,iv x.f1,iv x.f2,iv x.f3,.slice A0_4 x.f4.length c0_4,.slice A0_5 x.f5.length c0_5,.slice A0_6 x.f6.length c0_6] fun b2 u3 hb2 S a E=>plx (t:=29) E S [iv y.f0,iv y.f1,iv y.f2,iv y.f3,iv y.f4,iv y.f5,.slice A1_6 y.f6.length c1_6] fun b4 u5 hb4 S a E=>plc E (.r 2 1 .nil) (fun a E=>pld (hK1 _ _ (sq fun K6 hK6=>pl0 (ple E (.lit (d:=ki) (e:=3) S ([]:List Int) (.nil)) ?_)))))
 rintro _ u7 a ⟨A8,c9,rfl,S,hg⟩ E
 refine plc E (.r 1 1 .nil) (fun a E=>pld (hK6 _ _ (sq fun K11 hK11=>pl0 ?_)))
 have hb2:=S.ba 2
 refine plc E (.bn 0 0 7 hb2<|.bn 1 0 7 (S.ba 1)<|.nil) (fun a E=>?_)
 obtain ⟨t13,h14,H⟩:=bd H
 refine ple E (.cl en14 (qq.calls k x y _ _ _ _ _ _ _ _ _ _ _ S.own.sub g0_4 g0_5 g0_6 g1_6 h14)) ?_
 rintro _ u12 a ⟨F15,A16,c17,A19,c20,A22,c23,rfl,hC,g18,g21,g24⟩ E
 have hs:=hC.sub
 replace S:=S.called (X:=[]) hC
 replace g0_4:=g0_4.mono hs
 replace g0_5:=g0_5.mono hs
 replace g0_6:=g0_6.mono hs
 replace g1_6:=g1_6.mono hs
 refine plc E (.r 3 3 .nil) (fun a E=>pla (t:=26) E S [iv 0,iv 0,iv 0,iv 0,.slice none 0 0,.slice none 0 0,.slice none 0 0] fun b25 u26 hb25 S a E=>pls E S [iv t13.1.f0,iv t13.1.f1,iv t13.1.f2,iv t13.1.f3,.slice A16 t13.1.f4.length c17,.slice A19 t13.1.f5.length c20,.slice A22 t13.1.f6.length c23] fun u27 hb25 S a E=>plc E (.r 8 1 .nil) (fun a E=>pld (hK11 _ _ (sq fun K28 hK28=>rr E fun a E=>(wp_block ?_)))))
 replace S:=S.pm [0,2,3,1] 4
 refine wp_loop_ghost (fun kq37 a w'=>∃(G:NV)(A31:OA)(c32:Nat)(l33:List Int)(x34:Int)(F35:World),kq37≤k∧Env 49 G a∧At G [(2,.pointer (pb b2)),(5,.slice A31 l33.length c32),(6,.pointer (pb b25)),(7,iv t13.2),(8,iv x34)]∧Sm W F w' F35 [box b25 #[iv t13.1.f0,iv t13.1.f1,iv t13.1.f2,iv t13.1.f3,.slice A16 t13.1.f4.length c17,.slice A19 t13.1.f5.length c20,.slice A22 t13.1.f6.length c23] 26,box b4 #[iv y.f0,iv y.f1,iv y.f2,iv y.f3,iv y.f4,iv y.f5,.slice A1_6 y.f6.length c1_6] 29,box b2 #[iv x.f0,iv x.f1,iv x.f2,iv x.f3,.slice A0_4 x.f4.length c0_4,.slice A0_5 x.f5.length c0_5,.slice A0_6 x.f6.length c0_6] 26,row ki 3 (.slice A31 l33.length c32) l33]∧Rd qA.k F35 A16 c17 t13.1.f4∧Rd qD.k F35 A19 c20 t13.1.f5∧Rd qC.k F35 A22 c23 t13.1.f6∧Rd ki F35 A1_6 c1_6 y.f6∧Rd qA.k F35 A0_4 c0_4 x.f4∧Rd qD.k F35 A0_5 c0_5 x.f5∧Rd qC.k F35 A0_6 c0_6 x.f6∧qg.l36 kq37 x t13 l33 x34=some r) k ⟨_,A8,c9,([]:List Int),0,F15,Nat.le_refl _,E,.of,S,g18,g21,g24,g1_6,g0_4,g0_5,g0_6,H⟩ ?_
 rintro kq37 a u39 ⟨G,A31,c32,l33,x34,F35,hkq,E,A,S,g18,g21,g24,g1_6,g0_4,g0_5,g0_6,H⟩
 obtain _ | k38:=kq37
 exact zz H
 rw [qg.l36_s]at H
 obtain ⟨J,E⟩:=E.at A
 refine sq fun K40 hK40=>sq fun K41 hK41=>?_
 have J47:∀ kq45,kq45≤k38→∀(G:NV)(y43:Bool)(a:Act)(w':World),Env 49 G a→At G [(2,.pointer (pb b2)),(5,.slice A31 l33.length c32),(6,.pointer (pb b25)),(7,iv t13.2),(8,iv x34),(23,.bool y43)]→Sm W F w' F35 [box b25 #[iv t13.1.f0,iv t13.1.f1,iv t13.1.f2,iv t13.1.f3,.slice A16 t13.1.f4.length c17,.slice A19 t13.1.f5.length c20,.slice A22 t13.1.f6.length c23] 26,box b4 #[iv y.f0,iv y.f1,iv y.f2,iv y.f3,iv y.f4,iv y.f5,.slice A1_6 y.f6.length c1_6] 29,box b2 #[iv x.f0,iv x.f1,iv x.f2,iv x.f3,.slice A0_4 x.f4.length c0_4,.slice A0_5 x.f5.length c0_5,.slice A0_6 x.f6.length c0_6] 26,row ki 3 (.slice A31 l33.length c32) l33]→qg.j44 kq45 x t13 l33 x34 y43=some r→K41 a w':=by
  intro kq45 hkq G y43 a u48 E A S H
  obtain _ | k46:=kq45
  exact zz H
  rw [qg.j44_s]at H
  obtain ⟨J,E⟩:=E.at A
  refine hK41 _ _ (E.ib 23 H (fun c49 E H=>?_) fun c49 E H=>?_)
  refine wp_skip (hK40 _ _ (sq fun K50 hK50=>wp_block (sq fun K51 hK51=>?_)))
  have J94:∀ kq92,kq92≤k46→∀(G:NV)(y89:Bool)(F90:World)(a:Act)(w':World),Env 49 G a→At G [(2,.pointer (pb b2)),(5,.slice A31 l33.length c32),(6,.pointer (pb b25)),(7,iv t13.2),(8,iv x34),(43,.bool y89)]→Sm W F w' F90 [box b25 #[iv t13.1.f0,iv t13.1.f1,iv t13.1.f2,iv t13.1.f3,.slice A16 t13.1.f4.length c17,.slice A19 t13.1.f5.length c20,.slice A22 t13.1.f6.length c23] 26,box b4 #[iv y.f0,iv y.f1,iv y.f2,iv y.f3,iv y.f4,iv y.f5,.slice A1_6 y.f6.length c1_6] 29,box b2 #[iv x.f0,iv x.f1,iv x.f2,iv x.f3,.slice A0_4 x.f4.length c0_4,.slice A0_5 x.f5.length c0_5,.slice A0_6 x.f6.length c0_6] 26,row ki 3 (.slice A31 l33.length c32) l33]→Rd qA.k F90 A16 c17 t13.1.f4→Rd qD.k F90 A19 c20 t13.1.f5→Rd qC.k F90 A22 c23 t13.1.f6→Rd ki F90 A1_6 c1_6 y.f6→Rd qA.k F90 A0_4 c0_4 x.f4→Rd qD.k F90 A0_5 c0_5 x.f5→Rd qC.k F90 A0_6 c0_6 x.f6→qg.j91 kq92 x t13 l33 x34 y89=some r→K51 a w':=by
   intro kq92 hkq G y89 F90 a u95 E A S g18 g21 g24 g1_6 g0_4 g0_5 g0_6 H
   obtain _ | k93:=kq92
   exact zz H
   rw [qg.j91_s]at H
   obtain ⟨J,E⟩:=E.at A
   refine hK51 _ _ (E.ib 43 H (fun c96 E H=>?_) fun c96 E H=>?_)
   refine pl0 (plc E (.r 0 2 .nil) (fun a E=>ple E (.lit (d:=ki) (e:=3) S [x34] (.cons rfl .nil)) ?_))
   rintro _ u97 a ⟨A98,c99,rfl,S,hg⟩ E
   obtain ⟨c101,H⟩:=gd H
   replace S:=S.front 4 rfl
   refine ple E (.ap (d:=ki) 8 S (qCf (S.row_at (i:=1) rfl)) c101 c99) ?_
   rintro _ u104 a ⟨A102,c103,rfl,S,hz⟩ E
   refine plc E (.r 4 1 .nil) (fun a E=>pld ?_)
   refine qCX ?_
   refine hK50 _ _ (pl0 (plc E (.r 0 3 .nil) (fun a E=>pld ?_)))
   replace S:=S.pm [2,3,4,0] 5
   exact qCY ⟨k93,by omega,_,A102,c103,(l33++[x34]),(w64 (x34+1)),F90,by omega,E,.of,S,g18,g21,g24,g1_6,g0_4,g0_5,g0_6,H⟩
   refine wp_skip ?_
   refine qCX ?_
   refine hK50 _ _ (pl0 (plc E (.r 0 3 .nil) (fun a E=>pld ?_)))
   exact qCY ⟨k93,by omega,_,A31,c32,l33,(w64 (x34+1)),F90,by omega,E,.of,S,g18,g21,g24,g1_6,g0_4,g0_5,g0_6,H⟩
  refine drawn 18 ⟨[],[],fun q=>False⟩ mixed rfl (by kernel_rfl) (fun hst=>?_)
  replace S:=S.drew
  have hb2:=S.ba 2
  have hb25:=S.ba 0
  refine mny 14 hst E (.bn 0 0 7 hb2<|.r 1 1<|.bn 3 0 7 hb25<|.r 4 1<|.nil) (fun a E=>?_)
  obtain ⟨t53,h54,H⟩:=bd H
  refine on1 2 E (.cl en34 (qAR.calls k46 x x34 _ _ _ _ _ _ _ _ _ S.own.sub g0_4 g0_5 g0_6 h54)) ?_
  rintro _ u52 a ⟨F55,A56,c57,rfl,hC,g58⟩ E
  refine ⟨.of hC.agr,?_⟩
  have hs:=hC.sub
  replace S:=S.called (X:=[]) hC
  replace g0_4:=g0_4.mono hs
  replace g0_5:=g0_5.mono hs
  replace g0_6:=g0_6.mono hs
  replace g18:=g18.mono hs
  replace g21:=g21.mono hs
  replace g24:=g24.mono hs
  replace g1_6:=g1_6.mono hs
  obtain ⟨t60,h61,H⟩:=bd H
  refine on1 5 E (.cl en34 (qAR.calls k46 t13.1 x34 _ _ _ _ _ _ _ _ _ S.own.sub g18 g21 g24 h61)) ?_
  rintro _ u59 a ⟨F62,A63,c64,rfl,hC,g65⟩ E
  refine ⟨.of hC.agr,?_⟩
  have hs:=hC.sub
  replace S:=S.called (X:=[]) hC
  replace g0_4:=g0_4.mono hs
  replace g0_5:=g0_5.mono hs
  replace g0_6:=g0_6.mono hs
  replace g58:=g58.mono hs
  replace g18:=g18.mono hs
  replace g21:=g21.mono hs
  replace g24:=g24.mono hs
  replace g1_6:=g1_6.mono hs
  obtain ⟨t67,h68,H⟩:=bd H
  refine on1 6 E (.cl en23 (qz.calls k46 t53 t60 _ _ _ _ _ _ _ S.own.sub g58 g65 h68)) ?_
  rintro _ u66 a ⟨_,rfl,hC⟩ E
  refine ⟨.of hC.agr,?_⟩
  replace S:=S.lent hC
  refine mny 9 hst E (.r 7 2 .nil) (fun a E=>?_)
  refine E.fbn 34 H (fun c69 E H=>?_) fun c69 E H=>?_
  have hb2:=S.ba 2
  have hb25:=S.ba 0
  refine mny 5 hst E (.bn 9 0 7 hb2<|.r 10 1<|.bn 12 0 7 hb25<|.r 13 1<|.nil) (fun a E=>?_)
  obtain ⟨t71,h72,H⟩:=bd H
  refine on1 11 E (.cl en16 (qw.calls k46 x x34 _ _ _ _ _ _ _ _ _ S.own.sub g0_4 g0_5 g0_6 h72)) ?_
  rintro _ u70 a ⟨F73,A74,c75,rfl,hC⟩ E
  refine ⟨.of hC.agr,?_⟩
  have hs:=hC.sub
  replace S:=S.called (X:=[]) hC
  replace g0_4:=g0_4.mono hs
  replace g0_5:=g0_5.mono hs
  replace g0_6:=g0_6.mono hs
  replace g58:=g58.mono hs
  replace g18:=g18.mono hs
  replace g21:=g21.mono hs
  replace g24:=g24.mono hs
  replace g65:=g65.mono hs
  replace g1_6:=g1_6.mono hs
  obtain ⟨t79,h80,H⟩:=bd H
  refine on1 14 E (.cl en16 (qw.calls k46 t13.1 x34 _ _ _ _ _ _ _ _ _ S.own.sub g18 g21 g24 h80)) ?_
  rintro _ u78 a ⟨F81,A82,c83,rfl,hC⟩ E
  refine ⟨.of hC.agr,?_⟩
  have hs:=hC.sub
  replace S:=S.called (X:=[]) hC
  replace g0_4:=g0_4.mono hs
  replace g0_5:=g0_5.mono hs
  replace g0_6:=g0_6.mono hs
  replace g58:=g58.mono hs
  replace g18:=g18.mono hs
  replace g21:=g21.mono hs
  replace g24:=g24.mono hs
  replace g65:=g65.mono hs
  replace g1_6:=g1_6.mono hs
  obtain ⟨t87,h88,H⟩:=bd H
  refine on1 15 E (.cl en23 (qz.calls k46 t71 t79 _ _ _ _ _ _ _ (Sub.refl _) (S.rd_at (i:=1) rfl) (S.rd_at (i:=0) rfl) h88)) ?_
  rintro _ u86 a ⟨_,rfl,hC⟩ E
  refine ⟨.of hC.agr,?_⟩
  replace S:=S.lent hC
  refine mny 0 hst E (.r 16 2 .nil) (fun a E=>?_)
  refine dn ?_
  replace S:=S.pm [] 2
  exact J94 _ (by omega) _ (!t87) F81 _ _ E .of S g18 g21 g24 g1_6 g0_4 g0_5 g0_6 H
  refine mny 0 hst E (.r 9 9 .nil) (fun a E=>?_)
  refine dn ?_
  exact J94 _ (by omega) _ true F62 _ _ E .of S g18 g21 g24 g1_6 g0_4 g0_5 g0_6 H
  refine wp_exit ?_
  refine hK28 _ _ (rr E fun a E=>(wp_ret ?_))
  replace S:=S.pm [] 3
  obtain rfl:=si H
  exact rt1 E ⟨_,rfl,_,_,_,rfl,S⟩
 refine pl0 (plc E (.r 0 2<|.b 2 3 (S.ba 2)<|.r 3 2<|.nil) (fun a E=>E.fk 20 H (fun c42 E H=>?_) fun c42 E H=>?_))
 refine plc E (.r 5 3 .nil) (fun a E=>pld ?_)
 exact J47 _ (by omega) _ (t13.2 == 0) _ _ E .of S H
 refine plc E (.r 5 3 .nil) (fun a E=>pld ?_)
 exact J47 _ (by omega) _ false _ _ E .of S H
def qBJ.f(x:qE)(y:List Bool)(z:Int):Option Bool:=if 0≤z∧z<(y.length:Int) then (if (nth false y z)=true then (if 0≤z∧z<(x.f6.length:Int) then (some ((((nth qC.z x.f6 z).f1).length:Int) == 0)) else (none)) else (some false)) else (none)
def qBJ.Post(W F:World)(r:Bool)(v:Value)(w':World):Prop:=∃(F':World),v = .bool r∧Sm W F w' F' []
theorem qBJ.calls(x:qE)(y:List Bool)(z:Int)(A0_4:OA)(c0_4:Nat)(A0_5:OA)(c0_5:Nat)(A0_6:OA)(c0_6:Nat)(A1_0:OA)(c1_0:Nat)(r:Bool)(W F:World)(hown:Sub F W)(g0_4:Rd qA.k F A0_4 c0_4 x.f4)(g0_5:Rd qD.k F A0_5 c0_5 x.f5)(g0_6:Rd qC.k F A0_6 c0_6 x.f6)(g1_0:Rd Kn.bool F A1_0 c1_0 y)(H:qBJ.f x y z=some r):
    Cr 21 #[.agg #[iv x.f0,iv x.f1,iv x.f2,iv x.f3,.slice A0_4 x.f4.length c0_4,.slice A0_5 x.f5.length c0_5,.slice A0_6 x.f6.length c0_6],.slice A1_0 y.length c1_0,iv z] W (qBJ.Post W F r):=by
 have S:=sT hown
 unfold qBJ.f at H
 refine ent 21 rfl rfl rfl (fun a E=>?_)
 refine sq fun K1 hK1=>pl0 (plx (t:=26) E S [iv x.f0,iv x.f1,iv x.f2,iv x.f3,.slice A0_4 x.f4.length c0_4,.slice A0_5 x.f5.length c0_5,.slice A0_6 x.f6.length c0_6] fun b2 u3 hb2 S a E=>plc E (.r 1 1 .nil) (fun a E=>pld (hK1 _ _ (sq fun K4 hK4=>pl0 ?_))))
 obtain ⟨c5,H⟩:=gd H
 have hE_:=E
 obtain ⟨ad6,rfl⟩:=g1_0.addr c5.1 c5.2
 replace E:=hE_
 obtain ⟨cs8,rfl,hc9⟩:=g1_0.el false z c5.1 c5.2
 refine plc E (.r 0 2<|.x 2 c5<|.c 3 (S.fc hc9 0)<|.r 4 1<|.nil) (fun a E=>E.fb 11 H (fun c10 E H=>?_) fun c10 E H=>?_)
 obtain ⟨c11,H⟩:=gd H
 have hE_:=E
 obtain ⟨ad12,rfl⟩:=g0_6.addr c11.1 c11.2
 replace E:=hE_
 obtain ⟨cs14,⟨A16,c17,rfl,g18⟩,hc15⟩:=g0_6.el qC.z z c11.1 c11.2
 refine plc E (.r 5 1<|.b 6 6 hb2<|.r 7 1<|.x 8 c11<|.r 9 1<|.c 10 (S.fc hc15 1)<|.r 11 4<|.nil) (fun a E=>pld (hK4 _ _ (wp_ret ?_)))
 replace S:=S.tail
 obtain rfl:=si H
 exact rt1 E ⟨_,rfl,_,rfl,S⟩
 refine plc E (.r 5 10 .nil) (fun a E=>pld (hK4 _ _ (wp_ret ?_)))
 replace S:=S.tail
 obtain rfl:=si H
 exact rt1 E ⟨_,rfl,_,rfl,S⟩
mutual
def qQ.j14:Nat→qE→qF→List Bool→Int→Bool→Option Int
 | 0,_,_,_,_,_=>none
 | k+1,x,y,z,p,y13=>if y13=true then (some 1) else ((qq.f k x y).bind fun t23=>(if t23.2=0 then ((qg.f k x y).bind fun t44=>(qQ.l57 k x z p t23 t44 (t44.length:Int) 0)) else (some t23.2)))
def qQ.l57:Nat→qE→List Bool→Int→qE × Int→List Int→Int→Int→Option Int
 | 0,_,_,_,_,_,_,_=>none
 | k+1,x,z,p,t23,t44,x55,x56=>if x56<x.f3 then ((qBJ.f x z x56).bind fun t67=>(if t67=true then (qQ.l57 k x z p t23 t44 x55 (w64 (x56+1))) else (qQ.l57 k x z p t23 t44 (w64 (x55+1)) (w64 (x56+1))))) else (qQ.l74 k x z p t23 t44 x55 false 0)
def qQ.l74:Nat→qE→List Bool→Int→qE × Int→List Int→Int→Bool→Int→Option Int
 | 0,_,_,_,_,_,_,_,_=>none
 | k+1,x,z,p,t23,t44,x55,y72,x73=>if x73<(t44.length:Int) then (if y72=true then (qQ.l74 k x z p t23 t44 x55 true (w64 (x73+1))) else (if 0≤x73∧x73<(t44.length:Int) then ((qBJ.f x z (nth 0 t44 x73)).bind fun t90=>(qQ.l74 k x z p t23 t44 x55 (!t90) (w64 (x73+1)))) else (none))) else (if (t44.length:Int)>0 then (if y72=true then (qQ.j97 k x t23 t44 true) else (qQ.j97 k x t23 t44 (decide (x55>p)))) else (qQ.j97 k x t23 t44 false))
def qQ.j97:Nat→qE→qE × Int→List Int→Bool→Option Int
 | 0,_,_,_,_=>none
 | k+1,x,t23,t44,y96=>if y96=true then (some 11) else (qQ.l108 k x t23 t44 0)
def qQ.l108:Nat→qE→qE × Int→List Int→Int→Option Int
 | 0,_,_,_,_=>none
 | k+1,x,t23,t44,x106=>if x106<(t44.length:Int) then (if 0≤x106∧x106<(t44.length:Int) then ((qw.f k t23.1 (nth 0 t44 x106)).bind fun t124=>(if (t124.length:Int)<x.f2 then (qQ.j137 k x t23 t44 x106 true) else ((qo.f k t23.1.f4 t124).bind fun t134=>(qQ.j137 k x t23 t44 x106 (!t134))))) else (none)) else (some 0)
def qQ.j137:Nat→qE→qE × Int→List Int→Int→Bool→Option Int
 | 0,_,_,_,_,_=>none
 | k+1,x,t23,t44,x106,y136=>if y136=true then (some 12) else (qQ.l108 k x t23 t44 (w64 (x106+1)))
end
theorem qQ.j14_s k x y z p y13:type_of% (qQ.j14.eq_2 x y z p y13 k):=qQ.j14.eq_2 x y z p y13 k
theorem qQ.l57_s k x z p t23 t44 x55 x56:type_of% (qQ.l57.eq_2 x z p t23 t44 x55 x56 k):=qQ.l57.eq_2 x z p t23 t44 x55 x56 k
theorem qQ.l74_s k x z p t23 t44 x55 y72 x73:type_of% (qQ.l74.eq_2 x z p t23 t44 x55 y72 x73 k):=qQ.l74.eq_2 x z p t23 t44 x55 y72 x73 k
theorem qQ.j97_s k x t23 t44 y96:type_of% (qQ.j97.eq_2 x t23 t44 y96 k):=qQ.j97.eq_2 x t23 t44 y96 k
theorem qQ.l108_s k x t23 t44 x106:type_of% (qQ.l108.eq_2 x t23 t44 x106 k):=qQ.l108.eq_2 x t23 t44 x106 k
theorem qQ.j137_s k x t23 t44 x106 y136:type_of% (qQ.j137.eq_2 x t23 t44 x106 y136 k):=qQ.j137.eq_2 x t23 t44 x106 y136 k
def qQ.f(k:Nat)(x:qE)(y:qF)(z:List Bool)(p:Int):Option Int:=(qBC.f k x z).bind fun t9=>(if t9=true then (if p<1 then (qQ.j14 k x y z p true) else (qQ.j14 k x y z p (decide (p>8)))) else (qQ.j14 k x y z p true))
def qQ.Post(W F:World)(r:Int)(v:Value)(w':World):Prop:=∃(F':World),v=iv r∧Sm W F w' F' []
theorem qQ.calls(k:Nat)(x:qE)(y:qF)(z:List Bool)(p:Int)(A0_4:OA)(c0_4:Nat)(A0_5:OA)(c0_5:Nat)(A0_6:OA)(c0_6:Nat)(A1_6:OA)(c1_6:Nat)(A2_0:OA)(c2_0:Nat)(r:Int)(W F:World)(hown:Sub F W)(g0_4:Rd qA.k F A0_4 c0_4 x.f4)(g0_5:Rd qD.k F A0_5 c0_5 x.f5)(g0_6:Rd qC.k F A0_6 c0_6 x.f6)(g1_6:Rd ki F A1_6 c1_6 y.f6)(g2_0:Rd Kn.bool F A2_0 c2_0 z)(H:qQ.f k x y z p=some r):
    Cr 13 #[.agg #[iv x.f0,iv x.f1,iv x.f2,iv x.f3,.slice A0_4 x.f4.length c0_4,.slice A0_5 x.f5.length c0_5,.slice A0_6 x.f6.length c0_6],.agg #[iv y.f0,iv y.f1,iv y.f2,iv y.f3,iv y.f4,iv y.f5,.slice A1_6 y.f6.length c1_6],.slice A2_0 z.length c2_0,iv p] W (qQ.Post W F r):=by
 have S:=sT hown
 unfold qQ.f at H
 refine ent 109 rfl rfl rfl (fun a E=>?_)
 refine sq fun K1 hK1=>pl0 (plx (t:=26) E S [iv x.f0,iv x.f1,iv x.f2,iv x.f3,.slice A0_4 x.f4.length c0_4,.slice A0_5 x.f5.length c0_5,.slice A0_6 x.f6.length c0_6] fun b2 u3 hb2 S a E=>plx (t:=29) E S [iv y.f0,iv y.f1,iv y.f2,iv y.f3,iv y.f4,iv y.f5,.slice A1_6 y.f6.length c1_6] fun b4 u5 hb4 S a E=>plc E (.r 2 1 .nil) (fun a E=>pld (hK1 _ _ (sq fun K6 hK6=>sq fun K7 hK7=>?_))))
 have J17:∀ kq15,kq15≤k→∀(G:NV)(y13:Bool)(a:Act)(w':World),Env 109 G a→At G [(2,.slice A2_0 z.length c2_0),(3,iv p),(4,.pointer (pb b2)),(5,.pointer (pb b4)),(29,.bool y13)]→Sm W F w' F [box b4 #[iv y.f0,iv y.f1,iv y.f2,iv y.f3,iv y.f4,iv y.f5,.slice A1_6 y.f6.length c1_6] 29,box b2 #[iv x.f0,iv x.f1,iv x.f2,iv x.f3,.slice A0_4 x.f4.length c0_4,.slice A0_5 x.f5.length c0_5,.slice A0_6 x.f6.length c0_6] 26]→qQ.j14 kq15 x y z p y13=some r→K7 a w':=by
  intro kq15 hkq G y13 a u18 E A S H
  obtain _ | k16:=kq15
  exact zz H
  rw [qQ.j14_s]at H
  obtain ⟨J,E⟩:=E.at A
  refine hK7 _ _ (E.ib 29 H (fun c19 E H=>?_) fun c19 E H=>?_)
  refine rr E fun a E=>(wp_ret (qCV ?_))
  replace S:=S.pm [] 2
  obtain rfl:=si H
  exact rt1 E ⟨_,rfl,_,rfl,S⟩
  refine wp_skip (hK6 _ _ (sq fun K21 hK21=>pl0 ?_))
  have hb2:=S.ba 1
  have hb4:=S.ba 0
  refine plc E (.bn 0 0 7 hb2<|.bn 1 0 7 hb4<|.nil) (fun a E=>?_)
  obtain ⟨t23,h24,H⟩:=bd H
  refine ple E (.cl en14 (qq.calls k16 x y _ _ _ _ _ _ _ _ _ _ _ S.own.sub g0_4 g0_5 g0_6 g1_6 h24)) ?_
  rintro _ u22 a ⟨F25,A26,c27,A29,c30,A32,c33,rfl,hC,g28,g31,g34⟩ E
  have hs:=hC.sub
  replace S:=S.called (X:=[]) hC
  replace g2_0:=g2_0.mono hs
  replace g0_4:=g0_4.mono hs
  replace g0_5:=g0_5.mono hs
  replace g0_6:=g0_6.mono hs
  replace g1_6:=g1_6.mono hs
  refine plc E (.r 3 3 .nil) (fun a E=>pla (t:=26) E S [iv 0,iv 0,iv 0,iv 0,.slice none 0 0,.slice none 0 0,.slice none 0 0] fun b35 u36 hb35 S a E=>pls E S [iv t23.1.f0,iv t23.1.f1,iv t23.1.f2,iv t23.1.f3,.slice A26 t23.1.f4.length c27,.slice A29 t23.1.f5.length c30,.slice A32 t23.1.f6.length c33] fun u37 hb35 S a E=>plc E (.r 8 1 .nil) (fun a E=>pld (hK21 _ _ (sq fun K38 hK38=>rr E fun a E=>(E.ikn 37 H (fun c40 E H=>?_) fun c40 E H=>?_)))))
  refine wp_skip (hK38 _ _ (sq fun K42 hK42=>pl0 (plc E (.bn 0 0 7 (S.ba 2)<|.bn 1 0 7 (S.ba 1)<|.nil) (fun a E=>?_))))
  obtain ⟨t44,h45,H⟩:=bd H
  refine ple E (.cl en15 (qg.calls k16 x y _ _ _ _ _ _ _ _ _ _ _ S.own.sub g0_4 g0_5 g0_6 g1_6 h45)) ?_
  rintro _ u43 a ⟨F46,A47,c48,rfl,hC⟩ E
  have hs:=hC.sub
  replace S:=S.called (X:=[]) hC
  replace g2_0:=g2_0.mono hs
  replace g28:=g28.mono hs
  replace g31:=g31.mono hs
  replace g34:=g34.mono hs
  replace g0_4:=g0_4.mono hs
  replace g0_5:=g0_5.mono hs
  replace g0_6:=g0_6.mono hs
  replace g1_6:=g1_6.mono hs
  refine plc E (.r 3 1 .nil) (fun a E=>pld (hK42 _ _ (rr E fun a E=>(rr E fun a E=>(sq fun K53 hK53=>rr E fun a E=>(wp_block ?_))))))
  replace S:=S.pm [1,2,3,0] 4
  refine wp_loop_ghost (fun kq58 a w'=>∃(G:NV)(x55:Int)(x56:Int),kq58≤k16∧Env 109 G a∧At G [(2,.slice A2_0 z.length c2_0),(3,iv p),(4,.pointer (pb b2)),(9,.pointer (pb b35)),(11,.slice A47 t44.length c48),(12,iv x55),(13,.bool false),(14,iv x56)]∧Sm W F w' F46 [box b35 #[iv t23.1.f0,iv t23.1.f1,iv t23.1.f2,iv t23.1.f3,.slice A26 t23.1.f4.length c27,.slice A29 t23.1.f5.length c30,.slice A32 t23.1.f6.length c33] 26,box b4 #[iv y.f0,iv y.f1,iv y.f2,iv y.f3,iv y.f4,iv y.f5,.slice A1_6 y.f6.length c1_6] 29,box b2 #[iv x.f0,iv x.f1,iv x.f2,iv x.f3,.slice A0_4 x.f4.length c0_4,.slice A0_5 x.f5.length c0_5,.slice A0_6 x.f6.length c0_6] 26,row ki 3 (.slice A47 t44.length c48) t44]∧qQ.l57 kq58 x z p t23 t44 x55 x56=some r) k16 ⟨_,(t44.length:Int),0,Nat.le_refl _,E,.of,S,H⟩ ?_
  rintro kq58 a u60 ⟨G,x55,x56,hkq,E,A,S,H⟩
  obtain _ | k59:=kq58
  exact zz H
  rw [qQ.l57_s]at H
  obtain ⟨J,E⟩:=E.at A
  refine sq fun K61 hK61=>sq fun K62 hK62=>pl0 ?_
  have hb2:=S.ba 2
  refine plc E (.r 0 2<|.b 2 3 hb2<|.r 3 1<|.nil) (fun a E=>pld (hK62 _ _ (E.ik 47 H (fun c63 E H=>?_) fun c63 E H=>?_)))
  refine wp_skip (hK61 _ _ (sq fun K64 hK64=>wp_block (sq fun K65 hK65=>pl0 (plc E (.bn 0 0 7 hb2<|.r 1 2<|.nil) (fun a E=>?_)))))
  obtain ⟨t67,h68,H⟩:=bd H
  refine plq E S en21 (qBJ.calls x z x56 _ _ _ _ _ _ _ _ _ _ _ S.own.sub g0_4 g0_5 g0_6 g2_0 h68) fun u66 S a E=>plc E (.r 4 1 .nil) (fun a E=>pld (hK65 _ _ (E.ibn 54 H (fun c69 E H=>?_) fun c69 E H=>?_)))
  refine wp_skip ?_
  refine qCX ?_
  refine hK64 _ _ (pl0 (plc E (.r 0 3 .nil) (fun a E=>pld ?_)))
  exact qCY ⟨k59,by omega,_,x55,(w64 (x56+1)),by omega,E,.of,S,H⟩
  refine pl0 (plc E (.r 0 3 .nil) (fun a E=>pld ?_))
  refine qCX ?_
  refine hK64 _ _ (pl0 (plc E (.r 0 3 .nil) (fun a E=>pld ?_)))
  exact qCY ⟨k59,by omega,_,(w64 (x55+1)),(w64 (x56+1)),by omega,E,.of,S,H⟩
  refine wp_exit ?_
  refine hK53 _ _ (sq fun K70 hK70=>rr E fun a E=>(wp_block ?_))
  refine wp_loop_ghost (fun kq75 a w'=>∃(G:NV)(y72:Bool)(x73:Int),kq75≤k59∧Env 109 G a∧At G [(2,.slice A2_0 z.length c2_0),(3,iv p),(4,.pointer (pb b2)),(9,.pointer (pb b35)),(11,.slice A47 t44.length c48),(12,iv x55),(13,.bool y72),(15,iv x73)]∧Sm W F w' F46 [box b35 #[iv t23.1.f0,iv t23.1.f1,iv t23.1.f2,iv t23.1.f3,.slice A26 t23.1.f4.length c27,.slice A29 t23.1.f5.length c30,.slice A32 t23.1.f6.length c33] 26,box b4 #[iv y.f0,iv y.f1,iv y.f2,iv y.f3,iv y.f4,iv y.f5,.slice A1_6 y.f6.length c1_6] 29,box b2 #[iv x.f0,iv x.f1,iv x.f2,iv x.f3,.slice A0_4 x.f4.length c0_4,.slice A0_5 x.f5.length c0_5,.slice A0_6 x.f6.length c0_6] 26,row ki 3 (.slice A47 t44.length c48) t44]∧qQ.l74 kq75 x z p t23 t44 x55 y72 x73=some r) k59 ⟨_,false,0,Nat.le_refl _,E,.of,S,H⟩ ?_
  rintro kq75 a u77 ⟨G,y72,x73,hkq,E,A,S,H⟩
  obtain _ | k76:=kq75
  exact zz H
  rw [qQ.l74_s]at H
  obtain ⟨J,E⟩:=E.at A
  refine sq fun K78 hK78=>rr E fun a E=>(E.ik 60 H (fun c80 E H=>?_) fun c80 E H=>?_)
  refine wp_skip (hK78 _ _ (sq fun K81 hK81=>wp_block ?_))
  refine drawn 12 ⟨[],[],fun q=>False⟩ mixed rfl (by kernel_rfl) (fun hst=>?_)
  replace S:=S.drew
  refine mny 10 hst E (.r 0 2 .nil) (fun a E=>?_)
  refine E.fb 13 H (fun c82 E H=>?_) fun c82 E H=>?_
  replace E:=E.bt 64 c82
  refine mny 0 hst E (.r 2 10 .nil) (fun a E=>?_)
  refine dn ?_
  refine qCX ?_
  refine hK81 _ _ (pl0 (plc E (.r 0 3 .nil) (fun a E=>pld ?_)))
  exact qCY ⟨k76,by omega,_,true,(w64 (x73+1)),by omega,E,.of,S,H⟩
  replace E:=E.bf 64 c82
  have hb2:=S.ba 2
  obtain ⟨c83,H⟩:=gd H
  have hr84:=S.ra 3
  have hE_:=E
  obtain ⟨b85,rfl⟩:=qCb hr84 c83.1 c83.2
  replace E:=hE_
  have hr_:=S.ra 3
  obtain ⟨cs87,rfl,hc88⟩:=qCa hr_ 0 x73 c83.1 c83.2
  refine mny 4 hst E (.bn 2 0 7 hb2<|.r 3 3<|.x 6 c83<|.c 7 (hc88 0 _ rfl)<|.nil) (fun a E=>?_)
  obtain ⟨t90,h91,H⟩:=bd H
  refine on1 8 E (.cl en21 (qBJ.calls x z (nth 0 t44 x73) _ _ _ _ _ _ _ _ _ _ _ S.own.sub g0_4 g0_5 g0_6 g2_0 h91)) ?_
  rintro _ u89 a ⟨_,rfl,hC⟩ E
  refine ⟨.of hC.agr,?_⟩
  replace S:=S.lent hC
  refine mny 0 hst E (.r 9 3 .nil) (fun a E=>?_)
  refine dn ?_
  refine qCX ?_
  refine hK81 _ _ (pl0 (plc E (.r 0 3 .nil) (fun a E=>pld ?_)))
  exact qCY ⟨k76,by omega,_,(!t90),(w64 (x73+1)),by omega,E,.of,S,H⟩
  refine wp_exit ?_
  refine hK70 _ _ (sq fun K92 hK92=>sq fun K93 hK93=>?_)
  have J100:∀ kq98,kq98≤k76→∀(G:NV)(y96:Bool)(a:Act)(w':World),Env 109 G a→At G [(4,.pointer (pb b2)),(9,.pointer (pb b35)),(11,.slice A47 t44.length c48),(84,.bool y96)]→Sm W F w' F46 [box b35 #[iv t23.1.f0,iv t23.1.f1,iv t23.1.f2,iv t23.1.f3,.slice A26 t23.1.f4.length c27,.slice A29 t23.1.f5.length c30,.slice A32 t23.1.f6.length c33] 26,box b4 #[iv y.f0,iv y.f1,iv y.f2,iv y.f3,iv y.f4,iv y.f5,.slice A1_6 y.f6.length c1_6] 29,box b2 #[iv x.f0,iv x.f1,iv x.f2,iv x.f3,.slice A0_4 x.f4.length c0_4,.slice A0_5 x.f5.length c0_5,.slice A0_6 x.f6.length c0_6] 26,row ki 3 (.slice A47 t44.length c48) t44]→qQ.j97 kq98 x t23 t44 y96=some r→K93 a w':=by
   intro kq98 hkq G y96 a u101 E A S H
   obtain _ | k99:=kq98
   exact zz H
   rw [qQ.j97_s]at H
   obtain ⟨J,E⟩:=E.at A
   refine hK93 _ _ (E.ib 84 H (fun c102 E H=>?_) fun c102 E H=>?_)
   refine rr E fun a E=>(wp_ret (qCV ?_))
   replace S:=S.pm [] 4
   obtain rfl:=si H
   exact rt1 E ⟨_,rfl,_,rfl,S⟩
   refine wp_skip (hK92 _ _ (sq fun K104 hK104=>rr E fun a E=>(wp_block ?_)))
   refine wp_loop_ghost (fun kq109 a w'=>∃(G:NV)(x106:Int)(F107:World),kq109≤k99∧Env 109 G a∧At G [(4,.pointer (pb b2)),(9,.pointer (pb b35)),(11,.slice A47 t44.length c48),(16,iv x106)]∧Sm W F w' F107 [box b35 #[iv t23.1.f0,iv t23.1.f1,iv t23.1.f2,iv t23.1.f3,.slice A26 t23.1.f4.length c27,.slice A29 t23.1.f5.length c30,.slice A32 t23.1.f6.length c33] 26,box b4 #[iv y.f0,iv y.f1,iv y.f2,iv y.f3,iv y.f4,iv y.f5,.slice A1_6 y.f6.length c1_6] 29,box b2 #[iv x.f0,iv x.f1,iv x.f2,iv x.f3,.slice A0_4 x.f4.length c0_4,.slice A0_5 x.f5.length c0_5,.slice A0_6 x.f6.length c0_6] 26,row ki 3 (.slice A47 t44.length c48) t44]∧Rd qA.k F107 A26 c27 t23.1.f4∧Rd qD.k F107 A29 c30 t23.1.f5∧Rd qC.k F107 A32 c33 t23.1.f6∧Rd ki F107 A1_6 c1_6 y.f6∧Rd qA.k F107 A0_4 c0_4 x.f4∧Rd qD.k F107 A0_5 c0_5 x.f5∧Rd qC.k F107 A0_6 c0_6 x.f6∧qQ.l108 kq109 x t23 t44 x106=some r) k99 ⟨_,0,F46,Nat.le_refl _,E,.of,S,g28,g31,g34,g1_6,g0_4,g0_5,g0_6,H⟩ ?_
   rintro kq109 a u111 ⟨G,x106,F107,hkq,E,A,S,g28,g31,g34,g1_6,g0_4,g0_5,g0_6,H⟩
   obtain _ | k110:=kq109
   exact zz H
   rw [qQ.l108_s]at H
   obtain ⟨J,E⟩:=E.at A
   refine sq fun K112 hK112=>rr E fun a E=>(E.ik 88 H (fun c114 E H=>?_) fun c114 E H=>?_)
   refine wp_skip (hK112 _ _ (sq fun K115 hK115=>wp_block (sq fun K116 hK116=>?_)))
   refine drawn 7 ⟨[],[],fun q=>False⟩ mixed rfl (by kernel_rfl) (fun hst=>?_)
   replace S:=S.drew
   have hb35:=S.ba 0
   obtain ⟨c117,H⟩:=gd H
   have hr118:=S.ra 3
   have hE_:=E
   obtain ⟨b119,rfl⟩:=qCb hr118 c117.1 c117.2
   replace E:=hE_
   have hr_:=S.ra 3
   obtain ⟨cs121,rfl,hc122⟩:=qCa hr_ 0 x106 c117.1 c117.2
   refine mny 2 hst E (.bn 0 0 7 hb35<|.r 1 2<|.x 3 c117<|.c 4 (hc122 0 _ rfl)<|.nil) (fun a E=>?_)
   obtain ⟨t124,h125,H⟩:=bd H
   refine on1 5 E (.cl en16 (qw.calls k110 t23.1 (nth 0 t44 x106) _ _ _ _ _ _ _ _ _ S.own.sub g28 g31 g34 h125)) ?_
   rintro _ u123 a ⟨F126,A127,c128,rfl,hC⟩ E
   refine ⟨.of hC.agr,?_⟩
   have hs:=hC.sub
   replace S:=S.called (X:=[]) hC
   replace g28:=g28.mono hs
   replace g31:=g31.mono hs
   replace g34:=g34.mono hs
   replace g1_6:=g1_6.mono hs
   replace g0_4:=g0_4.mono hs
   replace g0_5:=g0_5.mono hs
   replace g0_6:=g0_6.mono hs
   refine mny 0 hst E (.r 6 1 .nil) (fun a E=>?_)
   refine dn ?_
   refine hK116 _ _ (sq fun K131 hK131=>?_)
   have J140:∀ kq138,kq138≤k110→∀(G:NV)(y136:Bool)(a:Act)(w':World),Env 109 G a→At G [(4,.pointer (pb b2)),(9,.pointer (pb b35)),(11,.slice (pb b119) t44.length c48),(16,iv x106),(108,.bool y136)]→Sm W F w' F126 [box b35 #[iv t23.1.f0,iv t23.1.f1,iv t23.1.f2,iv t23.1.f3,.slice A26 t23.1.f4.length c27,.slice A29 t23.1.f5.length c30,.slice A32 t23.1.f6.length c33] 26,box b4 #[iv y.f0,iv y.f1,iv y.f2,iv y.f3,iv y.f4,iv y.f5,.slice A1_6 y.f6.length c1_6] 29,box b2 #[iv x.f0,iv x.f1,iv x.f2,iv x.f3,.slice A0_4 x.f4.length c0_4,.slice A0_5 x.f5.length c0_5,.slice A0_6 x.f6.length c0_6] 26,row ki 3 (.slice (pb b119) t44.length c48) t44]→qQ.j137 kq138 x t23 t44 x106 y136=some r→K131 a w':=by
    intro kq138 hkq G y136 a u141 E A S H
    obtain _ | k139:=kq138
    exact zz H
    rw [qQ.j137_s]at H
    obtain ⟨J,E⟩:=E.at A
    refine hK131 _ _ (E.ib 108 H (fun c142 E H=>?_) fun c142 E H=>?_)
    refine rr E fun a E=>(wp_ret (qCW (qCV (qCV (qCW (qCV ?_))))))
    replace S:=S.pm [] 4
    obtain rfl:=si H
    exact rt1 E ⟨_,rfl,_,rfl,S⟩
    refine wp_skip ?_
    refine qCX ?_
    refine hK115 _ _ (pl0 (plc E (.r 0 3 .nil) (fun a E=>pld ?_)))
    exact qCY ⟨k139,by omega,_,(w64 (x106+1)),F126,by omega,E,.of,S,g28,g31,g34,g1_6,g0_4,g0_5,g0_6,H⟩
   refine pl0 (plc E (.r 0 3<|.b 3 2 (S.ba 3)<|.r 4 2<|.nil) (fun a E=>E.fk 102 H (fun c132 E H=>?_) fun c132 E H=>?_))
   refine plc E (.r 6 6 .nil) (fun a E=>pld ?_)
   replace S:=S.tail
   exact J140 _ (by omega) _ true _ _ E .of S H
   refine plc E (.r 6 1<|.b 7 4 (S.ba 1)<|.r 8 1<|.nil) (fun a E=>?_)
   obtain ⟨t134,h135,H⟩:=bd H
   refine plq E S en17 (qo.calls k110 t23.1.f4 t124 _ _ _ _ _ _ _ (Sub.refl _) (g28.mono S.own.sub) (S.rd_at (i:=0) rfl) h135) fun u133 S a E=>plc E (.r 10 2 .nil) (fun a E=>pld ?_)
   replace S:=S.tail
   exact J140 _ (by omega) _ (!t134) _ _ E .of S H
   refine wp_exit ?_
   refine hK104 _ _ (rr E fun a E=>(wp_ret ?_))
   replace S:=S.pm [] 4
   obtain rfl:=si H
   exact rt1 E ⟨_,rfl,_,rfl,S⟩
  refine pl0 (plc E (.r 0 4 .nil) (fun a E=>E.fk 77 H (fun c94 E H=>?_) fun c94 E H=>?_))
  refine plc E (.r 4 2 .nil) (fun a E=>E.fb 79 H (fun c95 E H=>?_) fun c95 E H=>?_)
  refine plc E (.r 6 5 .nil) (fun a E=>pld ?_)
  exact J100 _ (by omega) _ true _ _ E .of S H
  refine plc E (.r 6 5 .nil) (fun a E=>pld ?_)
  exact J100 _ (by omega) _ (decide (x55>p)) _ _ E .of S H
  refine plc E (.r 4 7 .nil) (fun a E=>pld ?_)
  exact J100 _ (by omega) _ false _ _ E .of S H
  refine rr E fun a E=>(wp_ret (qCV ?_))
  replace S:=S.pm [] 3
  obtain rfl:=si H
  exact rt1 E ⟨_,rfl,_,rfl,S⟩
 refine pl0 (plc E (.bn 0 0 7 (S.ba 1)<|.r 1 1<|.nil) (fun a E=>?_))
 obtain ⟨t9,h10,H⟩:=bd H
 refine plq E S en20 (qBC.calls k x z _ _ _ _ _ _ _ _ _ _ _ S.own.sub g0_4 g0_5 g0_6 g2_0 h10) fun u8 S a E=>plc E (.r 3 2 .nil) (fun a E=>E.fbn 22 H (fun c11 E H=>?_) fun c11 E H=>?_)
 refine plc E (.r 5 4 .nil) (fun a E=>E.fk 26 H (fun c12 E H=>?_) fun c12 E H=>?_)
 refine plc E (.r 9 3 .nil) (fun a E=>pld ?_)
 exact J17 _ (by omega) _ true _ _ E .of S H
 refine plc E (.r 9 3 .nil) (fun a E=>pld ?_)
 exact J17 _ (by omega) _ (decide (p>8)) _ _ E .of S H
 refine plc E (.r 5 7 .nil) (fun a E=>pld ?_)
 exact J17 _ (by omega) _ true _ _ E .of S H
mutual
def qAD.l12:Nat→qAH→qE→List Bool→Int→Option (Int × qF × Int)
 | 0,_,_,_,_=>none
 | k+1,x,y,z,x10=>if x10<(x.f0.length:Int) then (if 0≤x10∧x10<(x.f0.length:Int) then ((qq.f k y (nth qF.z x.f0 x10)).bind fun t29=>(if t29.2=7 then (qAD.j52 k x y z x10 true) else (qAD.j52 k x y z x10 (t29.2 == 5)))) else (none)) else (some ((x.f0.length:Int),(⟨0,0,0,0,0,0,[]⟩:qF),5))
def qAD.j52:Nat→qAH→qE→List Bool→Int→Bool→Option (Int × qF × Int)
 | 0,_,_,_,_,_=>none
 | k+1,x,y,z,x10,y51=>if y51=true then (qAD.l12 k x y z (w64 (x10+1))) else ((qQ.f k y (nth qF.z x.f0 x10) z x.f2).bind fun t67=>(if t67=0 then (some (x10,(nth qF.z x.f0 x10),0)) else (some (x10,(⟨0,0,0,0,0,0,[]⟩:qF),t67))))
end
theorem qAD.l12_s k x y z x10:type_of% (qAD.l12.eq_2 x y z x10 k):=qAD.l12.eq_2 x y z x10 k
theorem qAD.j52_s k x y z x10 y51:type_of% (qAD.j52.eq_2 x y z x10 y51 k):=qAD.j52.eq_2 x y z x10 y51 k
def qAD.f(k:Nat)(x:qAH)(y:qE)(z:List Bool):Option (Int × qF × Int):=qAD.l12 k x y z x.f1
def qAD.Post(W F:World)(r:Int × qF × Int)(v:Value)(w':World):Prop:=∃(F':World)(RA1_6:OA)(rc1_6:Nat),v = .tuple #[iv r.1,.agg #[iv r.2.1.f0,iv r.2.1.f1,iv r.2.1.f2,iv r.2.1.f3,iv r.2.1.f4,iv r.2.1.f5,.slice RA1_6 r.2.1.f6.length rc1_6],iv r.2.2]∧Sm W F w' F' []∧Rd ki F' RA1_6 rc1_6 r.2.1.f6
theorem qAD.calls(k:Nat)(x:qAH)(y:qE)(z:List Bool)(A0_0:OA)(c0_0:Nat)(A1_4:OA)(c1_4:Nat)(A1_5:OA)(c1_5:Nat)(A1_6:OA)(c1_6:Nat)(A2_0:OA)(c2_0:Nat)(r:Int × qF × Int)(W F:World)(hown:Sub F W)(g0_0:Rd qF.k F A0_0 c0_0 x.f0)(g1_4:Rd qA.k F A1_4 c1_4 y.f4)(g1_5:Rd qD.k F A1_5 c1_5 y.f5)(g1_6:Rd qC.k F A1_6 c1_6 y.f6)(g2_0:Rd Kn.bool F A2_0 c2_0 z)(H:qAD.f k x y z=some r):
    Cr 29 #[.agg #[.slice A0_0 x.f0.length c0_0,iv x.f1,iv x.f2],.agg #[iv y.f0,iv y.f1,iv y.f2,iv y.f3,.slice A1_4 y.f4.length c1_4,.slice A1_5 y.f5.length c1_5,.slice A1_6 y.f6.length c1_6],.slice A2_0 z.length c2_0] W (qAD.Post W F r):=by
 have S:=sT hown
 unfold qAD.f at H
 refine ent 63 rfl rfl rfl (fun a E=>?_)
 refine sq fun K1 hK1=>pl0 (plx (t:=50) E S [.slice A0_0 x.f0.length c0_0,iv x.f1,iv x.f2] fun b2 u3 hb2 S a E=>plx (t:=26) E S [iv y.f0,iv y.f1,iv y.f2,iv y.f3,.slice A1_4 y.f4.length c1_4,.slice A1_5 y.f5.length c1_5,.slice A1_6 y.f6.length c1_6] fun b4 u5 hb4 S a E=>plc E (.r 2 1 .nil) (fun a E=>pla (t:=29) E S [iv 0,iv 0,iv 0,iv 0,iv 0,iv 0,.slice none 0 0] fun b6 u7 hb6 S a E=>plc E (.r 4 1 .nil) (fun a E=>pld (hK1 _ _ (sq fun K8 hK8=>rg E (.r 0 1<|.b 1 1 (S.ba 2)<|.r 2 1<|.nil) fun a E=>(wp_block ?_))))))
 refine wp_loop_ghost (fun kq13 a w'=>∃(G:NV)(x10:Int)(F11:World),kq13≤k∧Env 63 G a∧At G [(2,.slice A2_0 z.length c2_0),(3,.pointer (pb b2)),(4,.pointer (pb b4)),(7,.pointer (pb b6)),(9,iv x10)]∧Sm W F w' F11 [box b6 #[iv 0,iv 0,iv 0,iv 0,iv 0,iv 0,.slice none 0 0] 29,box b4 #[iv y.f0,iv y.f1,iv y.f2,iv y.f3,.slice A1_4 y.f4.length c1_4,.slice A1_5 y.f5.length c1_5,.slice A1_6 y.f6.length c1_6] 26,box b2 #[.slice A0_0 x.f0.length c0_0,iv x.f1,iv x.f2] 50]∧Rd Kn.bool F11 A2_0 c2_0 z∧Rd qA.k F11 A1_4 c1_4 y.f4∧Rd qD.k F11 A1_5 c1_5 y.f5∧Rd qC.k F11 A1_6 c1_6 y.f6∧Rd qF.k F11 A0_0 c0_0 x.f0∧qAD.l12 kq13 x y z x10=some r) k ⟨_,x.f1,F,Nat.le_refl _,E,.of,S,g2_0,g1_4,g1_5,g1_6,g0_0,H⟩ ?_
 rintro kq13 a u15 ⟨G,x10,F11,hkq,E,A,S,g2_0,g1_4,g1_5,g1_6,g0_0,H⟩
 obtain _ | k14:=kq13
 exact zz H
 rw [qAD.l12_s]at H
 obtain ⟨J,E⟩:=E.at A
 refine sq fun K16 hK16=>sq fun K17 hK17=>pl0 ?_
 have hb2:=S.ba 2
 refine plc E (.r 0 2<|.b 2 0 hb2<|.r 3 2<|.nil) (fun a E=>pld (hK17 _ _ (E.ik 19 H (fun c18 E H=>?_) fun c18 E H=>?_)))
 refine wp_skip (hK16 _ _ (sq fun K19 hK19=>wp_block (sq fun K20 hK20=>?_)))
 refine drawn 13 ⟨[11],[],fun q=>False⟩ mixed rfl (by kernel_rfl) (fun hst=>?_)
 replace S:=S.drew
 have hb4:=S.ba 1
 have hb2:=S.ba 2
 obtain ⟨c21,H⟩:=gd H
 have hE_:=E
 obtain ⟨ad22,rfl⟩:=g0_0.addr c21.1 c21.2
 replace E:=hE_
 obtain ⟨cs24,⟨A26,c27,rfl,g28⟩,hc25⟩:=g0_0.el qF.z x10 c21.1 c21.2
 refine mny 7 hst E (.bn 0 0 7 hb4<|.r 1 1<|.b 2 0 hb2<|.r 3 1<|.x 4 c21<|.cs 5 (S.fcs hc25)<|.nil) (fun a E=>?_)
 obtain ⟨t29,h30,H⟩:=bd H
 refine meet2 (fun a w'=>∃(G:NV)(b42:Nat)(A33:OA)(c34:Nat)(A36:OA)(c37:Nat)(A39:OA)(c40:Nat)(F45:World),Env 63 G a∧At G [(2,.slice A2_0 z.length c2_0),(3,.pointer (pb b2)),(4,.pointer (pb b4)),(7,.pointer (pb b6)),(9,iv x10),(10,.pointer (pb b42)),(30,.agg #[iv t29.1.f0,iv t29.1.f1,iv t29.1.f2,iv t29.1.f3,.slice A33 t29.1.f4.length c34,.slice A36 t29.1.f5.length c37,.slice A39 t29.1.f6.length c40]),(31,iv t29.2)]∧Sm W F w' F45 [box b42 #[iv 0,iv 0,iv 0,iv 0,.slice none 0 0,.slice none 0 0,.slice none 0 0] 26,box b6 #[iv 0,iv 0,iv 0,iv 0,iv 0,iv 0,.slice none 0 0] 29,box b4 #[iv y.f0,iv y.f1,iv y.f2,iv y.f3,.slice A1_4 y.f4.length c1_4,.slice A1_5 y.f5.length c1_5,.slice A1_6 y.f6.length c1_6] 26,box b2 #[.slice (some ad22) x.f0.length c0_0,iv x.f1,iv x.f2] 50]∧Rd Kn.bool F45 A2_0 c2_0 z∧Rd qA.k F45 A33 c34 t29.1.f4∧Rd qD.k F45 A36 c37 t29.1.f5∧Rd qC.k F45 A39 c40 t29.1.f6∧Rd qA.k F45 A1_4 c1_4 y.f4∧Rd qD.k F45 A1_5 c1_5 y.f5∧Rd qC.k F45 A1_6 c1_6 y.f6∧Rd qF.k F45 (some ad22) c0_0 x.f0) 2 2047 ?_ (fun hJ=>?_)
 rintro a u46 ⟨G,b42,A33,c34,A36,c37,A39,c40,F45,E,A,S,g2_0,g35,g38,g41,g1_4,g1_5,g1_6,g0_0⟩
 obtain ⟨J,E⟩:=E.at A
 refine on1 11 E (.sto S [iv t29.1.f0,iv t29.1.f1,iv t29.1.f2,iv t29.1.f3,.slice A33 t29.1.f4.length c34,.slice A36 t29.1.f5.length c37,.slice A39 t29.1.f6.length c40]) ?_
 rintro _ u47 a ⟨rfl,hb42,S,hz⟩ E
 refine ⟨.d,?_⟩
 refine mny 0 hst E (.r 12 1 .nil) (fun a E=>?_)
 refine dn ?_
 refine hK20 _ _ (sq fun K48 hK48=>sq fun K49 hK49=>?_)
 have J55:∀ kq53,kq53≤k14→∀(G:NV)(y51:Bool)(a:Act)(w':World),Env 63 G a→At G [(2,.slice A2_0 z.length c2_0),(3,.pointer (pb b2)),(4,.pointer (pb b4)),(7,.pointer (pb b6)),(9,iv x10),(37,.bool y51)]→Sm W F w' F45 [box b42 #[iv t29.1.f0,iv t29.1.f1,iv t29.1.f2,iv t29.1.f3,.slice A33 t29.1.f4.length c34,.slice A36 t29.1.f5.length c37,.slice A39 t29.1.f6.length c40] 26,box b6 #[iv 0,iv 0,iv 0,iv 0,iv 0,iv 0,.slice none 0 0] 29,box b4 #[iv y.f0,iv y.f1,iv y.f2,iv y.f3,.slice A1_4 y.f4.length c1_4,.slice A1_5 y.f5.length c1_5,.slice A1_6 y.f6.length c1_6] 26,box b2 #[.slice (some ad22) x.f0.length c0_0,iv x.f1,iv x.f2] 50]→qAD.j52 kq53 x y z x10 y51=some r→K49 a w':=by
  intro kq53 hkq G y51 a u56 E A S H
  obtain _ | k54:=kq53
  exact zz H
  rw [qAD.j52_s]at H
  obtain ⟨J,E⟩:=E.at A
  refine hK49 _ _ (E.ib 37 H (fun c57 E H=>?_) fun c57 E H=>?_)
  refine wp_exit ?_
  refine hK19 _ _ (pl0 (plc E (.r 0 3 .nil) (fun a E=>pld ?_)))
  replace S:=S.tail
  exact qCY ⟨k54,by omega,_,(w64 (x10+1)),F45,by omega,E,.of,S,g2_0,g1_4,g1_5,g1_6,g0_0,H⟩
  refine wp_skip (hK48 _ _ (sq fun K58 hK58=>sq fun K59 hK59=>?_))
  refine drawn 11 ⟨[],[],fun q=>False⟩ mixed rfl (by kernel_rfl) (fun hst=>?_)
  replace S:=S.drew
  have hb4:=S.ba 2
  have hb2:=S.ba 3
  obtain ⟨cs61,⟨A63,c64,rfl,g65⟩,hc62⟩:=g0_0.el qF.z x10 c21.1 c21.2
  refine mny 2 hst E (.bn 0 0 7 hb4<|.r 1 1<|.b 2 0 hb2<|.r 3 1<|.x 4 c21<|.cs 5 (S.fcs hc62)<|.r 6 2<|.b 8 2 hb2<|.nil) (fun a E=>?_)
  obtain ⟨t67,h68,H⟩:=bd H
  refine on1 9 E (.cl en13 (qQ.calls k54 y (nth qF.z x.f0 x10) z x.f2 _ _ _ _ _ _ _ _ _ _ _ _ _ S.own.sub g1_4 g1_5 g1_6 g65 g2_0 h68)) ?_
  rintro _ u66 a ⟨_,rfl,hC⟩ E
  refine ⟨.of hC.agr,?_⟩
  replace S:=S.lent hC
  refine mny 0 hst E (.r 10 1 .nil) (fun a E=>?_)
  refine dn ?_
  refine hK59 _ _ (rr E fun a E=>(E.ikn 49 H (fun c70 E H=>?_) fun c70 E H=>?_))
  refine wp_skip (hK58 _ _ (sq fun K73 hK73=>?_))
  refine drawn 9 ⟨[7],[],fun q=>False⟩ mixed rfl (by kernel_rfl) (fun hst=>?_)
  replace S:=S.drew
  have hb2:=S.ba 3
  refine mny 2 hst E (.r 0 2<|.b 2 0 hb2<|.r 3 1<|.x 4 c21<|.cs 5 (S.fcs hc62)<|.r 6 1<|.nil) (fun a E=>?_)
  replace S:=S.front 1 rfl
  refine on1 7 E (.sto S [iv ((nth qF.z x.f0 x10).f0),iv ((nth qF.z x.f0 x10).f1),iv ((nth qF.z x.f0 x10).f2),iv ((nth qF.z x.f0 x10).f3),iv ((nth qF.z x.f0 x10).f4),iv ((nth qF.z x.f0 x10).f5),.slice A63 (((nth qF.z x.f0 x10).f6).length) c64]) ?_
  rintro _ u77 a ⟨rfl,hb6,S,hz⟩ E
  refine ⟨.d,?_⟩
  refine mny 0 hst E (.r 8 1 .nil) (fun a E=>?_)
  refine dn ?_
  refine hK73 _ _ (wp_ret (qCW (qCV (qCV (qCW (qCV ?_))))))
  replace S:=S.pm [] 4
  obtain rfl:=si H
  exact rtm E (.t (.b hb6 ag29 sz29 (.t .nil))) ⟨_,rfl,_,_,_,rfl,S,g65⟩
  refine sq fun K71 hK71=>pl0 (plc E (.r 0 4 .nil) (fun a E=>?_))
  replace S:=S.front 1 rfl
  refine pls E S [iv 0,iv 0,iv 0,iv 0,iv 0,iv 0,.slice none 0 0] fun u72 hb6 S a E=>plc E (.r 5 1 .nil) (fun a E=>pld (hK71 _ _ (wp_ret (qCV (qCW (qCV (qCV (qCW (qCV ?_)))))))))
  replace S:=S.pm [] 4
  obtain rfl:=si H
  exact rtm E (.t (.b hb6 ag29 sz29 (.t .nil))) ⟨_,rfl,_,_,_,rfl,S,(Rd.nil _ _)⟩
 refine pl0 (plc E (.r 0 3 .nil) (fun a E=>E.fk 34 H (fun c50 E H=>?_) fun c50 E H=>?_))
 refine plc E (.r 3 3 .nil) (fun a E=>pld ?_)
 exact J55 _ (by omega) _ true _ _ E .of S H
 refine plc E (.r 3 3 .nil) (fun a E=>pld ?_)
 exact J55 _ (by omega) _ (t29.2 == 5) _ _ E .of S H
 refine pk2 6 10 ?_ ?_
 refine pk1 6 E (.cl en14 (qq.calls k14 y (nth qF.z x.f0 x10) _ _ _ _ _ _ _ _ _ _ _ S.own.sub g1_4 g1_5 g1_6 g28 h30)) ?_
 rintro _ u31 a ⟨F32,A33,c34,A36,c37,A39,c40,rfl,hC,g35,g38,g41⟩ E
 refine ⟨.of hC.agr,?_⟩
 have hs:=hC.sub
 replace S:=S.called (X:=[]) hC
 replace g2_0:=g2_0.mono hs
 replace g0_0:=g0_0.mono hs
 replace g1_4:=g1_4.mono hs
 replace g1_5:=g1_5.mono hs
 replace g1_6:=g1_6.mono hs
 replace g28:=g28.mono hs
 refine mny 3 hst E (.r 7 3 .nil) (fun a E=>?_)
 refine on1 10 E (.al (t:=26) S [iv 0,iv 0,iv 0,iv 0,.slice none 0 0,.slice none 0 0,.slice none 0 0]) ?_
 rintro _ u43 a ⟨b42,rfl,hb42,S,hg⟩ E
 refine ⟨.of hg,?_⟩
 exact hJ _ _ ⟨_,b42,A33,c34,A36,c37,A39,c40,F32,E,.of,S,g2_0,g35,g38,g41,g1_4,g1_5,g1_6,g0_0⟩
 refine pk1 10 E (.al (t:=26) S [iv 0,iv 0,iv 0,iv 0,.slice none 0 0,.slice none 0 0,.slice none 0 0]) ?_
 rintro _ u43 a ⟨b42,rfl,hb42,S,hg⟩ E
 refine ⟨.of hg,?_⟩
 refine on1 6 E (.cl en14 (qq.calls k14 y (nth qF.z x.f0 x10) _ _ _ _ _ _ _ _ _ _ _ S.own.sub g1_4 g1_5 g1_6 g28 h30)) ?_
 rintro _ u31 a ⟨F32,A33,c34,A36,c37,A39,c40,rfl,hC,g35,g38,g41⟩ E
 refine ⟨.of hC.agr,?_⟩
 have hs:=hC.sub
 replace S:=S.called (X:=[]) hC
 replace g2_0:=g2_0.mono hs
 replace g0_0:=g0_0.mono hs
 replace g1_4:=g1_4.mono hs
 replace g1_5:=g1_5.mono hs
 replace g1_6:=g1_6.mono hs
 replace g28:=g28.mono hs
 refine mny 2 hst E (.r 7 3 .nil) (fun a E=>?_)
 exact hJ _ _ ⟨_,b42,A33,c34,A36,c37,A39,c40,F32,E,.of,S,g2_0,g35,g38,g41,g1_4,g1_5,g1_6,g0_0⟩
 refine wp_exit ?_
 refine hK8 _ _ (sq fun K78 hK78=>pl0 (plc E (.r 0 1<|.b 1 0 hb2<|.r 2 3<|.nil) (fun a E=>pls E S [iv 0,iv 0,iv 0,iv 0,iv 0,iv 0,.slice none 0 0] fun u79 hb6 S a E=>plc E (.r 6 1 .nil) (fun a E=>pld (hK78 _ _ (wp_ret ?_))))))
 replace S:=S.pm [] 3
 obtain rfl:=si H
 exact rtm E (.t (.b hb6 ag29 sz29 (.t .nil))) ⟨_,rfl,_,_,_,rfl,S,(Rd.nil _ _)⟩
def qAW.l9:Nat→List qF→List qF→Int→Option Bool
 | 0,_,_,_=>none
 | k+1,x,y,x8=>if x8<(x.length:Int) then (if 0≤x8∧x8<(x.length:Int) then (if 0≤x8∧x8<(y.length:Int) then ((qAq.f k (nth qF.z x x8) (nth qF.z y x8)).bind fun t35=>(if t35=true then (qAW.l9 k x y (w64 (x8+1))) else (some false))) else (none)) else (none)) else (some true)
theorem qAW.l9_s k x y x8:type_of% (qAW.l9.eq_2 x y x8 k):=qAW.l9.eq_2 x y x8 k
def qAW.f(k:Nat)(x:List qF)(y:List qF):Option Bool:=if (x.length:Int)=(y.length:Int) then (qAW.l9 k x y 0) else (some false)
def qAW.Post(W F:World)(r:Bool)(v:Value)(w':World):Prop:=∃(F':World),v = .bool r∧Sm W F w' F' []
theorem qAW.calls(k:Nat)(x:List qF)(y:List qF)(A0_0:OA)(c0_0:Nat)(A1_0:OA)(c1_0:Nat)(r:Bool)(W F:World)(hown:Sub F W)(g0_0:Rd qF.k F A0_0 c0_0 x)(g1_0:Rd qF.k F A1_0 c1_0 y)(H:qAW.f k x y=some r):
    Cr 30 #[.slice A0_0 x.length c0_0,.slice A1_0 y.length c1_0] W (qAW.Post W F r):=by
 have S:=sT hown
 unfold qAW.f at H
 refine ent 27 rfl rfl rfl (fun a E=>?_)
 refine rr E fun a E=>(sq fun K2 hK2=>rr E fun a E=>(E.ikn 10 H (fun c4 E H=>?_) fun c4 E H=>?_))
 refine wp_skip (hK2 _ _ (sq fun K6 hK6=>rr E fun a E=>(wp_block ?_)))
 refine wp_loop_ghost (fun kq10 a w'=>∃(G:NV)(x8:Int),kq10≤k∧Env 27 G a∧At G [(0,.slice A0_0 x.length c0_0),(1,.slice A1_0 y.length c1_0),(5,iv x8)]∧Sm W F w' F []∧qAW.l9 kq10 x y x8=some r) k ⟨_,0,Nat.le_refl _,E,.of,S,H⟩ ?_
 rintro kq10 a u12 ⟨G,x8,hkq,E,A,S,H⟩
 obtain _ | k11:=kq10
 exact zz H
 rw [qAW.l9_s]at H
 obtain ⟨J,E⟩:=E.at A
 refine sq fun K13 hK13=>rr E fun a E=>(E.ik 14 H (fun c15 E H=>?_) fun c15 E H=>?_)
 refine wp_skip (hK13 _ _ (sq fun K16 hK16=>wp_block (sq fun K17 hK17=>?_)))
 refine drawn 10 ⟨[],[],fun q=>False⟩ mixed rfl (by kernel_rfl) (fun hst=>?_)
 replace S:=S.drew
 obtain ⟨c18,H⟩:=gd H
 have hE_:=E
 obtain ⟨ad19,rfl⟩:=g0_0.addr c18.1 c18.2
 replace E:=hE_
 obtain ⟨cs21,⟨A23,c24,rfl,g25⟩,hc22⟩:=g0_0.el qF.z x8 c18.1 c18.2
 obtain ⟨c26,H⟩:=gd H
 have hE_:=E
 obtain ⟨ad27,rfl⟩:=g1_0.addr c26.1 c26.2
 replace E:=hE_
 obtain ⟨cs29,⟨A31,c32,rfl,g33⟩,hc30⟩:=g1_0.el qF.z x8 c26.1 c26.2
 refine mny 2 hst E (.r 0 2<|.x 2 c18<|.cs 3 (S.fcs hc22)<|.r 4 2<|.x 6 c26<|.cs 7 (S.fcs hc30)<|.nil) (fun a E=>?_)
 obtain ⟨t35,h36,H⟩:=bd H
 refine on1 8 E (.cl en27 (qAq.calls k11 (nth qF.z x x8) (nth qF.z y x8) _ _ _ _ _ _ _ S.own.sub g25 g33 h36)) ?_
 rintro _ u34 a ⟨_,rfl,hC⟩ E
 refine ⟨.of hC.agr,?_⟩
 replace S:=S.lent hC
 refine mny 0 hst E (.r 9 1 .nil) (fun a E=>?_)
 refine dn ?_
 refine hK17 _ _ (E.ibn 26 H (fun c37 E H=>?_) fun c37 E H=>?_)
 refine wp_skip ?_
 refine qCX ?_
 refine hK16 _ _ (pl0 (plc E (.r 0 3 .nil) (fun a E=>pld ?_)))
 exact qCY ⟨k11,by omega,_,(w64 (x8+1)),by omega,E,.of,S,H⟩
 refine rr E fun a E=>(wp_ret (qCW (qCV (qCV (qCW (qCV ?_))))))
 obtain rfl:=si H
 exact rt1 E ⟨_,rfl,_,rfl,S⟩
 refine wp_exit ?_
 refine hK6 _ _ (rr E fun a E=>(wp_ret ?_))
 obtain rfl:=si H
 exact rt1 E ⟨_,rfl,_,rfl,S⟩
 refine rr E fun a E=>(wp_ret (qCV ?_))
 obtain rfl:=si H
 exact rt1 E ⟨_,rfl,_,rfl,S⟩
mutual
def qP.j17:Nat→qAH→qE→List Bool→Bool→Option Bool
 | 0,_,_,_,_=>none
 | k+1,x,y,z,y16=>if y16=true then ((qAr.f k).bind fun t25=>(some t25)) else (qP.l30 k x y z 0)
def qP.l30:Nat→qAH→qE→List Bool→Int→Option Bool
 | 0,_,_,_,_=>none
 | k+1,x,y,z,x29=>if x29<(x.f0.length:Int) then (if 0≤x29∧x29<(x.f0.length:Int) then (if (((nth qF.z x.f0 x29).f6).length:Int)>20 then ((qAr.f k).bind fun t50=>(some t50)) else (qP.l30 k x y z (w64 (x29+1)))) else (none)) else ((qAs.f k x y z).bind fun t54=>((qBE.f k x).bind fun t74=>((qAz.f x).bind fun t77=>(if (t74 == 0)=t77 then ((qAz.f x).bind fun t84=>(if t84=true then ((qBC.f k y z).bind fun t88=>(qP.j91 k x y z t54 (!t88))) else (qP.j91 k x y z t54 true))) else (some false)))))
def qP.j91:Nat→qAH→qE→List Bool→qAH × qF × Int→Bool→Option Bool
 | 0,_,_,_,_,_=>none
 | k+1,x,y,z,t54,y90=>if y90=true then ((qAz.f x).bind fun t101=>(if t101=true then (qP.j105 k x t54 (w64 ((x.f0.length:Int) - x.f1))) else (qP.j105 k x t54 0))) else ((qAD.f k x y z).bind fun t128=>(if t54.2.2=t128.2.2 then (if t54.1.f1=t128.1 then (if t54.1.f2=x.f2 then ((qAW.f k t54.1.f0 x.f0).bind fun t142=>(if t142=true then ((qAq.f k t54.2.1 t128.2.1).bind fun t146=>(if t146=true then ((qCD.f k t54.1).bind fun t150=>(if t150=(w64 ((x.f0.length:Int) - t128.1)) then ((qAr.f k).bind fun t154=>(some t154)) else (some false))) else (some false))) else (some false))) else (some false)) else (some false)) else (some false)))
def qP.j105:Nat→qAH→qAH × qF × Int→Int→Option Bool
 | 0,_,_,_=>none
 | k+1,x,t54,x104=>if t54.2.2=1 then (if (t54.1.f0.length:Int)=0 then (if t54.1.f1=0 then (if t54.1.f2=0 then ((qAq.f k t54.2.1 (⟨0,0,0,0,0,0,[]⟩:qF)).bind fun t116=>(if t116=true then ((qCD.f k x).bind fun t120=>(if t120=x104 then ((qAr.f k).bind fun t124=>(some t124)) else (some false))) else (some false))) else (some false)) else (some false)) else (some false)) else (some false)
end
theorem qP.j17_s k x y z y16:type_of% (qP.j17.eq_2 x y z y16 k):=qP.j17.eq_2 x y z y16 k
theorem qP.l30_s k x y z x29:type_of% (qP.l30.eq_2 x y z x29 k):=qP.l30.eq_2 x y z x29 k
theorem qP.j91_s k x y z t54 y90:type_of% (qP.j91.eq_2 x y z t54 y90 k):=qP.j91.eq_2 x y z t54 y90 k
theorem qP.j105_s k x t54 x104:type_of% (qP.j105.eq_2 x t54 x104 k):=qP.j105.eq_2 x t54 x104 k
def qP.f(k:Nat)(x:qAH)(y:qE)(z:List Bool):Option Bool:=(qX.f k y).bind fun t9=>(if t9=true then (if (x.f0.length:Int)>60 then (if (x.f0.length:Int)<100 then (qP.j17 k x y z true) else (if (x.f0.length:Int)>110 then (qP.j17 k x y z true) else (qP.j17 k x y z (decide ((z.length:Int)>30))))) else (if (x.f0.length:Int)>110 then (qP.j17 k x y z true) else (qP.j17 k x y z (decide ((z.length:Int)>30))))) else (qP.j17 k x y z true))
def qP.Post(W F:World)(r:Bool)(v:Value)(w':World):Prop:=∃(F':World),v = .bool r∧Sm W F w' F' []
theorem qP.calls(k:Nat)(x:qAH)(y:qE)(z:List Bool)(A0_0:OA)(c0_0:Nat)(A1_4:OA)(c1_4:Nat)(A1_5:OA)(c1_5:Nat)(A1_6:OA)(c1_6:Nat)(A2_0:OA)(c2_0:Nat)(r:Bool)(W F:World)(hown:Sub F W)(g0_0:Rd qF.k F A0_0 c0_0 x.f0)(g1_4:Rd qA.k F A1_4 c1_4 y.f4)(g1_5:Rd qD.k F A1_5 c1_5 y.f5)(g1_6:Rd qC.k F A1_6 c1_6 y.f6)(g2_0:Rd Kn.bool F A2_0 c2_0 z)(H:qP.f k x y z=some r):
    Cr 6 #[.agg #[.slice A0_0 x.f0.length c0_0,iv x.f1,iv x.f2],.agg #[iv y.f0,iv y.f1,iv y.f2,iv y.f3,.slice A1_4 y.f4.length c1_4,.slice A1_5 y.f5.length c1_5,.slice A1_6 y.f6.length c1_6],.slice A2_0 z.length c2_0] W (qP.Post W F r):=by
 have S:=sT hown
 unfold qP.f at H
 refine ent 170 rfl rfl rfl (fun a E=>?_)
 refine sq fun K1 hK1=>pl0 (plx (t:=50) E S [.slice A0_0 x.f0.length c0_0,iv x.f1,iv x.f2] fun b2 u3 hb2 S a E=>plx (t:=26) E S [iv y.f0,iv y.f1,iv y.f2,iv y.f3,.slice A1_4 y.f4.length c1_4,.slice A1_5 y.f5.length c1_5,.slice A1_6 y.f6.length c1_6] fun b4 u5 hb4 S a E=>plc E (.r 2 1 .nil) (fun a E=>pld (hK1 _ _ (sq fun K6 hK6=>sq fun K7 hK7=>?_))))
 have J20:∀ kq18,kq18≤k→∀(G:NV)(y16:Bool)(a:Act)(w':World),Env 170 G a→At G [(2,.slice A2_0 z.length c2_0),(3,.pointer (pb b2)),(4,.pointer (pb b4)),(40,.bool y16)]→Sm W F w' F [box b4 #[iv y.f0,iv y.f1,iv y.f2,iv y.f3,.slice A1_4 y.f4.length c1_4,.slice A1_5 y.f5.length c1_5,.slice A1_6 y.f6.length c1_6] 26,box b2 #[.slice A0_0 x.f0.length c0_0,iv x.f1,iv x.f2] 50]→qP.j17 kq18 x y z y16=some r→K7 a w':=by
  intro kq18 hkq G y16 a u21 E A S H
  obtain _ | k19:=kq18
  exact zz H
  rw [qP.j17_s]at H
  obtain ⟨J,E⟩:=E.at A
  refine hK7 _ _ (E.ib 40 H (fun c22 E H=>?_) fun c22 E H=>?_)
  refine sq fun K23 hK23=>pl0 ?_
  obtain ⟨t25,h26,H⟩:=bd H
  refine plq E S en11 (qAr.calls k19 _ _ _ S.own.sub h26) fun u24 S a E=>plc E (.r 1 1 .nil) (fun a E=>pld (hK23 _ _ (wp_ret (qCV ?_))))
  replace S:=S.pm [] 2
  obtain rfl:=si H
  exact rt1 E ⟨_,rfl,_,rfl,S⟩
  refine wp_skip (hK6 _ _ (sq fun K27 hK27=>rr E fun a E=>(wp_block ?_)))
  refine wp_loop_ghost (fun kq31 a w'=>∃(G:NV)(x29:Int),kq31≤k19∧Env 170 G a∧At G [(2,.slice A2_0 z.length c2_0),(3,.pointer (pb b2)),(4,.pointer (pb b4)),(7,iv x29)]∧Sm W F w' F [box b4 #[iv y.f0,iv y.f1,iv y.f2,iv y.f3,.slice A1_4 y.f4.length c1_4,.slice A1_5 y.f5.length c1_5,.slice A1_6 y.f6.length c1_6] 26,box b2 #[.slice A0_0 x.f0.length c0_0,iv x.f1,iv x.f2] 50]∧qP.l30 kq31 x y z x29=some r) k19 ⟨_,0,Nat.le_refl _,E,.of,S,H⟩ ?_
  rintro kq31 a u33 ⟨G,x29,hkq,E,A,S,H⟩
  obtain _ | k32:=kq31
  exact zz H
  rw [qP.l30_s]at H
  obtain ⟨J,E⟩:=E.at A
  refine sq fun K34 hK34=>sq fun K35 hK35=>pl0 ?_
  have hb2:=S.ba 1
  refine plc E (.r 0 2<|.b 2 0 hb2<|.r 3 2<|.nil) (fun a E=>pld (hK35 _ _ (E.ik 46 H (fun c36 E H=>?_) fun c36 E H=>?_)))
  refine wp_skip (hK34 _ _ (sq fun K37 hK37=>wp_block (sq fun K38 hK38=>pl0 ?_)))
  obtain ⟨c39,H⟩:=gd H
  have hE_:=E
  obtain ⟨ad40,rfl⟩:=g0_0.addr c39.1 c39.2
  replace E:=hE_
  obtain ⟨cs42,⟨A44,c45,rfl,g46⟩,hc43⟩:=g0_0.el qF.z x29 c39.1 c39.2
  refine plc E (.r 0 1<|.b 1 0 hb2<|.r 2 1<|.x 3 c39<|.r 4 1<|.c 5 (S.fc hc43 6)<|.r 6 2<|.nil) (fun a E=>pld (hK38 _ _ (E.ik 56 H (fun c47 E H=>?_) fun c47 E H=>?_)))
  refine sq fun K48 hK48=>pl0 ?_
  obtain ⟨t50,h51,H⟩:=bd H
  refine plq E S en11 (qAr.calls k32 _ _ _ S.own.sub h51) fun u49 S a E=>plc E (.r 1 1 .nil) (fun a E=>pld (hK48 _ _ (wp_ret (qCW (qCV (qCV (qCW (qCV ?_))))))))
  replace S:=S.pm [] 2
  obtain rfl:=si H
  exact rt1 E ⟨_,rfl,_,rfl,S⟩
  refine wp_skip ?_
  refine qCX ?_
  refine hK37 _ _ (pl0 (plc E (.r 0 3 .nil) (fun a E=>pld ?_)))
  exact qCY ⟨k32,by omega,_,(w64 (x29+1)),by omega,E,.of,S,H⟩
  refine wp_exit ?_
  refine hK27 _ _ (sq fun K52 hK52=>pl0 ?_)
  have hb4:=S.ba 0
  refine plc E (.bn 0 0 3 hb2<|.bn 1 0 7 hb4<|.r 2 1<|.nil) (fun a E=>?_)
  obtain ⟨t54,h55,H⟩:=bd H
  refine ple E (.cl en24 (qAs.calls k32 x y z _ _ _ _ _ _ _ _ _ _ _ _ _ S.own.sub g0_0 g1_4 g1_5 g1_6 g2_0 h55)) ?_
  rintro _ u53 a ⟨F56,A57,c58,A61,c62,rfl,hC⟩ E
  have hs:=hC.sub
  replace S:=S.called (X:=[]) hC
  replace g2_0:=g2_0.mono hs
  replace g0_0:=g0_0.mono hs
  replace g1_4:=g1_4.mono hs
  replace g1_5:=g1_5.mono hs
  replace g1_6:=g1_6.mono hs
  refine plc E (.r 4 4 .nil) (fun a E=>pla (t:=50) E S [.slice none 0 0,iv 0,iv 0] fun b65 u66 hb65 S a E=>pla (t:=29) E S [iv 0,iv 0,iv 0,iv 0,iv 0,iv 0,.slice none 0 0] fun b67 u68 hb67 S a E=>?_)
  replace S:=S.front 1 rfl
  refine pls E S [.slice A57 t54.1.f0.length c58,iv t54.1.f1,iv t54.1.f2] fun u69 hb65 S a E=>?_
  replace S:=S.front 1 rfl
  refine pls E S [iv t54.2.1.f0,iv t54.2.1.f1,iv t54.2.1.f2,iv t54.2.1.f3,iv t54.2.1.f4,iv t54.2.1.f5,.slice A61 t54.2.1.f6.length c62] fun u70 hb67 S a E=>plc E (.r 12 1 .nil) (fun a E=>pld (hK52 _ _ (sq fun K71 hK71=>sq fun K72 hK72=>?_)))
  refine drawn 6 ⟨[],[],fun q=>False⟩ mixed rfl (by kernel_rfl) (fun hst=>?_)
  replace S:=S.drew
  have hb2:=S.ba 5
  refine mny 4 hst E (.bn 0 0 3 hb2<|.bn 3 0 3 hb2<|.nil) (fun a E=>?_)
  obtain ⟨t74,h75,H⟩:=bd H
  refine on1 1 E (.cl en25 (qBE.calls k32 x _ _ _ _ _ S.own.sub g0_0 h75)) ?_
  rintro _ u73 a ⟨_,rfl,hC⟩ E
  refine ⟨.of hC.agr,?_⟩
  replace S:=S.lent hC
  refine mny 2 hst E (.r 2 1 .nil) (fun a E=>?_)
  obtain ⟨t77,h78,H⟩:=bd H
  refine on1 4 E (.cl en26 (qAz.calls x _ _ _ _ _ S.own.sub g0_0 h78)) ?_
  rintro _ u76 a ⟨_,rfl,hC⟩ E
  refine ⟨.of hC.agr,?_⟩
  replace S:=S.lent hC
  refine mny 0 hst E (.r 5 1 .nil) (fun a E=>?_)
  refine dn ?_
  refine hK72 _ _ (E.ikn 71 H (fun c79 E H=>?_) fun c79 E H=>?_)
  refine wp_skip (hK71 _ _ (sq fun K81 hK81=>sq fun K82 hK82=>?_))
  have J94:∀ kq92,kq92≤k32→∀(G:NV)(y90:Bool)(a:Act)(w':World),Env 170 G a→At G [(2,.slice A2_0 z.length c2_0),(3,.pointer (pb b2)),(4,.pointer (pb b4)),(8,.pointer (pb b65)),(9,.pointer (pb b67)),(10,iv t54.2.2),(80,.bool y90)]→Sm W F w' F56 [box b67 #[iv t54.2.1.f0,iv t54.2.1.f1,iv t54.2.1.f2,iv t54.2.1.f3,iv t54.2.1.f4,iv t54.2.1.f5,.slice A61 t54.2.1.f6.length c62] 29,box b65 #[.slice A57 t54.1.f0.length c58,iv t54.1.f1,iv t54.1.f2] 50,box b4 #[iv y.f0,iv y.f1,iv y.f2,iv y.f3,.slice A1_4 y.f4.length c1_4,.slice A1_5 y.f5.length c1_5,.slice A1_6 y.f6.length c1_6] 26,box b2 #[.slice A0_0 x.f0.length c0_0,iv x.f1,iv x.f2] 50,row qF.k 29 (.slice A57 t54.1.f0.length c58) t54.1.f0,row ki 3 (.slice A61 t54.2.1.f6.length c62) t54.2.1.f6]→qP.j91 kq92 x y z t54 y90=some r→K82 a w':=by
   intro kq92 hkq G y90 a u95 E A S H
   obtain _ | k93:=kq92
   exact zz H
   rw [qP.j91_s]at H
   obtain ⟨J,E⟩:=E.at A
   refine hK82 _ _ (E.ib 80 H (fun c96 E H=>?_) fun c96 E H=>?_)
   refine rr E fun a E=>(sq fun K98 hK98=>?_)
   have J108:∀ kq106,kq106≤k93→∀(G:NV)(x104:Int)(a:Act)(w':World),Env 170 G a→At G [(3,.pointer (pb b2)),(8,.pointer (pb b65)),(9,.pointer (pb b67)),(10,iv t54.2.2),(11,iv x104)]→Sm W F w' F56 [box b67 #[iv t54.2.1.f0,iv t54.2.1.f1,iv t54.2.1.f2,iv t54.2.1.f3,iv t54.2.1.f4,iv t54.2.1.f5,.slice A61 t54.2.1.f6.length c62] 29,box b65 #[.slice A57 t54.1.f0.length c58,iv t54.1.f1,iv t54.1.f2] 50,box b4 #[iv y.f0,iv y.f1,iv y.f2,iv y.f3,.slice A1_4 y.f4.length c1_4,.slice A1_5 y.f5.length c1_5,.slice A1_6 y.f6.length c1_6] 26,box b2 #[.slice A0_0 x.f0.length c0_0,iv x.f1,iv x.f2] 50,row qF.k 29 (.slice A57 t54.1.f0.length c58) t54.1.f0,row ki 3 (.slice A61 t54.2.1.f6.length c62) t54.2.1.f6]→qP.j105 kq106 x t54 x104=some r→K98 a w':=by
    intro kq106 hkq G x104 a u109 E A S H
    obtain _ | k107:=kq106
    exact zz H
    rw [qP.j105_s]at H
    obtain ⟨J,E⟩:=E.at A
    refine hK98 _ _ (sq fun K110 hK110=>pl0 (plc E (.r 0 3 .nil) (fun a E=>E.fk 91 H (fun c111 E H=>?_) fun c111 E H=>?_)))
    have hb65:=S.ba 1
    refine plc E (.r 3 1<|.b 4 0 hb65<|.r 5 4<|.nil) (fun a E=>E.fk 97 H (fun c112 E H=>?_) fun c112 E H=>?_)
    refine plc E (.r 9 1<|.b 10 1 hb65<|.r 11 3<|.nil) (fun a E=>E.fk 102 H (fun c113 E H=>?_) fun c113 E H=>?_)
    refine plc E (.r 14 1<|.b 15 2 hb65<|.r 16 3<|.nil) (fun a E=>E.fk 107 H (fun c114 E H=>?_) fun c114 E H=>?_)
    refine plc E (.bn 19 0 7 (S.ba 0)<|.r 20 1<|.nil) (fun a E=>?_)
    obtain ⟨t116,h117,H⟩:=bd H
    refine plq E S en27 (qAq.calls k107 t54.2.1 (⟨0,0,0,0,0,0,[]⟩:qF) _ _ _ _ _ _ _ (Sub.refl _) (S.rd_at (i:=5) rfl) (Rd.nil _ _) h117) fun u115 S a E=>plc E (.r 22 2 .nil) (fun a E=>E.fb 112 H (fun c118 E H=>?_) fun c118 E H=>?_)
    refine plc E (.bn 24 0 3 (S.ba 3) .nil) (fun a E=>?_)
    obtain ⟨t120,h121,H⟩:=bd H
    refine plq E S en28 (qCD.calls k107 x _ _ _ _ _ S.own.sub g0_0 h121) fun u119 S a E=>plc E (.r 26 4 .nil) (fun a E=>E.fk 118 H (fun c122 E H=>?_) fun c122 E H=>?_)
    obtain ⟨t124,h125,H⟩:=bd H
    refine plq E S en11 (qAr.calls k107 _ _ _ S.own.sub h125) fun u123 S a E=>plc E (.r 31 2 .nil) (fun a E=>pld (hK110 _ _ (wp_ret (qCV ?_))))
    replace S:=S.pm [] 6
    obtain rfl:=si H
    exact rt1 E ⟨_,rfl,_,rfl,S⟩
    refine plc E (.r 30 3 .nil) (fun a E=>pld (hK110 _ _ (wp_ret (qCV ?_))))
    replace S:=S.pm [] 6
    obtain rfl:=si H
    exact rt1 E ⟨_,rfl,_,rfl,S⟩
    refine plc E (.r 24 9 .nil) (fun a E=>pld (hK110 _ _ (wp_ret (qCV ?_))))
    replace S:=S.pm [] 6
    obtain rfl:=si H
    exact rt1 E ⟨_,rfl,_,rfl,S⟩
    refine plc E (.r 19 14 .nil) (fun a E=>pld (hK110 _ _ (wp_ret (qCV ?_))))
    replace S:=S.pm [] 6
    obtain rfl:=si H
    exact rt1 E ⟨_,rfl,_,rfl,S⟩
    refine plc E (.r 14 19 .nil) (fun a E=>pld (hK110 _ _ (wp_ret (qCV ?_))))
    replace S:=S.pm [] 6
    obtain rfl:=si H
    exact rt1 E ⟨_,rfl,_,rfl,S⟩
    refine plc E (.r 9 24 .nil) (fun a E=>pld (hK110 _ _ (wp_ret (qCV ?_))))
    replace S:=S.pm [] 6
    obtain rfl:=si H
    exact rt1 E ⟨_,rfl,_,rfl,S⟩
    refine plc E (.r 3 30 .nil) (fun a E=>pld (hK110 _ _ (wp_ret (qCV ?_))))
    replace S:=S.pm [] 6
    obtain rfl:=si H
    exact rt1 E ⟨_,rfl,_,rfl,S⟩
   refine sq fun K99 hK99=>pl0 ?_
   have hb2:=S.ba 3
   refine plc E (.bn 0 0 3 hb2 .nil) (fun a E=>?_)
   obtain ⟨t101,h102,H⟩:=bd H
   refine plq E S en26 (qAz.calls x _ _ _ _ _ S.own.sub g0_0 h102) fun u100 S a E=>pld (hK99 _ _ (E.ib 82 H (fun c103 E H=>?_) fun c103 E H=>?_))
   refine pl0 ?_
   have hb2:=S.ba 3
   refine plc E (.r 0 1<|.b 1 0 hb2<|.r 2 2<|.b 4 1 hb2<|.r 5 2<|.nil) (fun a E=>pld ?_)
   exact J108 _ (by omega) _ (w64 ((x.f0.length:Int) - x.f1)) _ _ E .of S H
   refine wp_skip ?_
   exact J108 _ (by omega) _ 0 _ _ E .of S H
   refine wp_skip (hK81 _ _ (sq fun K126 hK126=>pl0 ?_))
   have hb2:=S.ba 3
   refine plc E (.bn 0 0 3 hb2<|.bn 1 0 7 (S.ba 2)<|.r 2 1<|.nil) (fun a E=>?_)
   obtain ⟨t128,h129,H⟩:=bd H
   refine ple E (.cl en29 (qAD.calls k93 x y z _ _ _ _ _ _ _ _ _ _ _ _ _ S.own.sub g0_0 g1_4 g1_5 g1_6 g2_0 h129)) ?_
   rintro _ u127 a ⟨F130,A131,c132,rfl,hC,g133⟩ E
   have hs:=hC.sub
   replace S:=S.called (X:=[]) hC
   replace g2_0:=g2_0.mono hs
   replace g0_0:=g0_0.mono hs
   replace g1_4:=g1_4.mono hs
   replace g1_5:=g1_5.mono hs
   replace g1_6:=g1_6.mono hs
   refine plc E (.r 4 4 .nil) (fun a E=>pla (t:=29) E S [iv 0,iv 0,iv 0,iv 0,iv 0,iv 0,.slice none 0 0] fun b134 u135 hb134 S a E=>plc E (.r 9 1 .nil) (fun a E=>pls E S [iv t128.2.1.f0,iv t128.2.1.f1,iv t128.2.1.f2,iv t128.2.1.f3,iv t128.2.1.f4,iv t128.2.1.f5,.slice A131 t128.2.1.f6.length c132] fun u136 hb134 S a E=>plc E (.r 11 1 .nil) (fun a E=>pld (hK126 _ _ (sq fun K137 hK137=>?_)))))
   refine drawn 42 ⟨[],[],fun q=>False⟩ mixed rfl (by kernel_rfl) (fun hst=>?_)
   replace S:=S.drew
   refine mny 38 hst E (.r 0 4 .nil) (fun a E=>?_)
   refine E.fk 132 H (fun c138 E H=>?_) fun c138 E H=>?_
   have hb65:=S.ba 2
   refine mny 32 hst E (.r 4 1<|.b 5 1 hb65<|.r 6 4<|.nil) (fun a E=>?_)
   refine E.fk 138 H (fun c139 E H=>?_) fun c139 E H=>?_
   have hb2:=S.ba 4
   refine mny 25 hst E (.r 10 1<|.b 11 2 hb65<|.r 12 1<|.b 13 2 hb2<|.r 14 3<|.nil) (fun a E=>?_)
   refine E.fk 145 H (fun c140 E H=>?_) fun c140 E H=>?_
   refine mny 21 hst E (.r 17 1<|.b 18 0 hb65<|.r 19 1<|.b 20 0 hb2<|.nil) (fun a E=>?_)
   obtain ⟨t142,h143,H⟩:=bd H
   refine on1 21 E (.cl en30 (qAW.calls k93 t54.1.f0 x.f0 _ _ _ _ _ _ _ (Sub.refl _) (S.rd_at (i:=5) rfl) (g0_0.mono S.own.sub) h143)) ?_
   rintro _ u141 a ⟨_,rfl,hC⟩ E
   refine ⟨.of hC.agr,?_⟩
   replace S:=S.lent hC
   refine mny 18 hst E (.r 22 2 .nil) (fun a E=>?_)
   refine E.fb 152 H (fun c144 E H=>?_) fun c144 E H=>?_
   have hb67:=S.ba 1
   have hb134:=S.ba 0
   refine mny 16 hst E (.bn 24 0 7 hb67<|.bn 25 0 7 hb134<|.nil) (fun a E=>?_)
   obtain ⟨t146,h147,H⟩:=bd H
   refine on1 26 E (.cl en27 (qAq.calls k93 t54.2.1 t128.2.1 _ _ _ _ _ _ _ (Sub.refl _) (S.rd_at (i:=6) rfl) (g133.mono S.own.sub) h147)) ?_
   rintro _ u145 a ⟨_,rfl,hC⟩ E
   refine ⟨.of hC.agr,?_⟩
   replace S:=S.lent hC
   refine mny 13 hst E (.r 27 2 .nil) (fun a E=>?_)
   refine E.fb 157 H (fun c148 E H=>?_) fun c148 E H=>?_
   have hb65:=S.ba 2
   have hb2:=S.ba 4
   refine mny 7 hst E (.bn 29 0 3 hb65<|.r 31 1<|.b 32 0 hb2<|.r 33 3<|.nil) (fun a E=>?_)
   obtain ⟨t150,h151,H⟩:=bd H
   refine on1 30 E (.cl en28 (qCD.calls k93 t54.1 _ _ _ _ _ (Sub.refl _) (S.rd_at (i:=5) rfl) h151)) ?_
   rintro _ u149 a ⟨_,rfl,hC⟩ E
   refine ⟨.of hC.agr,?_⟩
   replace S:=S.lent hC
   refine mny 3 hst E (.r 36 3 .nil) (fun a E=>?_)
   refine E.fk 167 H (fun c152 E H=>?_) fun c152 E H=>?_
   obtain ⟨t154,h155,H⟩:=bd H
   refine on1 39 E (.cl en11 (qAr.calls k93 _ _ _ S.own.sub h155)) ?_
   rintro _ u153 a ⟨_,rfl,hC⟩ E
   refine ⟨.of hC.agr,?_⟩
   replace S:=S.lent hC
   refine mny 0 hst E (.r 40 2 .nil) (fun a E=>?_)
   refine dn ?_
   refine hK137 _ _ (wp_ret ?_)
   replace S:=S.pm [] 7
   obtain rfl:=si H
   exact rt1 E ⟨_,rfl,_,rfl,S⟩
   refine mny 0 hst E (.r 39 3 .nil) (fun a E=>?_)
   refine dn ?_
   refine hK137 _ _ (wp_ret ?_)
   replace S:=S.pm [] 7
   obtain rfl:=si H
   exact rt1 E ⟨_,rfl,_,rfl,S⟩
   refine mny 0 hst E (.r 29 13 .nil) (fun a E=>?_)
   refine dn ?_
   refine hK137 _ _ (wp_ret ?_)
   replace S:=S.pm [] 7
   obtain rfl:=si H
   exact rt1 E ⟨_,rfl,_,rfl,S⟩
   refine mny 0 hst E (.r 24 18 .nil) (fun a E=>?_)
   refine dn ?_
   refine hK137 _ _ (wp_ret ?_)
   replace S:=S.pm [] 7
   obtain rfl:=si H
   exact rt1 E ⟨_,rfl,_,rfl,S⟩
   refine mny 0 hst E (.r 17 25 .nil) (fun a E=>?_)
   refine dn ?_
   refine hK137 _ _ (wp_ret ?_)
   replace S:=S.pm [] 7
   obtain rfl:=si H
   exact rt1 E ⟨_,rfl,_,rfl,S⟩
   refine mny 0 hst E (.r 10 32 .nil) (fun a E=>?_)
   refine dn ?_
   refine hK137 _ _ (wp_ret ?_)
   replace S:=S.pm [] 7
   obtain rfl:=si H
   exact rt1 E ⟨_,rfl,_,rfl,S⟩
   refine mny 0 hst E (.r 4 38 .nil) (fun a E=>?_)
   refine dn ?_
   refine hK137 _ _ (wp_ret ?_)
   replace S:=S.pm [] 7
   obtain rfl:=si H
   exact rt1 E ⟨_,rfl,_,rfl,S⟩
  refine pl0 (plc E (.bn 0 0 3 (S.ba 5) .nil) (fun a E=>?_))
  obtain ⟨t84,h85,H⟩:=bd H
  refine plq E S en26 (qAz.calls x _ _ _ _ _ S.own.sub g0_0 h85) fun u83 S a E=>plc E (.r 2 2 .nil) (fun a E=>E.fbn 75 H (fun c86 E H=>?_) fun c86 E H=>?_)
  refine plc E (.bn 4 0 7 (S.ba 4)<|.r 5 1<|.nil) (fun a E=>?_)
  obtain ⟨t88,h89,H⟩:=bd H
  refine plq E S en20 (qBC.calls k32 y z _ _ _ _ _ _ _ _ _ _ _ S.own.sub g1_4 g1_5 g1_6 g2_0 h89) fun u87 S a E=>plc E (.r 7 2 .nil) (fun a E=>pld ?_)
  replace S:=S.pm [0,1,4,5,2,3] 6
  exact J94 _ (by omega) _ (!t88) _ _ E .of S H
  refine plc E (.r 4 5 .nil) (fun a E=>pld ?_)
  replace S:=S.pm [0,1,4,5,2,3] 6
  exact J94 _ (by omega) _ true _ _ E .of S H
  refine rr E fun a E=>(wp_ret (qCV ?_))
  replace S:=S.pm [] 6
  obtain rfl:=si H
  exact rt1 E ⟨_,rfl,_,rfl,S⟩
 refine pl0 (plc E (.bn 0 0 7 hb4 .nil) (fun a E=>?_))
 obtain ⟨t9,h10,H⟩:=bd H
 refine plq E S en10 (qX.calls k y _ _ _ _ _ _ _ _ _ S.own.sub g1_4 g1_5 g1_6 h10) fun u8 S a E=>plc E (.r 2 2 .nil) (fun a E=>E.fbn 18 H (fun c11 E H=>?_) fun c11 E H=>?_)
 have hb2:=S.ba 1
 refine plc E (.r 4 1<|.b 5 0 hb2<|.r 6 3<|.nil) (fun a E=>E.fk 23 H (fun c12 E H=>?_) fun c12 E H=>?_)
 refine plc E (.r 9 1<|.b 10 0 hb2<|.r 11 5<|.nil) (fun a E=>E.fk 30 H (fun c13 E H=>?_) fun c13 E H=>?_)
 refine plc E (.r 16 10 .nil) (fun a E=>pld ?_)
 exact J20 _ (by omega) _ true _ _ E .of S H
 refine plc E (.r 16 1<|.b 17 0 hb2<|.r 18 4<|.nil) (fun a E=>E.fk 36 H (fun c14 E H=>?_) fun c14 E H=>?_)
 refine plc E (.r 22 4 .nil) (fun a E=>pld ?_)
 exact J20 _ (by omega) _ true _ _ E .of S H
 refine plc E (.r 22 4 .nil) (fun a E=>pld ?_)
 exact J20 _ (by omega) _ (decide ((z.length:Int)>30)) _ _ E .of S H
 refine plc E (.r 9 8<|.b 17 0 hb2<|.r 18 4<|.nil) (fun a E=>E.fk 36 H (fun c15 E H=>?_) fun c15 E H=>?_)
 refine plc E (.r 22 4 .nil) (fun a E=>pld ?_)
 exact J20 _ (by omega) _ true _ _ E .of S H
 refine plc E (.r 22 4 .nil) (fun a E=>pld ?_)
 exact J20 _ (by omega) _ (decide ((z.length:Int)>30)) _ _ E .of S H
 refine plc E (.r 4 22 .nil) (fun a E=>pld ?_)
 exact J20 _ (by omega) _ true _ _ E .of S H
end Go.Proofs.YthgfhlbjkmjlpaaGreat.GN
