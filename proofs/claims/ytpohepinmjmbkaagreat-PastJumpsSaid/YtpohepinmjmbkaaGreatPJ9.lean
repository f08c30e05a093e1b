import Derived.Test.YtpohepinmjmbkaaGreatPJ8
namespace Go.Proofs.YtpohepinmjmbkaaGreat.PJ
open Go Go.RowKit Go.Proofs.YtpohepinmjmbkaaGreat.Sl
set_option linter.unusedVariables false
set_option linter.unusedSimpArgs false
set_option maxHeartbeats 4000000
set_option maxRecDepth 100000
mutual
def qAN.j29:Nat→qF × Int→Bool→Option qF
 | 0,_,_=>none
 | k+1,t10,y28=>if y28=true then (qAN.j37 k t10 (w64 (t10.1.f0+1))) else (qAN.j37 k t10 t10.1.f0)
def qAN.j37:Nat→qF × Int→Int→Option qF
 | 0,_,_=>none
 | k+1,t10,x36=>some (⟨x36,t10.1.f1,t10.1.f2,t10.1.f3,t10.1.f4,t10.1.f5,t10.1.f6⟩:qF)
end
theorem qAN.j29_s k t10 y28:type_of% (qAN.j29.eq_2 t10 y28 k):=qAN.j29.eq_2 t10 y28 k
theorem qAN.j37_s k t10 x36:type_of% (qAN.j37.eq_2 t10 x36 k):=qAN.j37.eq_2 t10 x36 k
def qAN.f(k:Nat)(x:qF)(y:qE):Option qF:=(qAE.f k x y).bind fun t10=>(if t10.2=0 then (qAN.j29 k t10 false) else (qAN.j29 k t10 (decide (x.f0<2147483647))))
def qAN.Post(W F:World)(r:qF)(v:Value)(w':World):Prop:=∃(F':World)(RA0_4:OA)(rc0_4:Nat)(RA0_5:OA)(rc0_5:Nat)(RA0_6:OA)(rc0_6:Nat),v = .agg #[iv r.f0,iv r.f1,iv r.f2,iv r.f3,.slice RA0_4 r.f4.length rc0_4,.slice RA0_5 r.f5.length rc0_5,.slice RA0_6 r.f6.length rc0_6]∧Sm W F w' F' []∧Rd qA.k F' RA0_4 rc0_4 r.f4∧Rd qD.k F' RA0_5 rc0_5 r.f5∧Rd qC.k F' RA0_6 rc0_6 r.f6
theorem qAN.calls(k:Nat)(x:qF)(y:qE)(A0_4:OA)(c0_4:Nat)(A0_5:OA)(c0_5:Nat)(A0_6:OA)(c0_6:Nat)(A1_6:OA)(c1_6:Nat)(r:qF)(W F:World)(hown:Sub F W)(g0_4:Rd qA.k F A0_4 c0_4 x.f4)(g0_5:Rd qD.k F A0_5 c0_5 x.f5)(g0_6:Rd qC.k F A0_6 c0_6 x.f6)(g1_6:Rd ki F A1_6 c1_6 y.f6)(H:qAN.f k x y=some r):
    Cr 34 #[.agg #[iv x.f0,iv x.f1,iv x.f2,iv x.f3,.slice A0_4 x.f4.length c0_4,.slice A0_5 x.f5.length c0_5,.slice A0_6 x.f6.length c0_6],.agg #[iv y.f0,iv y.f1,iv y.f2,iv y.f3,iv y.f4,iv y.f5,.slice A1_6 y.f6.length c1_6]] W (qAN.Post W F r):=by
 have S:=sT hown
 unfold qAN.f at H
 refine ent 25 rfl rfl rfl (fun a E=>?_)
 refine sq fun K1 hK1=>pl0 (plx (t:=26) E S [iv x.f0,iv x.f1,iv x.f2,iv x.f3,.slice A0_4 x.f4.length c0_4,.slice A0_5 x.f5.length c0_5,.slice A0_6 x.f6.length c0_6] fun b2 u3 hb2 S a E=>plx (t:=40) E S [iv y.f0,iv y.f1,iv y.f2,iv y.f3,iv y.f4,iv y.f5,.slice A1_6 y.f6.length c1_6] fun b4 u5 hb4 S a E=>pla (t:=26) E S [iv 0,iv 0,iv 0,iv 0,.slice none 0 0,.slice none 0 0,.slice none 0 0] fun b6 u7 hb6 S a E=>pld (hK1 _ _ (sq fun K8 hK8=>pl0 (plc E (.bn 0 0 7 (S.ba 2)<|.bn 1 0 7 (S.ba 1)<|.nil) (fun a E=>?_)))))
 obtain ⟨t10,h11,H⟩:=bd H
 refine ple E (.cl en33 (qAE.calls k x y _ _ _ _ _ _ _ _ _ _ _ S.own.sub g0_4 g0_5 g0_6 g1_6 h11)) ?_
 rintro _ u9 a ⟨F12,A13,c14,A16,c17,A19,c20,rfl,hC,g15,g18,g21⟩ E
 have hs:=hC.sub
 replace S:=S.called (X:=[]) hC
 replace g0_4:=g0_4.mono hs
 replace g0_5:=g0_5.mono hs
 replace g0_6:=g0_6.mono hs
 replace g1_6:=g1_6.mono hs
 refine plc E (.r 3 3 .nil) (fun a E=>pla (t:=26) E S [iv 0,iv 0,iv 0,iv 0,.slice none 0 0,.slice none 0 0,.slice none 0 0] fun b22 u23 hb22 S a E=>pls E S [iv t10.1.f0,iv t10.1.f1,iv t10.1.f2,iv t10.1.f3,.slice A13 t10.1.f4.length c14,.slice A16 t10.1.f5.length c17,.slice A19 t10.1.f6.length c20] fun u24 hb22 S a E=>plc E (.r 8 1 .nil) (fun a E=>pld (hK8 _ _ (sq fun K25 hK25=>?_))))
 have J40:∀ kq38,kq38≤k→∀(G:NV)(x36:Int)(a:Act)(w':World),Env 25 G a→At G [(4,.pointer (pb b6)),(5,.pointer (pb b22))]→Sm W F w' F12 [box b22 #[iv x36,iv t10.1.f1,iv t10.1.f2,iv t10.1.f3,.slice A13 t10.1.f4.length c14,.slice A16 t10.1.f5.length c17,.slice A19 t10.1.f6.length c20] 26,box b6 #[iv 0,iv 0,iv 0,iv 0,.slice none 0 0,.slice none 0 0,.slice none 0 0] 26,box b4 #[iv y.f0,iv y.f1,iv y.f2,iv y.f3,iv y.f4,iv y.f5,.slice A1_6 y.f6.length c1_6] 40,box b2 #[iv x.f0,iv x.f1,iv x.f2,iv x.f3,.slice A0_4 x.f4.length c0_4,.slice A0_5 x.f5.length c0_5,.slice A0_6 x.f6.length c0_6] 26]→qAN.j37 kq38 t10 x36=some r→K25 a w':=by
  intro kq38 hkq G x36 a u41 E A S H
  obtain _ | k39:=kq38
  exact zz H
  rw [qAN.j37_s]at H
  obtain ⟨J,E⟩:=E.at A
  refine hK25 _ _ (sq fun K42 hK42=>pl0 (plc E (.bn 0 0 7 (S.ba 0) .nil) (fun a E=>?_)))
  replace S:=S.front 1 rfl
  refine pls E S [iv x36,iv t10.1.f1,iv t10.1.f2,iv t10.1.f3,.slice A13 t10.1.f4.length c14,.slice A16 t10.1.f5.length c17,.slice A19 t10.1.f6.length c20] fun u43 hb6 S a E=>pld (hK42 _ _ (wp_ret ?_))
  replace S:=S.pm [] 4
  obtain rfl:=si H
  exact ret1 E rfl (.cell (by kernel_rfl) (qDC [iv x36,iv t10.1.f1,iv t10.1.f2,iv t10.1.f3,.slice A13 t10.1.f4.length c14,.slice A16 t10.1.f5.length c17,.slice A19 t10.1.f6.length c20] ag26 sz26 hb6 rfl) .nil) ⟨_,rfl,_,_,_,_,_,_,_,rfl,S,g15,g18,g21⟩
 refine sq fun K26 hK26=>?_
 have J32:∀ kq30,kq30≤k→∀(G:NV)(y28:Bool)(a:Act)(w':World),Env 25 G a→At G [(4,.pointer (pb b6)),(5,.pointer (pb b22)),(19,.bool y28)]→Sm W F w' F12 [box b22 #[iv t10.1.f0,iv t10.1.f1,iv t10.1.f2,iv t10.1.f3,.slice A13 t10.1.f4.length c14,.slice A16 t10.1.f5.length c17,.slice A19 t10.1.f6.length c20] 26,box b6 #[iv 0,iv 0,iv 0,iv 0,.slice none 0 0,.slice none 0 0,.slice none 0 0] 26,box b4 #[iv y.f0,iv y.f1,iv y.f2,iv y.f3,iv y.f4,iv y.f5,.slice A1_6 y.f6.length c1_6] 40,box b2 #[iv x.f0,iv x.f1,iv x.f2,iv x.f3,.slice A0_4 x.f4.length c0_4,.slice A0_5 x.f5.length c0_5,.slice A0_6 x.f6.length c0_6] 26]→qAN.j29 kq30 t10 y28=some r→K26 a w':=by
  intro kq30 hkq G y28 a u33 E A S H
  obtain _ | k31:=kq30
  exact zz H
  rw [qAN.j29_s]at H
  obtain ⟨J,E⟩:=E.at A
  refine hK26 _ _ (E.ib 19 H (fun c34 E H=>?_) fun c34 E H=>?_)
  refine pl0 (plc E (.r 0 1<|.b 1 0 (S.ba 0)<|.r 2 2<|.nil) (fun a E=>pls E S [iv (w64 (t10.1.f0+1)),iv t10.1.f1,iv t10.1.f2,iv t10.1.f3,.slice A13 t10.1.f4.length c14,.slice A16 t10.1.f5.length c17,.slice A19 t10.1.f6.length c20] fun u35 hb22 S a E=>pld ?_))
  exact J40 _ (by omega) _ (w64 (t10.1.f0+1)) _ _ E .of S H
  refine wp_skip ?_
  exact J40 _ (by omega) _ t10.1.f0 _ _ E .of S H
 refine pl0 (plc E (.r 0 3 .nil) (fun a E=>E.fkn 15 H (fun c27 E H=>?_) fun c27 E H=>?_))
 refine plc E (.r 3 4 .nil) (fun a E=>pld ?_)
 exact J32 _ (by omega) _ false _ _ E .of S H
 refine plc E (.r 3 1<|.b 4 0 (S.ba 3)<|.r 5 2<|.nil) (fun a E=>pld ?_)
 exact J32 _ (by omega) _ (decide (x.f0<2147483647)) _ _ E .of S H
def qAm.l26:Nat→List qE→Int→Int→Int→Int→Int→List qA→List qD→List qC→Option qF
 | 0,_,_,_,_,_,_,_,_,_=>none
 | k+1,y,x8,x9,x10,x11,x12,l15,l19,l23=>if x8<(y.length:Int) then (if 0≤x8∧x8<(y.length:Int) then ((qAN.f k (⟨x9,x10,x11,x12,l15,l19,l23⟩:qF) (nth qE.z y x8)).bind fun t43=>(qAm.l26 k y (w64 (x8+1)) t43.f0 t43.f1 t43.f2 t43.f3 t43.f4 t43.f5 t43.f6)) else (none)) else (some (⟨x9,x10,x11,x12,l15,l19,l23⟩:qF))
theorem qAm.l26_s k y x8 x9 x10 x11 x12 l15 l19 l23:type_of% (qAm.l26.eq_2 y x8 x9 x10 x11 x12 l15 l19 l23 k):=qAm.l26.eq_2 y x8 x9 x10 x11 x12 l15 l19 l23 k
def qAm.f(k:Nat)(x:qF)(y:List qE):Option qF:=qAm.l26 k y 0 x.f0 x.f1 x.f2 x.f3 x.f4 x.f5 x.f6
def qAm.Post(W F:World)(r:qF)(v:Value)(w':World):Prop:=∃(F':World)(RA0_4:OA)(rc0_4:Nat)(RA0_5:OA)(rc0_5:Nat)(RA0_6:OA)(rc0_6:Nat),v = .agg #[iv r.f0,iv r.f1,iv r.f2,iv r.f3,.slice RA0_4 r.f4.length rc0_4,.slice RA0_5 r.f5.length rc0_5,.slice RA0_6 r.f6.length rc0_6]∧Sm W F w' F' []∧Rd qA.k F' RA0_4 rc0_4 r.f4∧Rd qD.k F' RA0_5 rc0_5 r.f5∧Rd qC.k F' RA0_6 rc0_6 r.f6
theorem qAm.calls(k:Nat)(x:qF)(y:List qE)(A0_4:OA)(c0_4:Nat)(A0_5:OA)(c0_5:Nat)(A0_6:OA)(c0_6:Nat)(A1_0:OA)(c1_0:Nat)(r:qF)(W F:World)(hown:Sub F W)(g0_4:Rd qA.k F A0_4 c0_4 x.f4)(g0_5:Rd qD.k F A0_5 c0_5 x.f5)(g0_6:Rd qC.k F A0_6 c0_6 x.f6)(g1_0:Rd qE.k F A1_0 c1_0 y)(H:qAm.f k x y=some r):
    Cr 30 #[.agg #[iv x.f0,iv x.f1,iv x.f2,iv x.f3,.slice A0_4 x.f4.length c0_4,.slice A0_5 x.f5.length c0_5,.slice A0_6 x.f6.length c0_6],.slice A1_0 y.length c1_0] W (qAm.Post W F r):=by
 have S:=sT hown
 unfold qAm.f at H
 refine ent 19 rfl rfl rfl (fun a E=>?_)
 refine sq fun K1 hK1=>pl0 (plx (t:=26) E S [iv x.f0,iv x.f1,iv x.f2,iv x.f3,.slice A0_4 x.f4.length c0_4,.slice A0_5 x.f5.length c0_5,.slice A0_6 x.f6.length c0_6] fun b2 u3 hb2 S a E=>pla (t:=26) E S [iv 0,iv 0,iv 0,iv 0,.slice none 0 0,.slice none 0 0,.slice none 0 0] fun b4 u5 hb4 S a E=>pld (hK1 _ _ (sq fun K6 hK6=>rr E fun a E=>(wp_block ?_))))
 refine wp_loop_ghost (fun kq27 a w'=>∃(G:NV)(x8:Int)(x9:Int)(x10:Int)(x11:Int)(x12:Int)(A13:OA)(c14:Nat)(l15:List qA)(A17:OA)(c18:Nat)(l19:List qD)(A21:OA)(c22:Nat)(l23:List qC)(F25:World),kq27≤k∧Env 19 G a∧At G [(1,.slice A1_0 y.length c1_0),(2,.pointer (pb b2)),(4,.pointer (pb b4)),(5,iv x8)]∧Sm W F w' F25 [box b4 #[iv 0,iv 0,iv 0,iv 0,.slice none 0 0,.slice none 0 0,.slice none 0 0] 26,box b2 #[iv x9,iv x10,iv x11,iv x12,.slice A13 l15.length c14,.slice A17 l19.length c18,.slice A21 l23.length c22] 26]∧Rd qA.k F25 A13 c14 l15∧Rd qD.k F25 A17 c18 l19∧Rd qC.k F25 A21 c22 l23∧Rd qE.k F25 A1_0 c1_0 y∧qAm.l26 kq27 y x8 x9 x10 x11 x12 l15 l19 l23=some r) k ⟨_,0,x.f0,x.f1,x.f2,x.f3,A0_4,c0_4,x.f4,A0_5,c0_5,x.f5,A0_6,c0_6,x.f6,F,Nat.le_refl _,E,.of,S,g0_4,g0_5,g0_6,g1_0,H⟩ ?_
 rintro kq27 a u29 ⟨G,x8,x9,x10,x11,x12,A13,c14,l15,A17,c18,l19,A21,c22,l23,F25,hkq,E,A,S,g16,g20,g24,g1_0,H⟩
 obtain _ | k28:=kq27
 exact zz H
 rw [qAm.l26_s]at H
 obtain ⟨J,E⟩:=E.at A
 refine sq fun K30 hK30=>rr E fun a E=>(E.ik 9 H (fun c32 E H=>?_) fun c32 E H=>?_)
 refine wp_skip (hK30 _ _ (sq fun K33 hK33=>wp_block ?_))
 refine drawn 7 ⟨[6],[],fun q=>False⟩ mixed rfl (by kernel_rfl) (fun hst=>?_)
 replace S:=S.drew
 have hb2:=S.ba 1
 obtain ⟨c34,H⟩:=gd H
 have hE_:=E
 obtain ⟨ad35,rfl⟩:=g1_0.addr c34.1 c34.2
 replace E:=hE_
 obtain ⟨cs37,⟨A39,c40,rfl,g41⟩,hc38⟩:=g1_0.el qE.z x8 c34.1 c34.2
 refine mny 2 hst E (.bn 0 0 7 hb2<|.r 1 2<|.x 3 c34<|.cs 4 (S.fcs hc38)<|.nil) (fun a E=>?_)
 obtain ⟨t43,h44,H⟩:=bd H
 refine on1 5 E (.cl en34 (qAN.calls k28 (⟨x9,x10,x11,x12,l15,l19,l23⟩:qF) (nth qE.z y x8) _ _ _ _ _ _ _ _ _ _ _ S.own.sub g16 g20 g24 g41 h44)) ?_
 rintro _ u42 a ⟨F45,A46,c47,A49,c50,A52,c53,rfl,hC,g48,g51,g54⟩ E
 refine ⟨.of hC.agr,?_⟩
 have hs:=hC.sub
 replace S:=S.called (X:=[]) hC
 replace g1_0:=g1_0.mono hs
 replace g16:=g16.mono hs
 replace g20:=g20.mono hs
 replace g24:=g24.mono hs
 replace g41:=g41.mono hs
 replace S:=S.front 1 rfl
 refine on1 6 E (.sto S [iv t43.f0,iv t43.f1,iv t43.f2,iv t43.f3,.slice A46 t43.f4.length c47,.slice A49 t43.f5.length c50,.slice A52 t43.f6.length c53]) ?_
 rintro _ u55 a ⟨rfl,hb2,S,hz⟩ E
 refine ⟨.d,?_⟩
 refine dn ?_
 refine qCp ?_
 refine hK33 _ _ (pl0 (plc E (.r 0 3 .nil) (fun a E=>pld ?_)))
 replace S:=S.front 1 rfl
 exact qCq ⟨k28,by omega,_,(w64 (x8+1)),t43.f0,t43.f1,t43.f2,t43.f3,A46,c47,t43.f4,A49,c50,t43.f5,A52,c53,t43.f6,F45,by omega,E,.of,S,g48,g51,g54,g1_0,H⟩
 refine wp_exit ?_
 refine hK6 _ _ (sq fun K56 hK56=>pl0 (plc E (.bn 0 0 7 (S.ba 1) .nil) (fun a E=>pls E S [iv x9,iv x10,iv x11,iv x12,.slice A13 l15.length c14,.slice A17 l19.length c18,.slice A21 l23.length c22] fun u57 hb4 S a E=>pld (hK56 _ _ (wp_ret ?_)))))
 replace S:=S.pm [] 2
 obtain rfl:=si H
 exact ret1 E rfl (.cell (by kernel_rfl) (qDC [iv x9,iv x10,iv x11,iv x12,.slice A13 l15.length c14,.slice A17 l19.length c18,.slice A21 l23.length c22] ag26 sz26 hb4 rfl) .nil) ⟨_,rfl,_,_,_,_,_,_,_,rfl,S,g16,g20,g24⟩
def qBO.f(k:Nat)(x:qp):Option qF:=(qAm.f k x.f0 x.f1).bind fun t8=>(some t8)
def qBO.Post(W F:World)(r:qF)(v:Value)(w':World):Prop:=∃(F':World)(RA0_4:OA)(rc0_4:Nat)(RA0_5:OA)(rc0_5:Nat)(RA0_6:OA)(rc0_6:Nat),v = .agg #[iv r.f0,iv r.f1,iv r.f2,iv r.f3,.slice RA0_4 r.f4.length rc0_4,.slice RA0_5 r.f5.length rc0_5,.slice RA0_6 r.f6.length rc0_6]∧Sm W F w' F' []∧Rd qA.k F' RA0_4 rc0_4 r.f4∧Rd qD.k F' RA0_5 rc0_5 r.f5∧Rd qC.k F' RA0_6 rc0_6 r.f6
theorem qBO.calls(k:Nat)(x:qp)(A0_4:OA)(c0_4:Nat)(A0_5:OA)(c0_5:Nat)(A0_6:OA)(c0_6:Nat)(A0_7:OA)(c0_7:Nat)(r:qF)(W F:World)(hown:Sub F W)(g0_4:Rd qA.k F A0_4 c0_4 x.f0.f4)(g0_5:Rd qD.k F A0_5 c0_5 x.f0.f5)(g0_6:Rd qC.k F A0_6 c0_6 x.f0.f6)(g0_7:Rd qE.k F A0_7 c0_7 x.f1)(H:qBO.f k x=some r):
    Cr 100 #[.agg #[iv x.f0.f0,iv x.f0.f1,iv x.f0.f2,iv x.f0.f3,.slice A0_4 x.f0.f4.length c0_4,.slice A0_5 x.f0.f5.length c0_5,.slice A0_6 x.f0.f6.length c0_6,.slice A0_7 x.f1.length c0_7]] W (qBO.Post W F r):=by
 have S:=sT hown
 unfold qBO.f at H
 refine ent 8 rfl rfl rfl (fun a E=>?_)
 refine sq fun K1 hK1=>pl0 (plx (t:=59) E S [iv x.f0.f0,iv x.f0.f1,iv x.f0.f2,iv x.f0.f3,.slice A0_4 x.f0.f4.length c0_4,.slice A0_5 x.f0.f5.length c0_5,.slice A0_6 x.f0.f6.length c0_6,.slice A0_7 x.f1.length c0_7] fun b2 u3 hb2 S a E=>pla (t:=26) E S [iv 0,iv 0,iv 0,iv 0,.slice none 0 0,.slice none 0 0,.slice none 0 0] fun b4 u5 hb4 S a E=>pld (hK1 _ _ (sq fun K6 hK6=>pl0 ?_)))
 have hb2:=S.ba 1
 refine plc E (.r 0 1<|.bn 1 0 7 hb2<|.r 2 1<|.b 3 7 hb2<|.nil) (fun a E=>?_)
 obtain ⟨t8,h9,H⟩:=bd H
 refine ple E (.cl en30 (qAm.calls k x.f0 x.f1 _ _ _ _ _ _ _ _ _ _ _ S.own.sub g0_4 g0_5 g0_6 g0_7 h9)) ?_
 rintro _ u7 a ⟨F10,A11,c12,A14,c15,A17,c18,rfl,hC,g13,g16,g19⟩ E
 have hs:=hC.sub
 replace S:=S.called (X:=[]) hC
 replace g0_4:=g0_4.mono hs
 replace g0_5:=g0_5.mono hs
 replace g0_6:=g0_6.mono hs
 replace g0_7:=g0_7.mono hs
 refine pls E S [iv t8.f0,iv t8.f1,iv t8.f2,iv t8.f3,.slice A11 t8.f4.length c12,.slice A14 t8.f5.length c15,.slice A17 t8.f6.length c18] fun u20 hb4 S a E=>pld (hK6 _ _ (wp_ret ?_))
 replace S:=S.pm [] 2
 obtain rfl:=si H
 exact ret1 E rfl (.cell (by kernel_rfl) (qDC [iv t8.f0,iv t8.f1,iv t8.f2,iv t8.f3,.slice A11 t8.f4.length c12,.slice A14 t8.f5.length c15,.slice A17 t8.f6.length c18] ag26 sz26 hb4 rfl) .nil) ⟨_,rfl,_,_,_,_,_,_,_,rfl,S,g13,g16,g19⟩
def qAc.j35:Nat→qp→qF→Bool→Option (qp × Bool)
 | 0,_,_,_=>none
 | k+1,x,y,y34=>if y34=true then (some (x,false)) else (some ((⟨y,[]⟩:qp),true))
theorem qAc.j35_s k x y y34:type_of% (qAc.j35.eq_2 x y y34 k):=qAc.j35.eq_2 x y y34 k
def qAc.f(k:Nat)(x:qp)(y:qF):Option (qp × Bool):=(qBO.f k x).bind fun t10=>((qg.f k y).bind fun t28=>(if t28=true then (if y.f1=t10.f1 then (if y.f2=t10.f2 then (if y.f3=t10.f3 then (qAc.j35 k x y (decide (y.f0≤t10.f0))) else (qAc.j35 k x y true)) else (qAc.j35 k x y true)) else (qAc.j35 k x y true)) else (qAc.j35 k x y true)))
def qAc.Post(W F:World)(r:qp × Bool)(v:Value)(w':World):Prop:=∃(F':World)(RA0_4:OA)(rc0_4:Nat)(RA0_5:OA)(rc0_5:Nat)(RA0_6:OA)(rc0_6:Nat)(RA0_7:OA)(rc0_7:Nat),v = .tuple #[.agg #[iv r.1.f0.f0,iv r.1.f0.f1,iv r.1.f0.f2,iv r.1.f0.f3,.slice RA0_4 r.1.f0.f4.length rc0_4,.slice RA0_5 r.1.f0.f5.length rc0_5,.slice RA0_6 r.1.f0.f6.length rc0_6,.slice RA0_7 r.1.f1.length rc0_7],.bool r.2]∧Sm W F w' F' []∧Rd qA.k F' RA0_4 rc0_4 r.1.f0.f4∧Rd qD.k F' RA0_5 rc0_5 r.1.f0.f5∧Rd qC.k F' RA0_6 rc0_6 r.1.f0.f6∧Rd qE.k F' RA0_7 rc0_7 r.1.f1
theorem qAc.calls(k:Nat)(x:qp)(y:qF)(A0_4:OA)(c0_4:Nat)(A0_5:OA)(c0_5:Nat)(A0_6:OA)(c0_6:Nat)(A0_7:OA)(c0_7:Nat)(A1_4:OA)(c1_4:Nat)(A1_5:OA)(c1_5:Nat)(A1_6:OA)(c1_6:Nat)(r:qp × Bool)(W F:World)(hown:Sub F W)(g0_4:Rd qA.k F A0_4 c0_4 x.f0.f4)(g0_5:Rd qD.k F A0_5 c0_5 x.f0.f5)(g0_6:Rd qC.k F A0_6 c0_6 x.f0.f6)(g0_7:Rd qE.k F A0_7 c0_7 x.f1)(g1_4:Rd qA.k F A1_4 c1_4 y.f4)(g1_5:Rd qD.k F A1_5 c1_5 y.f5)(g1_6:Rd qC.k F A1_6 c1_6 y.f6)(H:qAc.f k x y=some r):
    Cr 44 #[.agg #[iv x.f0.f0,iv x.f0.f1,iv x.f0.f2,iv x.f0.f3,.slice A0_4 x.f0.f4.length c0_4,.slice A0_5 x.f0.f5.length c0_5,.slice A0_6 x.f0.f6.length c0_6,.slice A0_7 x.f1.length c0_7],.agg #[iv y.f0,iv y.f1,iv y.f2,iv y.f3,.slice A1_4 y.f4.length c1_4,.slice A1_5 y.f5.length c1_5,.slice A1_6 y.f6.length c1_6]] W (qAc.Post W F r):=by
 have S:=sT hown
 unfold qAc.f at H
 refine ent 43 rfl rfl rfl (fun a E=>?_)
 refine sq fun K1 hK1=>pl0 (plx (t:=59) E S [iv x.f0.f0,iv x.f0.f1,iv x.f0.f2,iv x.f0.f3,.slice A0_4 x.f0.f4.length c0_4,.slice A0_5 x.f0.f5.length c0_5,.slice A0_6 x.f0.f6.length c0_6,.slice A0_7 x.f1.length c0_7] fun b2 u3 hb2 S a E=>plx (t:=26) E S [iv y.f0,iv y.f1,iv y.f2,iv y.f3,.slice A1_4 y.f4.length c1_4,.slice A1_5 y.f5.length c1_5,.slice A1_6 y.f6.length c1_6] fun b4 u5 hb4 S a E=>pla (t:=59) E S [iv 0,iv 0,iv 0,iv 0,.slice none 0 0,.slice none 0 0,.slice none 0 0,.slice none 0 0] fun b6 u7 hb6 S a E=>plc E (.r 3 1 .nil) (fun a E=>pld (hK1 _ _ (sq fun K8 hK8=>pl0 ?_))))
 have hb2:=S.ba 2
 refine plc E (.bn 0 0 8 hb2 .nil) (fun a E=>?_)
 obtain ⟨t10,h11,H⟩:=bd H
 refine ple E (.cl en100 (qBO.calls k x _ _ _ _ _ _ _ _ _ _ _ S.own.sub g0_4 g0_5 g0_6 g0_7 h11)) ?_
 rintro _ u9 a ⟨F12,A13,c14,A16,c17,A19,c20,rfl,hC,g15,g18,g21⟩ E
 have hs:=hC.sub
 replace S:=S.called (X:=[]) hC
 replace g0_4:=g0_4.mono hs
 replace g0_5:=g0_5.mono hs
 replace g0_6:=g0_6.mono hs
 replace g0_7:=g0_7.mono hs
 replace g1_4:=g1_4.mono hs
 replace g1_5:=g1_5.mono hs
 replace g1_6:=g1_6.mono hs
 refine pla (t:=26) E S [iv 0,iv 0,iv 0,iv 0,.slice none 0 0,.slice none 0 0,.slice none 0 0] fun b22 u23 hb22 S a E=>pls E S [iv t10.f0,iv t10.f1,iv t10.f2,iv t10.f3,.slice A13 t10.f4.length c14,.slice A16 t10.f5.length c17,.slice A19 t10.f6.length c20] fun u24 hb22 S a E=>pld (hK8 _ _ (sq fun K25 hK25=>sq fun K26 hK26=>?_))
 have J38:∀ kq36,kq36≤k→∀(G:NV)(y34:Bool)(a:Act)(w':World),Env 43 G a→At G [(2,.pointer (pb b2)),(3,.pointer (pb b4)),(4,.pointer (pb b6)),(39,.bool y34)]→Sm W F w' F12 [box b22 #[iv t10.f0,iv t10.f1,iv t10.f2,iv t10.f3,.slice A13 t10.f4.length c14,.slice A16 t10.f5.length c17,.slice A19 t10.f6.length c20] 26,box b6 #[iv 0,iv 0,iv 0,iv 0,.slice none 0 0,.slice none 0 0,.slice none 0 0,.slice none 0 0] 59,box b4 #[iv y.f0,iv y.f1,iv y.f2,iv y.f3,.slice A1_4 y.f4.length c1_4,.slice A1_5 y.f5.length c1_5,.slice A1_6 y.f6.length c1_6] 26,box b2 #[iv x.f0.f0,iv x.f0.f1,iv x.f0.f2,iv x.f0.f3,.slice A0_4 x.f0.f4.length c0_4,.slice A0_5 x.f0.f5.length c0_5,.slice A0_6 x.f0.f6.length c0_6,.slice A0_7 x.f1.length c0_7] 59]→qAc.j35 kq36 x y y34=some r→K26 a w':=by
  intro kq36 hkq G y34 a u39 E A S H
  obtain _ | k37:=kq36
  exact zz H
  rw [qAc.j35_s]at H
  obtain ⟨J,E⟩:=E.at A
  refine hK26 _ _ (E.ib 39 H (fun c40 E H=>?_) fun c40 E H=>?_)
  refine sq fun K41 hK41=>pl0 (plc E (.bn 0 0 8 (S.ba 3) .nil) (fun a E=>?_))
  replace S:=S.front 1 rfl
  refine pls E S [iv x.f0.f0,iv x.f0.f1,iv x.f0.f2,iv x.f0.f3,.slice A0_4 x.f0.f4.length c0_4,.slice A0_5 x.f0.f5.length c0_5,.slice A0_6 x.f0.f6.length c0_6,.slice A0_7 x.f1.length c0_7] fun u42 hb6 S a E=>plc E (.r 2 1 .nil) (fun a E=>pld (hK41 _ _ (wp_ret (qCn ?_))))
  replace S:=S.pm [] 4
  obtain rfl:=si H
  exact rtm E (.b hb6 ag59 sz59 (.t .nil)) ⟨_,rfl,_,_,_,_,_,_,_,_,_,rfl,S,g0_4,g0_5,g0_6,g0_7⟩
  refine wp_skip (hK25 _ _ (sq fun K43 hK43=>pl0 (plc E (.bn 0 0 7 (S.ba 2)<|.r 1 1<|.nil) (fun a E=>?_))))
  replace S:=S.front 1 rfl
  refine pls E S [iv y.f0,iv y.f1,iv y.f2,iv y.f3,.slice A1_4 y.f4.length c1_4,.slice A1_5 y.f5.length c1_5,.slice A1_6 y.f6.length c1_6,.slice none 0 0] fun u44 hb6 S a E=>plc E (.r 3 1 .nil) (fun a E=>pld (hK43 _ _ (wp_ret ?_)))
  replace S:=S.pm [] 4
  obtain rfl:=si H
  exact rtm E (.b hb6 ag59 sz59 (.t .nil)) ⟨_,rfl,_,_,_,_,_,_,_,_,_,rfl,S,g1_4,g1_5,g1_6,(Rd.nil _ _)⟩
 refine pl0 ?_
 have hb4:=S.ba 2
 refine plc E (.bn 0 0 7 hb4 .nil) (fun a E=>?_)
 obtain ⟨t28,h29,H⟩:=bd H
 refine plq E S en19 (qg.calls k y _ _ _ _ _ _ _ _ _ S.own.sub g1_4 g1_5 g1_6 h29) fun u27 S a E=>plc E (.r 2 2 .nil) (fun a E=>E.fbn 12 H (fun c30 E H=>?_) fun c30 E H=>?_)
 have hb4:=S.ba 2
 have hb22:=S.ba 0
 refine plc E (.r 4 1<|.b 5 1 hb4<|.r 6 1<|.b 7 1 hb22<|.r 8 3<|.nil) (fun a E=>E.fkn 19 H (fun c31 E H=>?_) fun c31 E H=>?_)
 refine plc E (.r 11 1<|.b 12 2 hb4<|.r 13 1<|.b 14 2 hb22<|.r 15 3<|.nil) (fun a E=>E.fkn 26 H (fun c32 E H=>?_) fun c32 E H=>?_)
 refine plc E (.r 18 1<|.b 19 3 hb4<|.r 20 1<|.b 21 3 hb22<|.r 22 3<|.nil) (fun a E=>E.fkn 33 H (fun c33 E H=>?_) fun c33 E H=>?_)
 refine plc E (.r 25 1<|.b 26 0 hb4<|.r 27 1<|.b 28 0 hb22<|.r 29 2<|.nil) (fun a E=>pld ?_)
 exact J38 _ (by omega) _ (decide (y.f0≤t10.f0)) _ _ E .of S H
 refine plc E (.r 25 6 .nil) (fun a E=>pld ?_)
 exact J38 _ (by omega) _ true _ _ E .of S H
 refine plc E (.r 18 13 .nil) (fun a E=>pld ?_)
 exact J38 _ (by omega) _ true _ _ E .of S H
 refine plc E (.r 11 20 .nil) (fun a E=>pld ?_)
 exact J38 _ (by omega) _ true _ _ E .of S H
 refine plc E (.r 4 27 .nil) (fun a E=>pld ?_)
 exact J38 _ (by omega) _ true _ _ E .of S H
mutual
def qAB.j20:Nat→qp→Int→Bool→Option ((List qE) × Bool)
 | 0,_,_,_=>none
 | k+1,x,y,y19=>if y19=true then (some ([],false)) else (qAB.l40 k x y ([]:List qE) 0)
def qAB.l40:Nat→qp→Int→List qE→Int→Option ((List qE) × Bool)
 | 0,_,_,_,_=>none
 | k+1,x,y,l38,x39=>if x39<(x.f1.length:Int) then (if x39≥(w64 (y - x.f0.f0)) then (if 0≤x39∧x39<(x.f1.length:Int) then (if ((l38.length:Int)+((1:Nat):Int)) * 72≤140737488355328 then (qAB.l40 k x y (l38++[(nth qE.z x.f1 x39)]) (w64 (x39+1))) else (none)) else (none)) else (qAB.l40 k x y l38 (w64 (x39+1)))) else (some (l38,true))
end
theorem qAB.j20_s k x y y19:type_of% (qAB.j20.eq_2 x y y19 k):=qAB.j20.eq_2 x y y19 k
theorem qAB.l40_s k x y l38 x39:type_of% (qAB.l40.eq_2 x y l38 x39 k):=qAB.l40.eq_2 x y l38 x39 k
def qAB.f(k:Nat)(x:qp)(y:Int):Option ((List qE) × Bool):=if y<x.f0.f0 then (qAB.j20 k x y true) else ((qBO.f k x).bind fun t8=>(qAB.j20 k x y (decide (y>t8.f0))))
def qAB.Post(W F:World)(r:(List qE) × Bool)(v:Value)(w':World):Prop:=∃(F':World)(RA0_0:OA)(rc0_0:Nat),v = .tuple #[.slice RA0_0 r.1.length rc0_0,.bool r.2]∧Sm W F w' F' [row qE.k 40 (.slice RA0_0 r.1.length rc0_0) r.1]
theorem qAB.calls(k:Nat)(x:qp)(y:Int)(A0_4:OA)(c0_4:Nat)(A0_5:OA)(c0_5:Nat)(A0_6:OA)(c0_6:Nat)(A0_7:OA)(c0_7:Nat)(r:(List qE) × Bool)(W F:World)(hown:Sub F W)(g0_4:Rd qA.k F A0_4 c0_4 x.f0.f4)(g0_5:Rd qD.k F A0_5 c0_5 x.f0.f5)(g0_6:Rd qC.k F A0_6 c0_6 x.f0.f6)(g0_7:Rd qE.k F A0_7 c0_7 x.f1)(H:qAB.f k x y=some r):
    Cr 45 #[.agg #[iv x.f0.f0,iv x.f0.f1,iv x.f0.f2,iv x.f0.f3,.slice A0_4 x.f0.f4.length c0_4,.slice A0_5 x.f0.f5.length c0_5,.slice A0_6 x.f0.f6.length c0_6,.slice A0_7 x.f1.length c0_7],iv y] W (qAB.Post W F r):=by
 have S:=sT hown
 unfold qAB.f at H
 refine ent 44 rfl rfl rfl (fun a E=>?_)
 refine sq fun K1 hK1=>pl0 (plx (t:=59) E S [iv x.f0.f0,iv x.f0.f1,iv x.f0.f2,iv x.f0.f3,.slice A0_4 x.f0.f4.length c0_4,.slice A0_5 x.f0.f5.length c0_5,.slice A0_6 x.f0.f6.length c0_6,.slice A0_7 x.f1.length c0_7] fun b2 u3 hb2 S a E=>plc E (.r 1 2 .nil) (fun a E=>pld (hK1 _ _ (sq fun K4 hK4=>sq fun K5 hK5=>?_))))
 have J23:∀ kq21,kq21≤k→∀(G:NV)(y19:Bool)(a:Act)(w':World),Env 44 G a→At G [(1,iv y),(2,.pointer (pb b2)),(19,.bool y19)]→Sm W F w' F [box b2 #[iv x.f0.f0,iv x.f0.f1,iv x.f0.f2,iv x.f0.f3,.slice A0_4 x.f0.f4.length c0_4,.slice A0_5 x.f0.f5.length c0_5,.slice A0_6 x.f0.f6.length c0_6,.slice A0_7 x.f1.length c0_7] 59]→qAB.j20 kq21 x y y19=some r→K5 a w':=by
  intro kq21 hkq G y19 a u24 E A S H
  obtain _ | k22:=kq21
  exact zz H
  rw [qAB.j20_s]at H
  obtain ⟨J,E⟩:=E.at A
  refine hK5 _ _ (E.ib 19 H (fun c25 E H=>?_) fun c25 E H=>?_)
  refine rr E fun a E=>(wp_ret (qCn ?_))
  replace S:=S.nilrow qE.k 40
  replace S:=S.pm [0] 2
  obtain rfl:=si H
  exact rtN E ⟨_,rfl,_,_,_,rfl,S⟩
  refine wp_skip (hK4 _ _ (sq fun K28 hK28=>pl0 (ple E (.lit (d:=qE.k) (e:=40) S ([]:List qE) (.nil)) ?_)))
  rintro _ u29 a ⟨A30,c31,rfl,S,hg⟩ E
  refine plc E (.r 1 1 .nil) (fun a E=>pld (hK28 _ _ (sq fun K33 hK33=>rr E fun a E=>(wp_block ?_))))
  replace S:=S.front 1 rfl
  refine wp_loop_ghost (fun kq41 a w'=>∃(G:NV)(A36:OA)(c37:Nat)(l38:List qE)(x39:Int),kq41≤k22∧Env 44 G a∧At G [(1,iv y),(2,.pointer (pb b2)),(6,.slice A36 l38.length c37),(7,iv x39)]∧Sm W F w' F [box b2 #[iv x.f0.f0,iv x.f0.f1,iv x.f0.f2,iv x.f0.f3,.slice A0_4 x.f0.f4.length c0_4,.slice A0_5 x.f0.f5.length c0_5,.slice A0_6 x.f0.f6.length c0_6,.slice A0_7 x.f1.length c0_7] 59,row qE.k 40 (.slice A36 l38.length c37) l38]∧qAB.l40 kq41 x y l38 x39=some r) k22 ⟨_,A30,c31,([]:List qE),0,Nat.le_refl _,E,.of,S,H⟩ ?_
  rintro kq41 a u43 ⟨G,A36,c37,l38,x39,hkq,E,A,S,H⟩
  obtain _ | k42:=kq41
  exact zz H
  rw [qAB.l40_s]at H
  obtain ⟨J,E⟩:=E.at A
  refine sq fun K44 hK44=>sq fun K45 hK45=>pl0 ?_
  have hb2:=S.ba 0
  refine plc E (.r 0 2<|.b 2 7 hb2<|.r 3 2<|.nil) (fun a E=>pld (hK45 _ _ (E.ik 25 H (fun c46 E H=>?_) fun c46 E H=>?_)))
  refine wp_skip (hK44 _ _ (sq fun K47 hK47=>wp_block (rg E (.r 0 4<|.b 4 0 hb2<|.r 5 2<|.nil) fun a E=>(E.ik 34 H (fun c49 E H=>?_) fun c49 E H=>?_))))
  refine pl0 ?_
  obtain ⟨c50,H⟩:=gd H
  have hE_:=E
  obtain ⟨ad51,rfl⟩:=g0_7.addr c50.1 c50.2
  replace E:=hE_
  obtain ⟨cs53,⟨A55,c56,rfl,g57⟩,hc54⟩:=g0_7.el qE.z x39 c50.1 c50.2
  refine plc E (.r 0 2<|.b 2 7 hb2<|.r 3 1<|.x 4 c50<|.cs 5 (S.fcs hc54)<|.nil) (fun a E=>ple E (.lit (d:=qE.k) (e:=40) S [(nth qE.z x.f1 x39)] (.cons ⟨_,_,rfl,g57⟩ .nil)) ?_)
  rintro _ u58 a ⟨A59,c60,rfl,S,hg⟩ E
  obtain ⟨c62,H⟩:=gd H
  replace S:=S.front 2 rfl
  refine ple E (.ap (d:=qE.k) 72 S (qCy (S.row_at (i:=1) rfl)) c62 c60) ?_
  rintro _ u65 a ⟨A63,c64,rfl,S,hz⟩ E
  refine plc E (.r 8 1 .nil) (fun a E=>pld ?_)
  refine qCp ?_
  refine hK47 _ _ (pl0 (plc E (.r 0 3 .nil) (fun a E=>pld ?_)))
  replace S:=S.pm [2,0] 3
  exact qCq ⟨k42,by omega,_,A63,c64,(l38++[(nth qE.z x.f1 x39)]),(w64 (x39+1)),by omega,E,.of,S,H⟩
  refine wp_skip ?_
  refine qCp ?_
  refine hK47 _ _ (pl0 (plc E (.r 0 3 .nil) (fun a E=>pld ?_)))
  exact qCq ⟨k42,by omega,_,A36,c37,l38,(w64 (x39+1)),by omega,E,.of,S,H⟩
  refine wp_exit ?_
  refine hK33 _ _ (rr E fun a E=>(wp_ret ?_))
  replace S:=S.tail
  obtain rfl:=si H
  exact rtN E ⟨_,rfl,_,_,_,rfl,S⟩
 refine pl0 (plc E (.r 0 3<|.b 3 0 hb2<|.r 4 2<|.nil) (fun a E=>E.fk 13 H (fun c6 E H=>?_) fun c6 E H=>?_))
 refine plc E (.r 6 6 .nil) (fun a E=>pld ?_)
 exact J23 _ (by omega) _ true _ _ E .of S H
 refine plc E (.r 6 1<|.bn 7 0 8 hb2<|.nil) (fun a E=>?_)
 obtain ⟨t8,h9,H⟩:=bd H
 refine ple E (.cl en100 (qBO.calls k x _ _ _ _ _ _ _ _ _ _ _ S.own.sub g0_4 g0_5 g0_6 g0_7 h9)) ?_
 rintro _ u7 a ⟨_,A10,c11,A13,c14,A16,c17,rfl,hC,g12,g15,g18⟩ E
 replace S:=S.lent hC
 refine plc E (.r 9 3 .nil) (fun a E=>pld ?_)
 exact J23 _ (by omega) _ (decide (y>t8.f0)) _ _ E .of S H
def qAn.l9:Nat→List qA→List qA→Int→Option Bool
 | 0,_,_,_=>none
 | k+1,x,y,x8=>if x8<(x.length:Int) then (if 0≤x8∧x8<(x.length:Int) then (if 0≤x8∧x8<(y.length:Int) then (if (nth qA.z x x8)=(nth qA.z y x8) then (qAn.l9 k x y (w64 (x8+1))) else (some false)) else (none)) else (none)) else (some true)
theorem qAn.l9_s k x y x8:type_of% (qAn.l9.eq_2 x y x8 k):=qAn.l9.eq_2 x y x8 k
def qAn.f(k:Nat)(x:List qA)(y:List qA):Option Bool:=if (x.length:Int)=(y.length:Int) then (qAn.l9 k x y 0) else (some false)
def qAn.Post(W F:World)(r:Bool)(v:Value)(w':World):Prop:=∃(F':World),v = .bool r∧Sm W F w' F' []
theorem qAn.calls(k:Nat)(x:List qA)(y:List qA)(A0_0:OA)(c0_0:Nat)(A1_0:OA)(c1_0:Nat)(r:Bool)(W F:World)(hown:Sub F W)(g0_0:Rd qA.k F A0_0 c0_0 x)(g1_0:Rd qA.k F A1_0 c1_0 y)(H:qAn.f k x y=some r):
    Cr 65 #[.slice A0_0 x.length c0_0,.slice A1_0 y.length c1_0] W (qAn.Post W F r):=by
 have S:=sT hown
 unfold qAn.f at H
 refine ent 26 rfl rfl rfl (fun a E=>?_)
 refine rr E fun a E=>(sq fun K2 hK2=>rr E fun a E=>(E.ikn 10 H (fun c4 E H=>?_) fun c4 E H=>?_))
 refine wp_skip (hK2 _ _ (sq fun K6 hK6=>rr E fun a E=>(wp_block ?_)))
 refine wp_loop_ghost (fun kq10 a w'=>∃(G:NV)(x8:Int),kq10≤k∧Env 26 G a∧At G [(0,.slice A0_0 x.length c0_0),(1,.slice A1_0 y.length c1_0),(5,iv x8)]∧Sm W F w' F []∧qAn.l9 kq10 x y x8=some r) k ⟨_,0,Nat.le_refl _,E,.of,S,H⟩ ?_
 rintro kq10 a u12 ⟨G,x8,hkq,E,A,S,H⟩
 obtain _ | k11:=kq10
 exact zz H
 rw [qAn.l9_s]at H
 obtain ⟨J,E⟩:=E.at A
 refine sq fun K13 hK13=>rr E fun a E=>(E.ik 14 H (fun c15 E H=>?_) fun c15 E H=>?_)
 refine wp_skip (hK13 _ _ (sq fun K16 hK16=>wp_block (sq fun K17 hK17=>?_)))
 refine drawn 9 ⟨[],[],fun q=>False⟩ mixed rfl (by kernel_rfl) (fun hst=>?_)
 replace S:=S.drew
 obtain ⟨c18,H⟩:=gd H
 have hE_:=E
 obtain ⟨ad19,rfl⟩:=g0_0.addr c18.1 c18.2
 replace E:=hE_
 obtain ⟨cs21,rfl,hc22⟩:=g0_0.el qA.z x8 c18.1 c18.2
 obtain ⟨c23,H⟩:=gd H
 have hE_:=E
 obtain ⟨ad24,rfl⟩:=g1_0.addr c23.1 c23.2
 replace E:=hE_
 obtain ⟨cs26,rfl,hc27⟩:=g1_0.el qA.z x8 c23.1 c23.2
 refine mny 0 hst E (.r 0 2<|.x 2 c18<|.cs 3 (S.fcs hc22)<|.r 4 2<|.x 6 c23<|.cs 7 (S.fcs hc27)<|.y 8 (y_nes (fun w=>eqs104 (nth qA.z x x8) (nth qA.z y x8) w 9998))<|.nil) (fun a E=>?_)
 refine dn ?_
 refine hK17 _ _ (E.ikn 25 H (fun c28 E H=>?_) fun c28 E H=>?_)
 refine wp_skip ?_
 refine qCp ?_
 refine hK16 _ _ (pl0 (plc E (.r 0 3 .nil) (fun a E=>pld ?_)))
 exact qCq ⟨k11,by omega,_,(w64 (x8+1)),by omega,E,.of,S,H⟩
 refine rr E fun a E=>(wp_ret (qCo (qCn (qCn (qCo (qCn ?_))))))
 obtain rfl:=si H
 exact rt1 E ⟨_,rfl,_,rfl,S⟩
 refine wp_exit ?_
 refine hK6 _ _ (rr E fun a E=>(wp_ret ?_))
 obtain rfl:=si H
 exact rt1 E ⟨_,rfl,_,rfl,S⟩
 refine rr E fun a E=>(wp_ret (qCn ?_))
 obtain rfl:=si H
 exact rt1 E ⟨_,rfl,_,rfl,S⟩
mutual
def qAH.l9:Nat→List qG→List qG→Int→Option Bool
 | 0,_,_,_=>none
 | k+1,x,y,x8=>if x8<(x.length:Int) then (if 0≤x8∧x8<(x.length:Int) then (if 0≤x8∧x8<(y.length:Int) then (if (nth qG.z x x8).f0=(nth qG.z y x8).f0 then ((qAD.f k ((nth qG.z x x8).f1) ((nth qG.z y x8).f1)).bind fun t42=>(qAH.j45 k x y x8 (!t42))) else (qAH.j45 k x y x8 true)) else (none)) else (none)) else (some true)
def qAH.j45:Nat→List qG→List qG→Int→Bool→Option Bool
 | 0,_,_,_,_=>none
 | k+1,x,y,x8,y44=>if y44=true then (some false) else (qAH.l9 k x y (w64 (x8+1)))
end
theorem qAH.l9_s k x y x8:type_of% (qAH.l9.eq_2 x y x8 k):=qAH.l9.eq_2 x y x8 k
theorem qAH.j45_s k x y x8 y44:type_of% (qAH.j45.eq_2 x y x8 y44 k):=qAH.j45.eq_2 x y x8 y44 k
def qAH.f(k:Nat)(x:List qG)(y:List qG):Option Bool:=if (x.length:Int)=(y.length:Int) then (qAH.l9 k x y 0) else (some false)
def qAH.Post(W F:World)(r:Bool)(v:Value)(w':World):Prop:=∃(F':World),v = .bool r∧Sm W F w' F' []
theorem qAH.calls(k:Nat)(x:List qG)(y:List qG)(A0_0:OA)(c0_0:Nat)(A1_0:OA)(c1_0:Nat)(r:Bool)(W F:World)(hown:Sub F W)(g0_0:Rd qG.k F A0_0 c0_0 x)(g1_0:Rd qG.k F A1_0 c1_0 y)(H:qAH.f k x y=some r):
    Cr 54 #[.slice A0_0 x.length c0_0,.slice A1_0 y.length c1_0] W (qAH.Post W F r):=by
 have S:=sT hown
 unfold qAH.f at H
 refine ent 42 rfl rfl rfl (fun a E=>?_)
 refine rr E fun a E=>(sq fun K2 hK2=>rr E fun a E=>(E.ikn 10 H (fun c4 E H=>?_) fun c4 E H=>?_))
 refine wp_skip (hK2 _ _ (sq fun K6 hK6=>rr E fun a E=>(wp_block ?_)))
 refine wp_loop_ghost (fun kq10 a w'=>∃(G:NV)(x8:Int),kq10≤k∧Env 42 G a∧At G [(0,.slice A0_0 x.length c0_0),(1,.slice A1_0 y.length c1_0),(5,iv x8)]∧Sm W F w' F []∧qAH.l9 kq10 x y x8=some r) k ⟨_,0,Nat.le_refl _,E,.of,S,H⟩ ?_
 rintro kq10 a u12 ⟨G,x8,hkq,E,A,S,H⟩
 obtain _ | k11:=kq10
 exact zz H
 rw [qAH.l9_s]at H
 obtain ⟨J,E⟩:=E.at A
 refine sq fun K13 hK13=>rr E fun a E=>(E.ik 14 H (fun c15 E H=>?_) fun c15 E H=>?_)
 refine wp_skip (hK13 _ _ (sq fun K16 hK16=>wp_block (sq fun K17 hK17=>?_)))
 have J48:∀ kq46,kq46≤k11→∀(G:NV)(y44:Bool)(a:Act)(w':World),Env 42 G a→At G [(0,.slice A0_0 x.length c0_0),(1,.slice A1_0 y.length c1_0),(5,iv x8),(41,.bool y44)]→Sm W F w' F []→qAH.j45 kq46 x y x8 y44=some r→K17 a w':=by
  intro kq46 hkq G y44 a u49 E A S H
  obtain _ | k47:=kq46
  exact zz H
  rw [qAH.j45_s]at H
  obtain ⟨J,E⟩:=E.at A
  refine hK17 _ _ (E.ib 41 H (fun c50 E H=>?_) fun c50 E H=>?_)
  refine rr E fun a E=>(wp_ret (qCo (qCn (qCn (qCo (qCn ?_))))))
  obtain rfl:=si H
  exact rt1 E ⟨_,rfl,_,rfl,S⟩
  refine wp_skip ?_
  refine qCp ?_
  refine hK16 _ _ (pl0 (plc E (.r 0 3 .nil) (fun a E=>pld ?_)))
  exact qCq ⟨k47,by omega,_,(w64 (x8+1)),by omega,E,.of,S,H⟩
 refine drawn 25 ⟨[],[],fun q=>False⟩ mixed rfl (by kernel_rfl) (fun hst=>?_)
 replace S:=S.drew
 obtain ⟨c18,H⟩:=gd H
 have hE_:=E
 obtain ⟨ad19,rfl⟩:=g0_0.addr c18.1 c18.2
 replace E:=hE_
 obtain ⟨cs21,⟨A23,c24,rfl,g25⟩,hc22⟩:=g0_0.el qG.z x8 c18.1 c18.2
 obtain ⟨c26,H⟩:=gd H
 have hE_:=E
 obtain ⟨ad27,rfl⟩:=g1_0.addr c26.1 c26.2
 replace E:=hE_
 obtain ⟨cs29,⟨A31,c32,rfl,g33⟩,hc30⟩:=g1_0.el qG.z x8 c26.1 c26.2
 refine mny 13 hst E (.r 0 2<|.x 2 c18<|.r 3 1<|.c 4 (S.fc hc22 0)<|.r 5 2<|.x 7 c26<|.r 8 1<|.c 9 (S.fc hc30 0)<|.r 10 2<|.nil) (fun a E=>?_)
 refine E.fkn 28 H (fun c34 E H=>?_) fun c34 E H=>?_
 refine mny 3 hst E (.r 12 2<|.x 14 c18<|.r 15 1<|.c 16 (S.fc hc22 1)<|.r 17 2<|.x 19 c26<|.r 20 1<|.c 21 (S.fc hc30 1)<|.nil) (fun a E=>?_)
 obtain ⟨t42,h43,H⟩:=bd H
 refine on1 22 E (.cl en21 (qAD.calls k11 ((nth qG.z x x8).f1) ((nth qG.z y x8).f1) _ _ _ _ _ _ _ S.own.sub g25 g33 h43)) ?_
 rintro _ u41 a ⟨_,rfl,hC⟩ E
 refine ⟨.of hC.agr,?_⟩
 replace S:=S.lent hC
 refine mny 0 hst E (.r 23 2 .nil) (fun a E=>?_)
 refine dn ?_
 exact J48 _ (by omega) _ (!t42) _ _ E .of S H
 refine mny 0 hst E (.r 12 13 .nil) (fun a E=>?_)
 refine dn ?_
 exact J48 _ (by omega) _ true _ _ E .of S H
 refine wp_exit ?_
 refine hK6 _ _ (rr E fun a E=>(wp_ret ?_))
 obtain rfl:=si H
 exact rt1 E ⟨_,rfl,_,rfl,S⟩
 refine rr E fun a E=>(wp_ret (qCn ?_))
 obtain rfl:=si H
 exact rt1 E ⟨_,rfl,_,rfl,S⟩
mutual
def qAC.l9:Nat→List qC→List qC→Int→Option Bool
 | 0,_,_,_=>none
 | k+1,x,y,x8=>if x8<(x.length:Int) then (if 0≤x8∧x8<(x.length:Int) then (if 0≤x8∧x8<(y.length:Int) then (if (nth qC.z x x8).f0=(nth qC.z y x8).f0 then ((qAH.f k ((nth qC.z x x8).f1) ((nth qC.z y x8).f1)).bind fun t42=>(qAC.j45 k x y x8 (!t42))) else (qAC.j45 k x y x8 true)) else (none)) else (none)) else (some true)
def qAC.j45:Nat→List qC→List qC→Int→Bool→Option Bool
 | 0,_,_,_,_=>none
 | k+1,x,y,x8,y44=>if y44=true then (some false) else (qAC.l9 k x y (w64 (x8+1)))
end
theorem qAC.l9_s k x y x8:type_of% (qAC.l9.eq_2 x y x8 k):=qAC.l9.eq_2 x y x8 k
theorem qAC.j45_s k x y x8 y44:type_of% (qAC.j45.eq_2 x y x8 y44 k):=qAC.j45.eq_2 x y x8 y44 k
def qAC.f(k:Nat)(x:List qC)(y:List qC):Option Bool:=if (x.length:Int)=(y.length:Int) then (qAC.l9 k x y 0) else (some false)
def qAC.Post(W F:World)(r:Bool)(v:Value)(w':World):Prop:=∃(F':World),v = .bool r∧Sm W F w' F' []
theorem qAC.calls(k:Nat)(x:List qC)(y:List qC)(A0_0:OA)(c0_0:Nat)(A1_0:OA)(c1_0:Nat)(r:Bool)(W F:World)(hown:Sub F W)(g0_0:Rd qC.k F A0_0 c0_0 x)(g1_0:Rd qC.k F A1_0 c1_0 y)(H:qAC.f k x y=some r):
    Cr 66 #[.slice A0_0 x.length c0_0,.slice A1_0 y.length c1_0] W (qAC.Post W F r):=by
 have S:=sT hown
 unfold qAC.f at H
 refine ent 42 rfl rfl rfl (fun a E=>?_)
 refine rr E fun a E=>(sq fun K2 hK2=>rr E fun a E=>(E.ikn 10 H (fun c4 E H=>?_) fun c4 E H=>?_))
 refine wp_skip (hK2 _ _ (sq fun K6 hK6=>rr E fun a E=>(wp_block ?_)))
 refine wp_loop_ghost (fun kq10 a w'=>∃(G:NV)(x8:Int),kq10≤k∧Env 42 G a∧At G [(0,.slice A0_0 x.length c0_0),(1,.slice A1_0 y.length c1_0),(5,iv x8)]∧Sm W F w' F []∧qAC.l9 kq10 x y x8=some r) k ⟨_,0,Nat.le_refl _,E,.of,S,H⟩ ?_
 rintro kq10 a u12 ⟨G,x8,hkq,E,A,S,H⟩
 obtain _ | k11:=kq10
 exact zz H
 rw [qAC.l9_s]at H
 obtain ⟨J,E⟩:=E.at A
 refine sq fun K13 hK13=>rr E fun a E=>(E.ik 14 H (fun c15 E H=>?_) fun c15 E H=>?_)
 refine wp_skip (hK13 _ _ (sq fun K16 hK16=>wp_block (sq fun K17 hK17=>?_)))
 have J48:∀ kq46,kq46≤k11→∀(G:NV)(y44:Bool)(a:Act)(w':World),Env 42 G a→At G [(0,.slice A0_0 x.length c0_0),(1,.slice A1_0 y.length c1_0),(5,iv x8),(41,.bool y44)]→Sm W F w' F []→qAC.j45 kq46 x y x8 y44=some r→K17 a w':=by
  intro kq46 hkq G y44 a u49 E A S H
  obtain _ | k47:=kq46
  exact zz H
  rw [qAC.j45_s]at H
  obtain ⟨J,E⟩:=E.at A
  refine hK17 _ _ (E.ib 41 H (fun c50 E H=>?_) fun c50 E H=>?_)
  refine rr E fun a E=>(wp_ret (qCo (qCn (qCn (qCo (qCn ?_))))))
  obtain rfl:=si H
  exact rt1 E ⟨_,rfl,_,rfl,S⟩
  refine wp_skip ?_
  refine qCp ?_
  refine hK16 _ _ (pl0 (plc E (.r 0 3 .nil) (fun a E=>pld ?_)))
  exact qCq ⟨k47,by omega,_,(w64 (x8+1)),by omega,E,.of,S,H⟩
 refine drawn 25 ⟨[],[],fun q=>False⟩ mixed rfl (by kernel_rfl) (fun hst=>?_)
 replace S:=S.drew
 obtain ⟨c18,H⟩:=gd H
 have hE_:=E
 obtain ⟨ad19,rfl⟩:=g0_0.addr c18.1 c18.2
 replace E:=hE_
 obtain ⟨cs21,⟨A23,c24,rfl,g25⟩,hc22⟩:=g0_0.el qC.z x8 c18.1 c18.2
 obtain ⟨c26,H⟩:=gd H
 have hE_:=E
 obtain ⟨ad27,rfl⟩:=g1_0.addr c26.1 c26.2
 replace E:=hE_
 obtain ⟨cs29,⟨A31,c32,rfl,g33⟩,hc30⟩:=g1_0.el qC.z x8 c26.1 c26.2
 refine mny 13 hst E (.r 0 2<|.x 2 c18<|.r 3 1<|.c 4 (S.fc hc22 0)<|.r 5 2<|.x 7 c26<|.r 8 1<|.c 9 (S.fc hc30 0)<|.r 10 2<|.nil) (fun a E=>?_)
 refine E.fkn 28 H (fun c34 E H=>?_) fun c34 E H=>?_
 refine mny 3 hst E (.r 12 2<|.x 14 c18<|.r 15 1<|.c 16 (S.fc hc22 1)<|.r 17 2<|.x 19 c26<|.r 20 1<|.c 21 (S.fc hc30 1)<|.nil) (fun a E=>?_)
 obtain ⟨t42,h43,H⟩:=bd H
 refine on1 22 E (.cl en54 (qAH.calls k11 ((nth qC.z x x8).f1) ((nth qC.z y x8).f1) _ _ _ _ _ _ _ S.own.sub g25 g33 h43)) ?_
 rintro _ u41 a ⟨_,rfl,hC⟩ E
 refine ⟨.of hC.agr,?_⟩
 replace S:=S.lent hC
 refine mny 0 hst E (.r 23 2 .nil) (fun a E=>?_)
 refine dn ?_
 exact J48 _ (by omega) _ (!t42) _ _ E .of S H
 refine mny 0 hst E (.r 12 13 .nil) (fun a E=>?_)
 refine dn ?_
 exact J48 _ (by omega) _ true _ _ E .of S H
 refine wp_exit ?_
 refine hK6 _ _ (rr E fun a E=>(wp_ret ?_))
 obtain rfl:=si H
 exact rt1 E ⟨_,rfl,_,rfl,S⟩
 refine rr E fun a E=>(wp_ret (qCn ?_))
 obtain rfl:=si H
 exact rt1 E ⟨_,rfl,_,rfl,S⟩
mutual
def qm.j17:Nat→qF→qF→Bool→Option Bool
 | 0,_,_,_=>none
 | k+1,x,y,y16=>if y16=true then (some false) else (qm.l27 k x y 0)
def qm.l27:Nat→qF→qF→Int→Option Bool
 | 0,_,_,_=>none
 | k+1,x,y,x26=>if x26<(x.f5.length:Int) then (if 0≤x26∧x26<(x.f5.length:Int) then (if 0≤x26∧x26<(y.f5.length:Int) then (if (nth qD.z x.f5 x26).f0=(nth qD.z y.f5 x26).f0 then ((qAD.f k ((nth qD.z x.f5 x26).f1) ((nth qD.z y.f5 x26).f1)).bind fun t60=>(qm.j63 k x y x26 (!t60))) else (qm.j63 k x y x26 true)) else (none)) else (none)) else ((qAC.f k x.f6 y.f6).bind fun t72=>(some t72))
def qm.j63:Nat→qF→qF→Int→Bool→Option Bool
 | 0,_,_,_,_=>none
 | k+1,x,y,x26,y62=>if y62=true then (some false) else (qm.l27 k x y (w64 (x26+1)))
end
theorem qm.j17_s k x y y16:type_of% (qm.j17.eq_2 x y y16 k):=qm.j17.eq_2 x y y16 k
theorem qm.l27_s k x y x26:type_of% (qm.l27.eq_2 x y x26 k):=qm.l27.eq_2 x y x26 k
theorem qm.j63_s k x y x26 y62:type_of% (qm.j63.eq_2 x y x26 y62 k):=qm.j63.eq_2 x y x26 y62 k
def qm.f(k:Nat)(x:qF)(y:qF):Option Bool:=if x.f0=y.f0 then (if x.f1=y.f1 then (if x.f2=y.f2 then (if x.f3=y.f3 then ((qAn.f k x.f4 y.f4).bind fun t13=>(if t13=true then (qm.j17 k x y (!((x.f5.length:Int) == (y.f5.length:Int)))) else (qm.j17 k x y true))) else (qm.j17 k x y true)) else (qm.j17 k x y true)) else (qm.j17 k x y true)) else (qm.j17 k x y true)
def qm.Post(W F:World)(r:Bool)(v:Value)(w':World):Prop:=∃(F':World),v = .bool r∧Sm W F w' F' []
theorem qm.calls(k:Nat)(x:qF)(y:qF)(A0_4:OA)(c0_4:Nat)(A0_5:OA)(c0_5:Nat)(A0_6:OA)(c0_6:Nat)(A1_4:OA)(c1_4:Nat)(A1_5:OA)(c1_5:Nat)(A1_6:OA)(c1_6:Nat)(r:Bool)(W F:World)(hown:Sub F W)(g0_4:Rd qA.k F A0_4 c0_4 x.f4)(g0_5:Rd qD.k F A0_5 c0_5 x.f5)(g0_6:Rd qC.k F A0_6 c0_6 x.f6)(g1_4:Rd qA.k F A1_4 c1_4 y.f4)(g1_5:Rd qD.k F A1_5 c1_5 y.f5)(g1_6:Rd qC.k F A1_6 c1_6 y.f6)(H:qm.f k x y=some r):
    Cr 16 #[.agg #[iv x.f0,iv x.f1,iv x.f2,iv x.f3,.slice A0_4 x.f4.length c0_4,.slice A0_5 x.f5.length c0_5,.slice A0_6 x.f6.length c0_6],.agg #[iv y.f0,iv y.f1,iv y.f2,iv y.f3,.slice A1_4 y.f4.length c1_4,.slice A1_5 y.f5.length c1_5,.slice A1_6 y.f6.length c1_6]] W (qm.Post W F r):=by
 have S:=sT hown
 unfold qm.f at H
 refine ent 90 rfl rfl rfl (fun a E=>?_)
 refine sq fun K1 hK1=>pl0 (plx (t:=26) E S [iv x.f0,iv x.f1,iv x.f2,iv x.f3,.slice A0_4 x.f4.length c0_4,.slice A0_5 x.f5.length c0_5,.slice A0_6 x.f6.length c0_6] fun b2 u3 hb2 S a E=>plx (t:=26) E S [iv y.f0,iv y.f1,iv y.f2,iv y.f3,.slice A1_4 y.f4.length c1_4,.slice A1_5 y.f5.length c1_5,.slice A1_6 y.f6.length c1_6] fun b4 u5 hb4 S a E=>plc E (.r 2 1 .nil) (fun a E=>pld (hK1 _ _ (sq fun K6 hK6=>sq fun K7 hK7=>?_))))
 have J20:∀ kq18,kq18≤k→∀(G:NV)(y16:Bool)(a:Act)(w':World),Env 90 G a→At G [(2,.pointer (pb b2)),(3,.pointer (pb b4)),(48,.bool y16)]→Sm W F w' F [box b4 #[iv y.f0,iv y.f1,iv y.f2,iv y.f3,.slice A1_4 y.f4.length c1_4,.slice A1_5 y.f5.length c1_5,.slice A1_6 y.f6.length c1_6] 26,box b2 #[iv x.f0,iv x.f1,iv x.f2,iv x.f3,.slice A0_4 x.f4.length c0_4,.slice A0_5 x.f5.length c0_5,.slice A0_6 x.f6.length c0_6] 26]→qm.j17 kq18 x y y16=some r→K7 a w':=by
  intro kq18 hkq G y16 a u21 E A S H
  obtain _ | k19:=kq18
  exact zz H
  rw [qm.j17_s]at H
  obtain ⟨J,E⟩:=E.at A
  refine hK7 _ _ (E.ib 48 H (fun c22 E H=>?_) fun c22 E H=>?_)
  refine rr E fun a E=>(wp_ret (qCn ?_))
  replace S:=S.pm [] 2
  obtain rfl:=si H
  exact rt1 E ⟨_,rfl,_,rfl,S⟩
  refine wp_skip (hK6 _ _ (sq fun K24 hK24=>rr E fun a E=>(wp_block ?_)))
  refine wp_loop_ghost (fun kq28 a w'=>∃(G:NV)(x26:Int),kq28≤k19∧Env 90 G a∧At G [(2,.pointer (pb b2)),(3,.pointer (pb b4)),(5,iv x26)]∧Sm W F w' F [box b4 #[iv y.f0,iv y.f1,iv y.f2,iv y.f3,.slice A1_4 y.f4.length c1_4,.slice A1_5 y.f5.length c1_5,.slice A1_6 y.f6.length c1_6] 26,box b2 #[iv x.f0,iv x.f1,iv x.f2,iv x.f3,.slice A0_4 x.f4.length c0_4,.slice A0_5 x.f5.length c0_5,.slice A0_6 x.f6.length c0_6] 26]∧qm.l27 kq28 x y x26=some r) k19 ⟨_,0,Nat.le_refl _,E,.of,S,H⟩ ?_
  rintro kq28 a u30 ⟨G,x26,hkq,E,A,S,H⟩
  obtain _ | k29:=kq28
  exact zz H
  rw [qm.l27_s]at H
  obtain ⟨J,E⟩:=E.at A
  refine sq fun K31 hK31=>sq fun K32 hK32=>pl0 ?_
  have hb2:=S.ba 1
  refine plc E (.r 0 2<|.b 2 5 hb2<|.r 3 2<|.nil) (fun a E=>pld (hK32 _ _ (E.ik 53 H (fun c33 E H=>?_) fun c33 E H=>?_)))
  refine wp_skip (hK31 _ _ (sq fun K34 hK34=>wp_block (sq fun K35 hK35=>?_)))
  have J66:∀ kq64,kq64≤k29→∀(G:NV)(y62:Bool)(a:Act)(w':World),Env 90 G a→At G [(2,.pointer (pb b2)),(3,.pointer (pb b4)),(5,iv x26),(84,.bool y62)]→Sm W F w' F [box b4 #[iv y.f0,iv y.f1,iv y.f2,iv y.f3,.slice A1_4 y.f4.length c1_4,.slice A1_5 y.f5.length c1_5,.slice A1_6 y.f6.length c1_6] 26,box b2 #[iv x.f0,iv x.f1,iv x.f2,iv x.f3,.slice A0_4 x.f4.length c0_4,.slice A0_5 x.f5.length c0_5,.slice A0_6 x.f6.length c0_6] 26]→qm.j63 kq64 x y x26 y62=some r→K35 a w':=by
   intro kq64 hkq G y62 a u67 E A S H
   obtain _ | k65:=kq64
   exact zz H
   rw [qm.j63_s]at H
   obtain ⟨J,E⟩:=E.at A
   refine hK35 _ _ (E.ib 84 H (fun c68 E H=>?_) fun c68 E H=>?_)
   refine rr E fun a E=>(wp_ret (qCo (qCn (qCn (qCo (qCn ?_))))))
   replace S:=S.pm [] 2
   obtain rfl:=si H
   exact rt1 E ⟨_,rfl,_,rfl,S⟩
   refine wp_skip ?_
   refine qCp ?_
   refine hK34 _ _ (pl0 (plc E (.r 0 3 .nil) (fun a E=>pld ?_)))
   exact qCq ⟨k65,by omega,_,(w64 (x26+1)),by omega,E,.of,S,H⟩
  refine drawn 29 ⟨[],[],fun q=>False⟩ mixed rfl (by kernel_rfl) (fun hst=>?_)
  replace S:=S.drew
  have hb2:=S.ba 1
  obtain ⟨c36,H⟩:=gd H
  have hE_:=E
  obtain ⟨ad37,rfl⟩:=g0_5.addr c36.1 c36.2
  replace E:=hE_
  obtain ⟨cs39,⟨A41,c42,rfl,g43⟩,hc40⟩:=g0_5.el qD.z x26 c36.1 c36.2
  have hb4:=S.ba 0
  obtain ⟨c44,H⟩:=gd H
  have hE_:=E
  obtain ⟨ad45,rfl⟩:=g1_5.addr c44.1 c44.2
  replace E:=hE_
  obtain ⟨cs47,⟨A49,c50,rfl,g51⟩,hc48⟩:=g1_5.el qD.z x26 c44.1 c44.2
  refine mny 15 hst E (.r 0 1<|.b 1 5 hb2<|.r 2 1<|.x 3 c36<|.r 4 1<|.c 5 (S.fc hc40 0)<|.r 6 1<|.b 7 5 hb4<|.r 8 1<|.x 9 c44<|.r 10 1<|.c 11 (S.fc hc48 0)<|.r 12 2<|.nil) (fun a E=>?_)
  refine E.fkn 69 H (fun c52 E H=>?_) fun c52 E H=>?_
  refine mny 3 hst E (.r 14 1<|.b 15 5 hb2<|.r 16 1<|.x 17 c36<|.r 18 1<|.c 19 (S.fc hc40 1)<|.r 20 1<|.b 21 5 hb4<|.r 22 1<|.x 23 c44<|.r 24 1<|.c 25 (S.fc hc48 1)<|.nil) (fun a E=>?_)
  obtain ⟨t60,h61,H⟩:=bd H
  refine on1 26 E (.cl en21 (qAD.calls k29 ((nth qD.z x.f5 x26).f1) ((nth qD.z y.f5 x26).f1) _ _ _ _ _ _ _ S.own.sub g43 g51 h61)) ?_
  rintro _ u59 a ⟨_,rfl,hC⟩ E
  refine ⟨.of hC.agr,?_⟩
  replace S:=S.lent hC
  refine mny 0 hst E (.r 27 2 .nil) (fun a E=>?_)
  refine dn ?_
  exact J66 _ (by omega) _ (!t60) _ _ E .of S H
  refine mny 0 hst E (.r 14 15 .nil) (fun a E=>?_)
  refine dn ?_
  exact J66 _ (by omega) _ true _ _ E .of S H
  refine wp_exit ?_
  refine hK24 _ _ (sq fun K70 hK70=>pl0 (plc E (.r 0 1<|.b 1 6 hb2<|.r 2 1<|.b 3 6 (S.ba 0)<|.nil) (fun a E=>?_)))
  obtain ⟨t72,h73,H⟩:=bd H
  refine plq E S en66 (qAC.calls k29 x.f6 y.f6 _ _ _ _ _ _ _ S.own.sub g0_6 g1_6 h73) fun u71 S a E=>plc E (.r 5 1 .nil) (fun a E=>pld (hK70 _ _ (wp_ret ?_)))
  replace S:=S.pm [] 2
  obtain rfl:=si H
  exact rt1 E ⟨_,rfl,_,rfl,S⟩
 refine pl0 ?_
 have hb2:=S.ba 1
 refine plc E (.r 0 1<|.b 1 0 hb2<|.r 2 1<|.b 3 0 hb4<|.r 4 2<|.nil) (fun a E=>E.fkn 11 H (fun c8 E H=>?_) fun c8 E H=>?_)
 refine plc E (.r 6 1<|.b 7 1 hb2<|.r 8 1<|.b 9 1 hb4<|.r 10 3<|.nil) (fun a E=>E.fkn 18 H (fun c9 E H=>?_) fun c9 E H=>?_)
 refine plc E (.r 13 1<|.b 14 2 hb2<|.r 15 1<|.b 16 2 hb4<|.r 17 3<|.nil) (fun a E=>E.fkn 25 H (fun c10 E H=>?_) fun c10 E H=>?_)
 refine plc E (.r 20 1<|.b 21 3 hb2<|.r 22 1<|.b 23 3 hb4<|.r 24 3<|.nil) (fun a E=>E.fkn 32 H (fun c11 E H=>?_) fun c11 E H=>?_)
 refine plc E (.r 27 1<|.b 28 4 hb2<|.r 29 1<|.b 30 4 hb4<|.nil) (fun a E=>?_)
 obtain ⟨t13,h14,H⟩:=bd H
 refine plq E S en65 (qAn.calls k x.f4 y.f4 _ _ _ _ _ _ _ S.own.sub g0_4 g1_4 h14) fun u12 S a E=>plc E (.r 32 3 .nil) (fun a E=>E.fbn 40 H (fun c15 E H=>?_) fun c15 E H=>?_)
 refine plc E (.r 35 1<|.b 36 5 (S.ba 1)<|.r 37 2<|.b 39 5 (S.ba 0)<|.r 40 3<|.nil) (fun a E=>pld ?_)
 exact J20 _ (by omega) _ (!((x.f5.length:Int) == (y.f5.length:Int))) _ _ E .of S H
 refine plc E (.r 35 8 .nil) (fun a E=>pld ?_)
 exact J20 _ (by omega) _ true _ _ E .of S H
 refine plc E (.r 27 16 .nil) (fun a E=>pld ?_)
 exact J20 _ (by omega) _ true _ _ E .of S H
 refine plc E (.r 20 23 .nil) (fun a E=>pld ?_)
 exact J20 _ (by omega) _ true _ _ E .of S H
 refine plc E (.r 13 30 .nil) (fun a E=>pld ?_)
 exact J20 _ (by omega) _ true _ _ E .of S H
 refine plc E (.r 6 37 .nil) (fun a E=>pld ?_)
 exact J20 _ (by omega) _ true _ _ E .of S H
def qAU.l9:Nat→List qE→List qE→Int→Option Bool
 | 0,_,_,_=>none
 | k+1,x,y,x8=>if x8<(x.length:Int) then (if 0≤x8∧x8<(x.length:Int) then (if 0≤x8∧x8<(y.length:Int) then ((qBI.f k (nth qE.z x x8) (nth qE.z y x8)).bind fun t35=>(if t35=true then (qAU.l9 k x y (w64 (x8+1))) else (some false))) else (none)) else (none)) else (some true)
theorem qAU.l9_s k x y x8:type_of% (qAU.l9.eq_2 x y x8 k):=qAU.l9.eq_2 x y x8 k
def qAU.f(k:Nat)(x:List qE)(y:List qE):Option Bool:=if (x.length:Int)=(y.length:Int) then (qAU.l9 k x y 0) else (some false)
def qAU.Post(W F:World)(r:Bool)(v:Value)(w':World):Prop:=∃(F':World),v = .bool r∧Sm W F w' F' []
theorem qAU.calls(k:Nat)(x:List qE)(y:List qE)(A0_0:OA)(c0_0:Nat)(A1_0:OA)(c1_0:Nat)(r:Bool)(W F:World)(hown:Sub F W)(g0_0:Rd qE.k F A0_0 c0_0 x)(g1_0:Rd qE.k F A1_0 c1_0 y)(H:qAU.f k x y=some r):
    Cr 47 #[.slice A0_0 x.length c0_0,.slice A1_0 y.length c1_0] W (qAU.Post W F r):=by
 have S:=sT hown
 unfold qAU.f at H
 refine ent 27 rfl rfl rfl (fun a E=>?_)
 refine rr E fun a E=>(sq fun K2 hK2=>rr E fun a E=>(E.ikn 10 H (fun c4 E H=>?_) fun c4 E H=>?_))
 refine wp_skip (hK2 _ _ (sq fun K6 hK6=>rr E fun a E=>(wp_block ?_)))
 refine wp_loop_ghost (fun kq10 a w'=>∃(G:NV)(x8:Int),kq10≤k∧Env 27 G a∧At G [(0,.slice A0_0 x.length c0_0),(1,.slice A1_0 y.length c1_0),(5,iv x8)]∧Sm W F w' F []∧qAU.l9 kq10 x y x8=some r) k ⟨_,0,Nat.le_refl _,E,.of,S,H⟩ ?_
 rintro kq10 a u12 ⟨G,x8,hkq,E,A,S,H⟩
 obtain _ | k11:=kq10
 exact zz H
 rw [qAU.l9_s]at H
 obtain ⟨J,E⟩:=E.at A
 refine sq fun K13 hK13=>rr E fun a E=>(E.ik 14 H (fun c15 E H=>?_) fun c15 E H=>?_)
 refine wp_skip (hK13 _ _ (sq fun K16 hK16=>wp_block (sq fun K17 hK17=>?_)))
 refine drawn 10 ⟨[],[],fun q=>False⟩ mixed rfl (by kernel_rfl) (fun hst=>?_)
 replace S:=S.drew
 obtain ⟨c18,H⟩:=gd H
 have hE_:=E
 obtain ⟨ad19,rfl⟩:=g0_0.addr c18.1 c18.2
 replace E:=hE_
 obtain ⟨cs21,⟨A23,c24,rfl,g25⟩,hc22⟩:=g0_0.el qE.z x8 c18.1 c18.2
 obtain ⟨c26,H⟩:=gd H
 have hE_:=E
 obtain ⟨ad27,rfl⟩:=g1_0.addr c26.1 c26.2
 replace E:=hE_
 obtain ⟨cs29,⟨A31,c32,rfl,g33⟩,hc30⟩:=g1_0.el qE.z x8 c26.1 c26.2
 refine mny 2 hst E (.r 0 2<|.x 2 c18<|.cs 3 (S.fcs hc22)<|.r 4 2<|.x 6 c26<|.cs 7 (S.fcs hc30)<|.nil) (fun a E=>?_)
 obtain ⟨t35,h36,H⟩:=bd H
 refine on1 8 E (.cl en83 (qBI.calls k11 (nth qE.z x x8) (nth qE.z y x8) _ _ _ _ _ _ _ S.own.sub g25 g33 h36)) ?_
 rintro _ u34 a ⟨_,rfl,hC⟩ E
 refine ⟨.of hC.agr,?_⟩
 replace S:=S.lent hC
 refine mny 0 hst E (.r 9 1 .nil) (fun a E=>?_)
 refine dn ?_
 refine hK17 _ _ (E.ibn 26 H (fun c37 E H=>?_) fun c37 E H=>?_)
 refine wp_skip ?_
 refine qCp ?_
 refine hK16 _ _ (pl0 (plc E (.r 0 3 .nil) (fun a E=>pld ?_)))
 exact qCq ⟨k11,by omega,_,(w64 (x8+1)),by omega,E,.of,S,H⟩
 refine rr E fun a E=>(wp_ret (qCo (qCn (qCn (qCo (qCn ?_))))))
 obtain rfl:=si H
 exact rt1 E ⟨_,rfl,_,rfl,S⟩
 refine wp_exit ?_
 refine hK6 _ _ (rr E fun a E=>(wp_ret ?_))
 obtain rfl:=si H
 exact rt1 E ⟨_,rfl,_,rfl,S⟩
 refine rr E fun a E=>(wp_ret (qCn ?_))
 obtain rfl:=si H
 exact rt1 E ⟨_,rfl,_,rfl,S⟩
def qBU.f(k:Nat)(x:qp)(y:qp):Option Bool:=(qm.f k x.f0 y.f0).bind fun t8=>(if t8=true then ((qAU.f k x.f1 y.f1).bind fun t12=>(some t12)) else (some false))
def qBU.Post(W F:World)(r:Bool)(v:Value)(w':World):Prop:=∃(F':World),v = .bool r∧Sm W F w' F' []
theorem qBU.calls(k:Nat)(x:qp)(y:qp)(A0_4:OA)(c0_4:Nat)(A0_5:OA)(c0_5:Nat)(A0_6:OA)(c0_6:Nat)(A0_7:OA)(c0_7:Nat)(A1_4:OA)(c1_4:Nat)(A1_5:OA)(c1_5:Nat)(A1_6:OA)(c1_6:Nat)(A1_7:OA)(c1_7:Nat)(r:Bool)(W F:World)(hown:Sub F W)(g0_4:Rd qA.k F A0_4 c0_4 x.f0.f4)(g0_5:Rd qD.k F A0_5 c0_5 x.f0.f5)(g0_6:Rd qC.k F A0_6 c0_6 x.f0.f6)(g0_7:Rd qE.k F A0_7 c0_7 x.f1)(g1_4:Rd qA.k F A1_4 c1_4 y.f0.f4)(g1_5:Rd qD.k F A1_5 c1_5 y.f0.f5)(g1_6:Rd qC.k F A1_6 c1_6 y.f0.f6)(g1_7:Rd qE.k F A1_7 c1_7 y.f1)(H:qBU.f k x y=some r):
    Cr 46 #[.agg #[iv x.f0.f0,iv x.f0.f1,iv x.f0.f2,iv x.f0.f3,.slice A0_4 x.f0.f4.length c0_4,.slice A0_5 x.f0.f5.length c0_5,.slice A0_6 x.f0.f6.length c0_6,.slice A0_7 x.f1.length c0_7],.agg #[iv y.f0.f0,iv y.f0.f1,iv y.f0.f2,iv y.f0.f3,.slice A1_4 y.f0.f4.length c1_4,.slice A1_5 y.f0.f5.length c1_5,.slice A1_6 y.f0.f6.length c1_6,.slice A1_7 y.f1.length c1_7]] W (qBU.Post W F r):=by
 have S:=sT hown
 unfold qBU.f at H
 refine ent 17 rfl rfl rfl (fun a E=>?_)
 refine sq fun K1 hK1=>pl0 (plx (t:=59) E S [iv x.f0.f0,iv x.f0.f1,iv x.f0.f2,iv x.f0.f3,.slice A0_4 x.f0.f4.length c0_4,.slice A0_5 x.f0.f5.length c0_5,.slice A0_6 x.f0.f6.length c0_6,.slice A0_7 x.f1.length c0_7] fun b2 u3 hb2 S a E=>plx (t:=59) E S [iv y.f0.f0,iv y.f0.f1,iv y.f0.f2,iv y.f0.f3,.slice A1_4 y.f0.f4.length c1_4,.slice A1_5 y.f0.f5.length c1_5,.slice A1_6 y.f0.f6.length c1_6,.slice A1_7 y.f1.length c1_7] fun b4 u5 hb4 S a E=>plc E (.r 2 1 .nil) (fun a E=>pld (hK1 _ _ (sq fun K6 hK6=>pl0 ?_))))
 have hb2:=S.ba 1
 refine plc E (.r 0 1<|.bn 1 0 7 hb2<|.r 2 1<|.bn 3 0 7 hb4<|.nil) (fun a E=>?_)
 obtain ⟨t8,h9,H⟩:=bd H
 refine plq E S en16 (qm.calls k x.f0 y.f0 _ _ _ _ _ _ _ _ _ _ _ _ _ _ _ S.own.sub g0_4 g0_5 g0_6 g1_4 g1_5 g1_6 h9) fun u7 S a E=>plc E (.r 5 1 .nil) (fun a E=>E.fb 10 H (fun c10 E H=>?_) fun c10 E H=>?_)
 refine plc E (.r 6 1<|.b 7 7 (S.ba 1)<|.r 8 1<|.b 9 7 (S.ba 0)<|.nil) (fun a E=>?_)
 obtain ⟨t12,h13,H⟩:=bd H
 refine plq E S en47 (qAU.calls k x.f1 y.f1 _ _ _ _ _ _ _ S.own.sub g0_7 g1_7 h13) fun u11 S a E=>plc E (.r 11 2 .nil) (fun a E=>pld (hK6 _ _ (wp_ret ?_)))
 replace S:=S.pm [] 2
 obtain rfl:=si H
 exact rt1 E ⟨_,rfl,_,rfl,S⟩
 refine plc E (.r 6 7 .nil) (fun a E=>pld (hK6 _ _ (wp_ret ?_)))
 replace S:=S.pm [] 2
 obtain rfl:=si H
 exact rt1 E ⟨_,rfl,_,rfl,S⟩
def qz.l9:Nat→List qA→List qA→Int→Option Bool
 | 0,_,_,_=>none
 | k+1,x,y,x8=>if x8<(x.length:Int) then (if 0≤x8∧x8<(x.length:Int) then (if 0≤x8∧x8<(y.length:Int) then (if (nth qA.z x x8)=(nth qA.z y x8) then (qz.l9 k x y (w64 (x8+1))) else (some false)) else (none)) else (none)) else (some true)
theorem qz.l9_s k x y x8:type_of% (qz.l9.eq_2 x y x8 k):=qz.l9.eq_2 x y x8 k
def qz.f(k:Nat)(x:List qA)(y:List qA):Option Bool:=if (x.length:Int)=(y.length:Int) then (qz.l9 k x y 0) else (some false)
def qz.Post(W F:World)(r:Bool)(v:Value)(w':World):Prop:=∃(F':World),v = .bool r∧Sm W F w' F' []
theorem qz.calls(k:Nat)(x:List qA)(y:List qA)(A0_0:OA)(c0_0:Nat)(A1_0:OA)(c1_0:Nat)(r:Bool)(W F:World)(hown:Sub F W)(g0_0:Rd qA.k F A0_0 c0_0 x)(g1_0:Rd qA.k F A1_0 c1_0 y)(H:qz.f k x y=some r):
    Cr 146 #[.slice A0_0 x.length c0_0,.slice A1_0 y.length c1_0] W (qz.Post W F r):=by
 have S:=sT hown
 unfold qz.f at H
 refine ent 26 rfl rfl rfl (fun a E=>?_)
 refine rr E fun a E=>(sq fun K2 hK2=>rr E fun a E=>(E.ikn 10 H (fun c4 E H=>?_) fun c4 E H=>?_))
 refine wp_skip (hK2 _ _ (sq fun K6 hK6=>rr E fun a E=>(wp_block ?_)))
 refine wp_loop_ghost (fun kq10 a w'=>∃(G:NV)(x8:Int),kq10≤k∧Env 26 G a∧At G [(0,.slice A0_0 x.length c0_0),(1,.slice A1_0 y.length c1_0),(12,iv (x.length:Int)),(13,iv x8)]∧Sm W F w' F []∧qz.l9 kq10 x y x8=some r) k ⟨_,0,Nat.le_refl _,E,.of,S,H⟩ ?_
 rintro kq10 a u12 ⟨G,x8,hkq,E,A,S,H⟩
 obtain _ | k11:=kq10
 exact zz H
 rw [qz.l9_s]at H
 obtain ⟨J,E⟩:=E.at A
 refine rr E fun a E=>(sq fun K14 hK14=>E.ik 14 H (fun c15 E H=>?_) fun c15 E H=>?_)
 refine wp_skip (hK14 _ _ (sq fun K16 hK16=>wp_block (rr E fun a E=>(sq fun K18 hK18=>?_))))
 refine drawn 9 ⟨[],[],fun q=>False⟩ mixed rfl (by kernel_rfl) (fun hst=>?_)
 replace S:=S.drew
 obtain ⟨c19,H⟩:=gd H
 have hE_:=E
 obtain ⟨ad20,rfl⟩:=g0_0.addr c19.1 c19.2
 replace E:=hE_
 obtain ⟨cs22,rfl,hc23⟩:=g0_0.el qA.z x8 c19.1 c19.2
 obtain ⟨c24,H⟩:=gd H
 have hE_:=E
 obtain ⟨ad25,rfl⟩:=g1_0.addr c24.1 c24.2
 replace E:=hE_
 obtain ⟨cs27,rfl,hc28⟩:=g1_0.el qA.z x8 c24.1 c24.2
 refine mny 0 hst E (.r 0 2<|.x 2 c19<|.cs 3 (S.fcs hc23)<|.r 4 2<|.x 6 c24<|.cs 7 (S.fcs hc28)<|.y 8 (y_nes (fun w=>eqs104 (nth qA.z x x8) (nth qA.z y x8) w 9998))<|.nil) (fun a E=>?_)
 refine dn ?_
 refine hK18 _ _ (E.ikn 24 H (fun c29 E H=>?_) fun c29 E H=>?_)
 refine wp_skip ?_
 refine qCp ?_
 refine hK16 _ _ (pl0 (plc E (.r 0 2 .nil) (fun a E=>pld ?_)))
 exact qCq ⟨k11,by omega,_,(w64 (x8+1)),by omega,E,.of,S,H⟩
 refine rr E fun a E=>(wp_ret (qCo (qCn (qCn (qCo (qCn ?_))))))
 obtain rfl:=si H
 exact rt1 E ⟨_,rfl,_,rfl,S⟩
 refine wp_exit ?_
 refine hK6 _ _ (rr E fun a E=>(wp_ret ?_))
 obtain rfl:=si H
 exact rt1 E ⟨_,rfl,_,rfl,S⟩
 refine rr E fun a E=>(wp_ret (qCn ?_))
 obtain rfl:=si H
 exact rt1 E ⟨_,rfl,_,rfl,S⟩
def qCc.f(k:Nat)(x:List qA)(y:List qA):Option Bool:=(qz.f k x y).bind fun t4=>(some t4)
def qCc.Post(W F:World)(r:Bool)(v:Value)(w':World):Prop:=∃(F':World),v = .bool r∧Sm W F w' F' []
theorem qCc.calls(k:Nat)(x:List qA)(y:List qA)(A0_0:OA)(c0_0:Nat)(A1_0:OA)(c1_0:Nat)(r:Bool)(W F:World)(hown:Sub F W)(g0_0:Rd qA.k F A0_0 c0_0 x)(g1_0:Rd qA.k F A1_0 c1_0 y)(H:qCc.f k x y=some r):
    Cr 87 #[.slice A0_0 x.length c0_0,.slice A1_0 y.length c1_0] W (qCc.Post W F r):=by
 have S:=sT hown
 unfold qCc.f at H
 refine ent 8 rfl rfl rfl (fun a E=>?_)
 refine rr E fun a E=>(sq fun K2 hK2=>pl0 (plc E (.r 0 2 .nil) (fun a E=>?_)))
 obtain ⟨t4,h5,H⟩:=bd H
 refine plq E S en146 (qz.calls k x y _ _ _ _ _ _ _ S.own.sub g0_0 g1_0 h5) fun u3 S a E=>plc E (.r 3 1 .nil) (fun a E=>pld (hK2 _ _ (wp_ret ?_)))
 obtain rfl:=si H
 exact rt1 E ⟨_,rfl,_,rfl,S⟩
def qCL.f(k:Nat)(x:qD)(y:qD):Option Bool:=if x.f0=y.f0 then ((qy.f k x.f1 y.f1).bind fun t9=>(some t9)) else (some false)
def qCL.Post(W F:World)(r:Bool)(v:Value)(w':World):Prop:=∃(F':World),v = .bool r∧Sm W F w' F' []
theorem qCL.calls(k:Nat)(x:qD)(y:qD)(A0_1:OA)(c0_1:Nat)(A1_1:OA)(c1_1:Nat)(r:Bool)(W F:World)(hown:Sub F W)(g0_1:Rd ki F A0_1 c0_1 x.f1)(g1_1:Rd ki F A1_1 c1_1 y.f1)(H:qCL.f k x y=some r):
    Cr 89 #[.agg #[iv x.f0,.slice A0_1 x.f1.length c0_1],.agg #[iv y.f0,.slice A1_1 y.f1.length c1_1]] W (qCL.Post W F r):=by
 have S:=sT hown
 unfold qCL.f at H
 refine ent 17 rfl rfl rfl (fun a E=>?_)
 refine sq fun K1 hK1=>pl0 (plx (t:=97) E S [iv x.f0,.slice A0_1 x.f1.length c0_1] fun b2 u3 hb2 S a E=>plx (t:=97) E S [iv y.f0,.slice A1_1 y.f1.length c1_1] fun b4 u5 hb4 S a E=>plc E (.r 2 1 .nil) (fun a E=>pld (hK1 _ _ (sq fun K6 hK6=>pl0 ?_))))
 have hb2:=S.ba 1
 refine plc E (.r 0 1<|.b 1 0 hb2<|.r 2 1<|.b 3 0 hb4<|.r 4 2<|.nil) (fun a E=>E.fk 10 H (fun c7 E H=>?_) fun c7 E H=>?_)
 refine plc E (.r 6 1<|.b 7 1 hb2<|.r 8 1<|.b 9 1 hb4<|.nil) (fun a E=>?_)
 obtain ⟨t9,h10,H⟩:=bd H
 refine plq E S en90 (qy.calls k x.f1 y.f1 _ _ _ _ _ _ _ S.own.sub g0_1 g1_1 h10) fun u8 S a E=>plc E (.r 11 2 .nil) (fun a E=>pld (hK6 _ _ (wp_ret ?_)))
 replace S:=S.pm [] 2
 obtain rfl:=si H
 exact rt1 E ⟨_,rfl,_,rfl,S⟩
 refine plc E (.r 6 7 .nil) (fun a E=>pld (hK6 _ _ (wp_ret ?_)))
 replace S:=S.pm [] 2
 obtain rfl:=si H
 exact rt1 E ⟨_,rfl,_,rfl,S⟩
def qCW.f(k:Nat)(x:qG)(y:qG):Option Bool:=if x.f0=y.f0 then ((qy.f k x.f1 y.f1).bind fun t9=>(some t9)) else (some false)
def qCW.Post(W F:World)(r:Bool)(v:Value)(w':World):Prop:=∃(F':World),v = .bool r∧Sm W F w' F' []
theorem qCW.calls(k:Nat)(x:qG)(y:qG)(A0_1:OA)(c0_1:Nat)(A1_1:OA)(c1_1:Nat)(r:Bool)(W F:World)(hown:Sub F W)(g0_1:Rd ki F A0_1 c0_1 x.f1)(g1_1:Rd ki F A1_1 c1_1 y.f1)(H:qCW.f k x y=some r):
    Cr 148 #[.agg #[iv x.f0,.slice A0_1 x.f1.length c0_1],.agg #[iv y.f0,.slice A1_1 y.f1.length c1_1]] W (qCW.Post W F r):=by
 have S:=sT hown
 unfold qCW.f at H
 refine ent 17 rfl rfl rfl (fun a E=>?_)
 refine sq fun K1 hK1=>pl0 (plx (t:=51) E S [iv x.f0,.slice A0_1 x.f1.length c0_1] fun b2 u3 hb2 S a E=>plx (t:=51) E S [iv y.f0,.slice A1_1 y.f1.length c1_1] fun b4 u5 hb4 S a E=>plc E (.r 2 1 .nil) (fun a E=>pld (hK1 _ _ (sq fun K6 hK6=>pl0 ?_))))
 have hb2:=S.ba 1
 refine plc E (.r 0 1<|.b 1 0 hb2<|.r 2 1<|.b 3 0 hb4<|.r 4 2<|.nil) (fun a E=>E.fk 10 H (fun c7 E H=>?_) fun c7 E H=>?_)
 refine plc E (.r 6 1<|.b 7 1 hb2<|.r 8 1<|.b 9 1 hb4<|.nil) (fun a E=>?_)
 obtain ⟨t9,h10,H⟩:=bd H
 refine plq E S en90 (qy.calls k x.f1 y.f1 _ _ _ _ _ _ _ S.own.sub g0_1 g1_1 h10) fun u8 S a E=>plc E (.r 11 2 .nil) (fun a E=>pld (hK6 _ _ (wp_ret ?_)))
 replace S:=S.pm [] 2
 obtain rfl:=si H
 exact rt1 E ⟨_,rfl,_,rfl,S⟩
 refine plc E (.r 6 7 .nil) (fun a E=>pld (hK6 _ _ (wp_ret ?_)))
 replace S:=S.pm [] 2
 obtain rfl:=si H
 exact rt1 E ⟨_,rfl,_,rfl,S⟩
def qP.l9:Nat→List qG→List qG→Int→Option Bool
 | 0,_,_,_=>none
 | k+1,x,y,x8=>if x8<(x.length:Int) then (if 0≤x8∧x8<(x.length:Int) then (if 0≤x8∧x8<(y.length:Int) then ((qCW.f k (nth qG.z x x8) (nth qG.z y x8)).bind fun t43=>(if t43=true then (qP.l9 k x y (w64 (x8+1))) else (some false))) else (none)) else (none)) else (some true)
theorem qP.l9_s k x y x8:type_of% (qP.l9.eq_2 x y x8 k):=qP.l9.eq_2 x y x8 k
def qP.f(k:Nat)(x:List qG)(y:List qG):Option Bool:=if (x.length:Int)=(y.length:Int) then (qP.l9 k x y 0) else (some false)
def qP.Post(W F:World)(r:Bool)(v:Value)(w':World):Prop:=∃(F':World),v = .bool r∧Sm W F w' F' []
theorem qP.calls(k:Nat)(x:List qG)(y:List qG)(A0_0:OA)(c0_0:Nat)(A1_0:OA)(c1_0:Nat)(r:Bool)(W F:World)(hown:Sub F W)(g0_0:Rd qG.k F A0_0 c0_0 x)(g1_0:Rd qG.k F A1_0 c1_0 y)(H:qP.f k x y=some r):
    Cr 147 #[.slice A0_0 x.length c0_0,.slice A1_0 y.length c1_0,.func (.func 148) #[] #[]] W (qP.Post W F r):=by
 have S:=sT hown
 unfold qP.f at H
 refine ent 32 rfl rfl rfl (fun a E=>?_)
 refine rr E fun a E=>(sq fun K2 hK2=>rr E fun a E=>(E.ikn 14 H (fun c4 E H=>?_) fun c4 E H=>?_))
 refine wp_skip (hK2 _ _ (sq fun K6 hK6=>rr E fun a E=>(wp_block ?_)))
 refine wp_loop_ghost (fun kq10 a w'=>∃(G:NV)(x8:Int),kq10≤k∧Env 32 G a∧At G [(1,.slice A1_0 y.length c1_0),(2,.func (.func 148) #[] #[]),(15,.slice A0_0 x.length c0_0),(16,iv (x.length:Int)),(17,iv x8)]∧Sm W F w' F []∧qP.l9 kq10 x y x8=some r) k ⟨_,0,Nat.le_refl _,E,.of,S,H⟩ ?_
 rintro kq10 a u12 ⟨G,x8,hkq,E,A,S,H⟩
 obtain _ | k11:=kq10
 exact zz H
 rw [qP.l9_s]at H
 obtain ⟨J,E⟩:=E.at A
 refine rr E fun a E=>(sq fun K14 hK14=>E.ik 18 H (fun c15 E H=>?_) fun c15 E H=>?_)
 refine wp_skip (hK14 _ _ (sq fun K16 hK16=>wp_block (sq fun K17 hK17=>pl0 ?_)))
 obtain ⟨c18,H⟩:=gd H
 have hE_:=E
 obtain ⟨ad19,rfl⟩:=g0_0.addr c18.1 c18.2
 replace E:=hE_
 obtain ⟨cs21,⟨A23,c24,rfl,g25⟩,hc22⟩:=g0_0.el qG.z x8 c18.1 c18.2
 refine plc E (.r 0 1<|.x 1 c18<|.cs 2 (S.fcs hc22)<|.nil) (fun a E=>pla (t:=51) E S [iv 0,.slice none 0 0] fun b26 u27 hb26 S a E=>plc E (.r 4 1 .nil) (fun a E=>pls E S [iv ((nth qG.z x x8).f0),.slice A23 (((nth qG.z x x8).f1).length) c24] fun u28 hb26 S a E=>pld (hK17 _ _ (sq fun K29 hK29=>pl0 ?_))))
 obtain ⟨c30,H⟩:=gd H
 have hE_:=E
 obtain ⟨ad31,rfl⟩:=g1_0.addr c30.1 c30.2
 replace E:=hE_
 obtain ⟨cs33,⟨A35,c36,rfl,g37⟩,hc34⟩:=g1_0.el qG.z x8 c30.1 c30.2
 refine plc E (.r 0 2<|.x 2 c30<|.cs 3 (S.fcs hc34)<|.nil) (fun a E=>pla (t:=51) E S [iv 0,.slice none 0 0] fun b38 u39 hb38 S a E=>pls E S [iv ((nth qG.z y x8).f0),.slice A35 (((nth qG.z y x8).f1).length) c36] fun u40 hb38 S a E=>pld (hK29 _ _ (sq fun K41 hK41=>pl0 (plc E (.r 0 1<|.bn 1 0 2 (S.ba 1)<|.bn 2 0 2 hb38<|.nil) (fun a E=>?_)))))
 obtain ⟨t43,h44,H⟩:=bd H
 refine plq E S en148 (qCW.calls k11 (nth qG.z x x8) (nth qG.z y x8) _ _ _ _ _ _ _ S.own.sub g25 g37 h44) fun u42 S a E=>plc E (.r 4 1 .nil) (fun a E=>pld (hK41 _ _ (E.ibn 30 H (fun c45 E H=>?_) fun c45 E H=>?_)))
 refine wp_skip ?_
 refine qCp ?_
 refine hK16 _ _ (pl0 (plc E (.r 0 2 .nil) (fun a E=>pld ?_)))
 replace S:=S.pm [] 2
 exact qCq ⟨k11,by omega,_,(w64 (x8+1)),by omega,E,.of,S,H⟩
 refine rr E fun a E=>(wp_ret (qCo (qCn (qCn (qCo (qCn ?_))))))
 replace S:=S.pm [] 2
 obtain rfl:=si H
 exact rt1 E ⟨_,rfl,_,rfl,S⟩
 refine wp_exit ?_
 refine hK6 _ _ (rr E fun a E=>(wp_ret ?_))
 obtain rfl:=si H
 exact rt1 E ⟨_,rfl,_,rfl,S⟩
 refine rr E fun a E=>(wp_ret (qCn ?_))
 obtain rfl:=si H
 exact rt1 E ⟨_,rfl,_,rfl,S⟩
def qCS.f(k:Nat)(x:qC)(y:qC):Option Bool:=if x.f0=y.f0 then ((qP.f k x.f1 y.f1).bind fun t9=>(some t9)) else (some false)
def qCS.Post(W F:World)(r:Bool)(v:Value)(w':World):Prop:=∃(F':World),v = .bool r∧Sm W F w' F' []
theorem qCS.calls(k:Nat)(x:qC)(y:qC)(A0_1:OA)(c0_1:Nat)(A1_1:OA)(c1_1:Nat)(r:Bool)(W F:World)(hown:Sub F W)(g0_1:Rd qG.k F A0_1 c0_1 x.f1)(g1_1:Rd qG.k F A1_1 c1_1 y.f1)(H:qCS.f k x y=some r):
    Cr 92 #[.agg #[iv x.f0,.slice A0_1 x.f1.length c0_1],.agg #[iv y.f0,.slice A1_1 y.f1.length c1_1]] W (qCS.Post W F r):=by
 have S:=sT hown
 unfold qCS.f at H
 refine ent 17 rfl rfl rfl (fun a E=>?_)
 refine sq fun K1 hK1=>pl0 (plx (t:=49) E S [iv x.f0,.slice A0_1 x.f1.length c0_1] fun b2 u3 hb2 S a E=>plx (t:=49) E S [iv y.f0,.slice A1_1 y.f1.length c1_1] fun b4 u5 hb4 S a E=>plc E (.r 2 1 .nil) (fun a E=>pld (hK1 _ _ (sq fun K6 hK6=>pl0 ?_))))
 have hb2:=S.ba 1
 refine plc E (.r 0 1<|.b 1 0 hb2<|.r 2 1<|.b 3 0 hb4<|.r 4 2<|.nil) (fun a E=>E.fk 10 H (fun c7 E H=>?_) fun c7 E H=>?_)
 refine plc E (.r 6 1<|.b 7 1 hb2<|.r 8 1<|.b 9 1 hb4<|.nil) (fun a E=>?_)
 obtain ⟨t9,h10,H⟩:=bd H
 refine plq E S en147 (qP.calls k x.f1 y.f1 _ _ _ _ _ _ _ S.own.sub g0_1 g1_1 h10) fun u8 S a E=>plc E (.r 11 2 .nil) (fun a E=>pld (hK6 _ _ (wp_ret ?_)))
 replace S:=S.pm [] 2
 obtain rfl:=si H
 exact rt1 E ⟨_,rfl,_,rfl,S⟩
 refine plc E (.r 6 7 .nil) (fun a E=>pld (hK6 _ _ (wp_ret ?_)))
 replace S:=S.pm [] 2
 obtain rfl:=si H
 exact rt1 E ⟨_,rfl,_,rfl,S⟩
def qN.l9:Nat→List qD→List qD→Int→Option Bool
 | 0,_,_,_=>none
 | k+1,x,y,x8=>if x8<(x.length:Int) then (if 0≤x8∧x8<(x.length:Int) then (if 0≤x8∧x8<(y.length:Int) then ((qCL.f k (nth qD.z x x8) (nth qD.z y x8)).bind fun t43=>(if t43=true then (qN.l9 k x y (w64 (x8+1))) else (some false))) else (none)) else (none)) else (some true)
theorem qN.l9_s k x y x8:type_of% (qN.l9.eq_2 x y x8 k):=qN.l9.eq_2 x y x8 k
def qN.f(k:Nat)(x:List qD)(y:List qD):Option Bool:=if (x.length:Int)=(y.length:Int) then (qN.l9 k x y 0) else (some false)
def qN.Post(W F:World)(r:Bool)(v:Value)(w':World):Prop:=∃(F':World),v = .bool r∧Sm W F w' F' []
theorem qN.calls(k:Nat)(x:List qD)(y:List qD)(A0_0:OA)(c0_0:Nat)(A1_0:OA)(c1_0:Nat)(r:Bool)(W F:World)(hown:Sub F W)(g0_0:Rd qD.k F A0_0 c0_0 x)(g1_0:Rd qD.k F A1_0 c1_0 y)(H:qN.f k x y=some r):
    Cr 88 #[.slice A0_0 x.length c0_0,.slice A1_0 y.length c1_0,.func (.func 89) #[] #[]] W (qN.Post W F r):=by
 have S:=sT hown
 unfold qN.f at H
 refine ent 32 rfl rfl rfl (fun a E=>?_)
 refine rr E fun a E=>(sq fun K2 hK2=>rr E fun a E=>(E.ikn 14 H (fun c4 E H=>?_) fun c4 E H=>?_))
 refine wp_skip (hK2 _ _ (sq fun K6 hK6=>rr E fun a E=>(wp_block ?_)))
 refine wp_loop_ghost (fun kq10 a w'=>∃(G:NV)(x8:Int),kq10≤k∧Env 32 G a∧At G [(1,.slice A1_0 y.length c1_0),(2,.func (.func 89) #[] #[]),(15,.slice A0_0 x.length c0_0),(16,iv (x.length:Int)),(17,iv x8)]∧Sm W F w' F []∧qN.l9 kq10 x y x8=some r) k ⟨_,0,Nat.le_refl _,E,.of,S,H⟩ ?_
 rintro kq10 a u12 ⟨G,x8,hkq,E,A,S,H⟩
 obtain _ | k11:=kq10
 exact zz H
 rw [qN.l9_s]at H
 obtain ⟨J,E⟩:=E.at A
 refine rr E fun a E=>(sq fun K14 hK14=>E.ik 18 H (fun c15 E H=>?_) fun c15 E H=>?_)
 refine wp_skip (hK14 _ _ (sq fun K16 hK16=>wp_block (sq fun K17 hK17=>pl0 ?_)))
 obtain ⟨c18,H⟩:=gd H
 have hE_:=E
 obtain ⟨ad19,rfl⟩:=g0_0.addr c18.1 c18.2
 replace E:=hE_
 obtain ⟨cs21,⟨A23,c24,rfl,g25⟩,hc22⟩:=g0_0.el qD.z x8 c18.1 c18.2
 refine plc E (.r 0 1<|.x 1 c18<|.cs 2 (S.fcs hc22)<|.nil) (fun a E=>pla (t:=97) E S [iv 0,.slice none 0 0] fun b26 u27 hb26 S a E=>plc E (.r 4 1 .nil) (fun a E=>pls E S [iv ((nth qD.z x x8).f0),.slice A23 (((nth qD.z x x8).f1).length) c24] fun u28 hb26 S a E=>pld (hK17 _ _ (sq fun K29 hK29=>pl0 ?_))))
 obtain ⟨c30,H⟩:=gd H
 have hE_:=E
 obtain ⟨ad31,rfl⟩:=g1_0.addr c30.1 c30.2
 replace E:=hE_
 obtain ⟨cs33,⟨A35,c36,rfl,g37⟩,hc34⟩:=g1_0.el qD.z x8 c30.1 c30.2
 refine plc E (.r 0 2<|.x 2 c30<|.cs 3 (S.fcs hc34)<|.nil) (fun a E=>pla (t:=97) E S [iv 0,.slice none 0 0] fun b38 u39 hb38 S a E=>pls E S [iv ((nth qD.z y x8).f0),.slice A35 (((nth qD.z y x8).f1).length) c36] fun u40 hb38 S a E=>pld (hK29 _ _ (sq fun K41 hK41=>pl0 (plc E (.r 0 1<|.bn 1 0 2 (S.ba 1)<|.bn 2 0 2 hb38<|.nil) (fun a E=>?_)))))
 obtain ⟨t43,h44,H⟩:=bd H
 refine plq E S en89 (qCL.calls k11 (nth qD.z x x8) (nth qD.z y x8) _ _ _ _ _ _ _ S.own.sub g25 g37 h44) fun u42 S a E=>plc E (.r 4 1 .nil) (fun a E=>pld (hK41 _ _ (E.ibn 30 H (fun c45 E H=>?_) fun c45 E H=>?_)))
 refine wp_skip ?_
 refine qCp ?_
 refine hK16 _ _ (pl0 (plc E (.r 0 2 .nil) (fun a E=>pld ?_)))
 replace S:=S.pm [] 2
 exact qCq ⟨k11,by omega,_,(w64 (x8+1)),by omega,E,.of,S,H⟩
 refine rr E fun a E=>(wp_ret (qCo (qCn (qCn (qCo (qCn ?_))))))
 replace S:=S.pm [] 2
 obtain rfl:=si H
 exact rt1 E ⟨_,rfl,_,rfl,S⟩
 refine wp_exit ?_
 refine hK6 _ _ (rr E fun a E=>(wp_ret ?_))
 obtain rfl:=si H
 exact rt1 E ⟨_,rfl,_,rfl,S⟩
 refine rr E fun a E=>(wp_ret (qCn ?_))
 obtain rfl:=si H
 exact rt1 E ⟨_,rfl,_,rfl,S⟩
def qM.l9:Nat→List qC→List qC→Int→Option Bool
 | 0,_,_,_=>none
 | k+1,x,y,x8=>if x8<(x.length:Int) then (if 0≤x8∧x8<(x.length:Int) then (if 0≤x8∧x8<(y.length:Int) then ((qCS.f k (nth qC.z x x8) (nth qC.z y x8)).bind fun t43=>(if t43=true then (qM.l9 k x y (w64 (x8+1))) else (some false))) else (none)) else (none)) else (some true)
theorem qM.l9_s k x y x8:type_of% (qM.l9.eq_2 x y x8 k):=qM.l9.eq_2 x y x8 k
def qM.f(k:Nat)(x:List qC)(y:List qC):Option Bool:=if (x.length:Int)=(y.length:Int) then (qM.l9 k x y 0) else (some false)
def qM.Post(W F:World)(r:Bool)(v:Value)(w':World):Prop:=∃(F':World),v = .bool r∧Sm W F w' F' []
theorem qM.calls(k:Nat)(x:List qC)(y:List qC)(A0_0:OA)(c0_0:Nat)(A1_0:OA)(c1_0:Nat)(r:Bool)(W F:World)(hown:Sub F W)(g0_0:Rd qC.k F A0_0 c0_0 x)(g1_0:Rd qC.k F A1_0 c1_0 y)(H:qM.f k x y=some r):
    Cr 91 #[.slice A0_0 x.length c0_0,.slice A1_0 y.length c1_0,.func (.func 92) #[] #[]] W (qM.Post W F r):=by
 have S:=sT hown
 unfold qM.f at H
 refine ent 32 rfl rfl rfl (fun a E=>?_)
 refine rr E fun a E=>(sq fun K2 hK2=>rr E fun a E=>(E.ikn 14 H (fun c4 E H=>?_) fun c4 E H=>?_))
 refine wp_skip (hK2 _ _ (sq fun K6 hK6=>rr E fun a E=>(wp_block ?_)))
 refine wp_loop_ghost (fun kq10 a w'=>∃(G:NV)(x8:Int),kq10≤k∧Env 32 G a∧At G [(1,.slice A1_0 y.length c1_0),(2,.func (.func 92) #[] #[]),(15,.slice A0_0 x.length c0_0),(16,iv (x.length:Int)),(17,iv x8)]∧Sm W F w' F []∧qM.l9 kq10 x y x8=some r) k ⟨_,0,Nat.le_refl _,E,.of,S,H⟩ ?_
 rintro kq10 a u12 ⟨G,x8,hkq,E,A,S,H⟩
 obtain _ | k11:=kq10
 exact zz H
 rw [qM.l9_s]at H
 obtain ⟨J,E⟩:=E.at A
 refine rr E fun a E=>(sq fun K14 hK14=>E.ik 18 H (fun c15 E H=>?_) fun c15 E H=>?_)
 refine wp_skip (hK14 _ _ (sq fun K16 hK16=>wp_block (sq fun K17 hK17=>pl0 ?_)))
 obtain ⟨c18,H⟩:=gd H
 have hE_:=E
 obtain ⟨ad19,rfl⟩:=g0_0.addr c18.1 c18.2
 replace E:=hE_
 obtain ⟨cs21,⟨A23,c24,rfl,g25⟩,hc22⟩:=g0_0.el qC.z x8 c18.1 c18.2
 refine plc E (.r 0 1<|.x 1 c18<|.cs 2 (S.fcs hc22)<|.nil) (fun a E=>pla (t:=49) E S [iv 0,.slice none 0 0] fun b26 u27 hb26 S a E=>plc E (.r 4 1 .nil) (fun a E=>pls E S [iv ((nth qC.z x x8).f0),.slice A23 (((nth qC.z x x8).f1).length) c24] fun u28 hb26 S a E=>pld (hK17 _ _ (sq fun K29 hK29=>pl0 ?_))))
 obtain ⟨c30,H⟩:=gd H
 have hE_:=E
 obtain ⟨ad31,rfl⟩:=g1_0.addr c30.1 c30.2
 replace E:=hE_
 obtain ⟨cs33,⟨A35,c36,rfl,g37⟩,hc34⟩:=g1_0.el qC.z x8 c30.1 c30.2
 refine plc E (.r 0 2<|.x 2 c30<|.cs 3 (S.fcs hc34)<|.nil) (fun a E=>pla (t:=49) E S [iv 0,.slice none 0 0] fun b38 u39 hb38 S a E=>pls E S [iv ((nth qC.z y x8).f0),.slice A35 (((nth qC.z y x8).f1).length) c36] fun u40 hb38 S a E=>pld (hK29 _ _ (sq fun K41 hK41=>pl0 (plc E (.r 0 1<|.bn 1 0 2 (S.ba 1)<|.bn 2 0 2 hb38<|.nil) (fun a E=>?_)))))
 obtain ⟨t43,h44,H⟩:=bd H
 refine plq E S en92 (qCS.calls k11 (nth qC.z x x8) (nth qC.z y x8) _ _ _ _ _ _ _ S.own.sub g25 g37 h44) fun u42 S a E=>plc E (.r 4 1 .nil) (fun a E=>pld (hK41 _ _ (E.ibn 30 H (fun c45 E H=>?_) fun c45 E H=>?_)))
 refine wp_skip ?_
 refine qCp ?_
 refine hK16 _ _ (pl0 (plc E (.r 0 2 .nil) (fun a E=>pld ?_)))
 replace S:=S.pm [] 2
 exact qCq ⟨k11,by omega,_,(w64 (x8+1)),by omega,E,.of,S,H⟩
 refine rr E fun a E=>(wp_ret (qCo (qCn (qCn (qCo (qCn ?_))))))
 replace S:=S.pm [] 2
 obtain rfl:=si H
 exact rt1 E ⟨_,rfl,_,rfl,S⟩
 refine wp_exit ?_
 refine hK6 _ _ (rr E fun a E=>(wp_ret ?_))
 obtain rfl:=si H
 exact rt1 E ⟨_,rfl,_,rfl,S⟩
 refine rr E fun a E=>(wp_ret (qCn ?_))
 obtain rfl:=si H
 exact rt1 E ⟨_,rfl,_,rfl,S⟩
def qCX.f(k:Nat)(x:qF)(y:qF):Option Bool:=if x.f0=y.f0 then (if x.f1=y.f1 then (if x.f2=y.f2 then (if x.f3=y.f3 then ((qCc.f k x.f4 y.f4).bind fun t12=>(if t12=true then ((qN.f k x.f5 y.f5).bind fun t16=>(if t16=true then ((qM.f k x.f6 y.f6).bind fun t20=>(some t20)) else (some false))) else (some false))) else (some false)) else (some false)) else (some false)) else (some false)
def qCX.Post(W F:World)(r:Bool)(v:Value)(w':World):Prop:=∃(F':World),v = .bool r∧Sm W F w' F' []
theorem qCX.calls(k:Nat)(x:qF)(y:qF)(A0_4:OA)(c0_4:Nat)(A0_5:OA)(c0_5:Nat)(A0_6:OA)(c0_6:Nat)(A1_4:OA)(c1_4:Nat)(A1_5:OA)(c1_5:Nat)(A1_6:OA)(c1_6:Nat)(r:Bool)(W F:World)(hown:Sub F W)(g0_4:Rd qA.k F A0_4 c0_4 x.f4)(g0_5:Rd qD.k F A0_5 c0_5 x.f5)(g0_6:Rd qC.k F A0_6 c0_6 x.f6)(g1_4:Rd qA.k F A1_4 c1_4 y.f4)(g1_5:Rd qD.k F A1_5 c1_5 y.f5)(g1_6:Rd qC.k F A1_6 c1_6 y.f6)(H:qCX.f k x y=some r):
    Cr 35 #[.agg #[iv x.f0,iv x.f1,iv x.f2,iv x.f3,.slice A0_4 x.f4.length c0_4,.slice A0_5 x.f5.length c0_5,.slice A0_6 x.f6.length c0_6],.agg #[iv y.f0,iv y.f1,iv y.f2,iv y.f3,.slice A1_4 y.f4.length c1_4,.slice A1_5 y.f5.length c1_5,.slice A1_6 y.f6.length c1_6]] W (qCX.Post W F r):=by
 have S:=sT hown
 unfold qCX.f at H
 refine ent 52 rfl rfl rfl (fun a E=>?_)
 refine sq fun K1 hK1=>pl0 (plx (t:=26) E S [iv x.f0,iv x.f1,iv x.f2,iv x.f3,.slice A0_4 x.f4.length c0_4,.slice A0_5 x.f5.length c0_5,.slice A0_6 x.f6.length c0_6] fun b2 u3 hb2 S a E=>plx (t:=26) E S [iv y.f0,iv y.f1,iv y.f2,iv y.f3,.slice A1_4 y.f4.length c1_4,.slice A1_5 y.f5.length c1_5,.slice A1_6 y.f6.length c1_6] fun b4 u5 hb4 S a E=>plc E (.r 2 1 .nil) (fun a E=>pld (hK1 _ _ (sq fun K6 hK6=>pl0 ?_))))
 have hb2:=S.ba 1
 refine plc E (.r 0 1<|.b 1 0 hb2<|.r 2 1<|.b 3 0 hb4<|.r 4 2<|.nil) (fun a E=>E.fk 10 H (fun c7 E H=>?_) fun c7 E H=>?_)
 refine plc E (.r 6 1<|.b 7 1 hb2<|.r 8 1<|.b 9 1 hb4<|.r 10 3<|.nil) (fun a E=>E.fk 17 H (fun c8 E H=>?_) fun c8 E H=>?_)
 refine plc E (.r 13 1<|.b 14 2 hb2<|.r 15 1<|.b 16 2 hb4<|.r 17 3<|.nil) (fun a E=>E.fk 24 H (fun c9 E H=>?_) fun c9 E H=>?_)
 refine plc E (.r 20 1<|.b 21 3 hb2<|.r 22 1<|.b 23 3 hb4<|.r 24 3<|.nil) (fun a E=>E.fk 31 H (fun c10 E H=>?_) fun c10 E H=>?_)
 refine plc E (.r 27 1<|.b 28 4 hb2<|.r 29 1<|.b 30 4 hb4<|.nil) (fun a E=>?_)
 obtain ⟨t12,h13,H⟩:=bd H
 refine plq E S en87 (qCc.calls k x.f4 y.f4 _ _ _ _ _ _ _ S.own.sub g0_4 g1_4 h13) fun u11 S a E=>plc E (.r 32 2 .nil) (fun a E=>E.fb 38 H (fun c14 E H=>?_) fun c14 E H=>?_)
 have hb2:=S.ba 1
 have hb4:=S.ba 0
 refine plc E (.r 34 1<|.b 35 5 hb2<|.r 36 1<|.b 37 5 hb4<|.nil) (fun a E=>?_)
 obtain ⟨t16,h17,H⟩:=bd H
 refine plq E S en88 (qN.calls k x.f5 y.f5 _ _ _ _ _ _ _ S.own.sub g0_5 g1_5 h17) fun u15 S a E=>plc E (.r 39 2 .nil) (fun a E=>E.fb 45 H (fun c18 E H=>?_) fun c18 E H=>?_)
 refine plc E (.r 41 1<|.b 42 6 (S.ba 1)<|.r 43 1<|.b 44 6 (S.ba 0)<|.nil) (fun a E=>?_)
 obtain ⟨t20,h21,H⟩:=bd H
 refine plq E S en91 (qM.calls k x.f6 y.f6 _ _ _ _ _ _ _ S.own.sub g0_6 g1_6 h21) fun u19 S a E=>plc E (.r 46 2 .nil) (fun a E=>pld (hK6 _ _ (wp_ret ?_)))
 replace S:=S.pm [] 2
 obtain rfl:=si H
 exact rt1 E ⟨_,rfl,_,rfl,S⟩
 refine plc E (.r 41 7 .nil) (fun a E=>pld (hK6 _ _ (wp_ret ?_)))
 replace S:=S.pm [] 2
 obtain rfl:=si H
 exact rt1 E ⟨_,rfl,_,rfl,S⟩
 refine plc E (.r 34 14 .nil) (fun a E=>pld (hK6 _ _ (wp_ret ?_)))
 replace S:=S.pm [] 2
 obtain rfl:=si H
 exact rt1 E ⟨_,rfl,_,rfl,S⟩
 refine plc E (.r 27 21 .nil) (fun a E=>pld (hK6 _ _ (wp_ret ?_)))
 replace S:=S.pm [] 2
 obtain rfl:=si H
 exact rt1 E ⟨_,rfl,_,rfl,S⟩
 refine plc E (.r 20 28 .nil) (fun a E=>pld (hK6 _ _ (wp_ret ?_)))
 replace S:=S.pm [] 2
 obtain rfl:=si H
 exact rt1 E ⟨_,rfl,_,rfl,S⟩
 refine plc E (.r 13 35 .nil) (fun a E=>pld (hK6 _ _ (wp_ret ?_)))
 replace S:=S.pm [] 2
 obtain rfl:=si H
 exact rt1 E ⟨_,rfl,_,rfl,S⟩
 refine plc E (.r 6 42 .nil) (fun a E=>pld (hK6 _ _ (wp_ret ?_)))
 replace S:=S.pm [] 2
 obtain rfl:=si H
 exact rt1 E ⟨_,rfl,_,rfl,S⟩
def qL.l9:Nat→List qE→List qE→Int→Option Bool
 | 0,_,_,_=>none
 | k+1,x,y,x8=>if x8<(x.length:Int) then (if 0≤x8∧x8<(x.length:Int) then (if 0≤x8∧x8<(y.length:Int) then ((acceptor_SameDelta.f k (nth qE.z x x8) (nth qE.z y x8)).bind fun t43=>(if t43=true then (qL.l9 k x y (w64 (x8+1))) else (some false))) else (none)) else (none)) else (some true)
theorem qL.l9_s k x y x8:type_of% (qL.l9.eq_2 x y x8 k):=qL.l9.eq_2 x y x8 k
def qL.f(k:Nat)(x:List qE)(y:List qE):Option Bool:=if (x.length:Int)=(y.length:Int) then (qL.l9 k x y 0) else (some false)
def qL.Post(W F:World)(r:Bool)(v:Value)(w':World):Prop:=∃(F':World),v = .bool r∧Sm W F w' F' []
theorem qL.calls(k:Nat)(x:List qE)(y:List qE)(A0_0:OA)(c0_0:Nat)(A1_0:OA)(c1_0:Nat)(r:Bool)(W F:World)(hown:Sub F W)(g0_0:Rd qE.k F A0_0 c0_0 x)(g1_0:Rd qE.k F A1_0 c1_0 y)(H:qL.f k x y=some r):
    Cr 101 #[.slice A0_0 x.length c0_0,.slice A1_0 y.length c1_0,.func (.func 102) #[] #[]] W (qL.Post W F r):=by
 have S:=sT hown
 unfold qL.f at H
 refine ent 32 rfl rfl rfl (fun a E=>?_)
 refine rr E fun a E=>(sq fun K2 hK2=>rr E fun a E=>(E.ikn 14 H (fun c4 E H=>?_) fun c4 E H=>?_))
 refine wp_skip (hK2 _ _ (sq fun K6 hK6=>rr E fun a E=>(wp_block ?_)))
 refine wp_loop_ghost (fun kq10 a w'=>∃(G:NV)(x8:Int),kq10≤k∧Env 32 G a∧At G [(1,.slice A1_0 y.length c1_0),(2,.func (.func 102) #[] #[]),(15,.slice A0_0 x.length c0_0),(16,iv (x.length:Int)),(17,iv x8)]∧Sm W F w' F []∧qL.l9 kq10 x y x8=some r) k ⟨_,0,Nat.le_refl _,E,.of,S,H⟩ ?_
 rintro kq10 a u12 ⟨G,x8,hkq,E,A,S,H⟩
 obtain _ | k11:=kq10
 exact zz H
 rw [qL.l9_s]at H
 obtain ⟨J,E⟩:=E.at A
 refine rr E fun a E=>(sq fun K14 hK14=>E.ik 18 H (fun c15 E H=>?_) fun c15 E H=>?_)
 refine wp_skip (hK14 _ _ (sq fun K16 hK16=>wp_block (sq fun K17 hK17=>pl0 ?_)))
 obtain ⟨c18,H⟩:=gd H
 have hE_:=E
 obtain ⟨ad19,rfl⟩:=g0_0.addr c18.1 c18.2
 replace E:=hE_
 obtain ⟨cs21,⟨A23,c24,rfl,g25⟩,hc22⟩:=g0_0.el qE.z x8 c18.1 c18.2
 refine plc E (.r 0 1<|.x 1 c18<|.cs 2 (S.fcs hc22)<|.nil) (fun a E=>pla (t:=40) E S [iv 0,iv 0,iv 0,iv 0,iv 0,iv 0,.slice none 0 0] fun b26 u27 hb26 S a E=>plc E (.r 4 1 .nil) (fun a E=>pls E S [iv ((nth qE.z x x8).f0),iv ((nth qE.z x x8).f1),iv ((nth qE.z x x8).f2),iv ((nth qE.z x x8).f3),iv ((nth qE.z x x8).f4),iv ((nth qE.z x x8).f5),.slice A23 (((nth qE.z x x8).f6).length) c24] fun u28 hb26 S a E=>pld (hK17 _ _ (sq fun K29 hK29=>pl0 ?_))))
 obtain ⟨c30,H⟩:=gd H
 have hE_:=E
 obtain ⟨ad31,rfl⟩:=g1_0.addr c30.1 c30.2
 replace E:=hE_
 obtain ⟨cs33,⟨A35,c36,rfl,g37⟩,hc34⟩:=g1_0.el qE.z x8 c30.1 c30.2
 refine plc E (.r 0 2<|.x 2 c30<|.cs 3 (S.fcs hc34)<|.nil) (fun a E=>pla (t:=40) E S [iv 0,iv 0,iv 0,iv 0,iv 0,iv 0,.slice none 0 0] fun b38 u39 hb38 S a E=>pls E S [iv ((nth qE.z y x8).f0),iv ((nth qE.z y x8).f1),iv ((nth qE.z y x8).f2),iv ((nth qE.z y x8).f3),iv ((nth qE.z y x8).f4),iv ((nth qE.z y x8).f5),.slice A35 (((nth qE.z y x8).f6).length) c36] fun u40 hb38 S a E=>pld (hK29 _ _ (sq fun K41 hK41=>pl0 (plc E (.r 0 1<|.bn 1 0 7 (S.ba 1)<|.bn 2 0 7 hb38<|.nil) (fun a E=>?_)))))
 obtain ⟨t43,h44,H⟩:=bd H
 refine plq E S en102 (acceptor_SameDelta.calls k11 (nth qE.z x x8) (nth qE.z y x8) _ _ _ _ _ _ _ S.own.sub g25 g37 h44) fun u42 S a E=>plc E (.r 4 1 .nil) (fun a E=>pld (hK41 _ _ (E.ibn 30 H (fun c45 E H=>?_) fun c45 E H=>?_)))
 refine wp_skip ?_
 refine qCp ?_
 refine hK16 _ _ (pl0 (plc E (.r 0 2 .nil) (fun a E=>pld ?_)))
 replace S:=S.pm [] 2
 exact qCq ⟨k11,by omega,_,(w64 (x8+1)),by omega,E,.of,S,H⟩
 refine rr E fun a E=>(wp_ret (qCo (qCn (qCn (qCo (qCn ?_))))))
 replace S:=S.pm [] 2
 obtain rfl:=si H
 exact rt1 E ⟨_,rfl,_,rfl,S⟩
 refine wp_exit ?_
 refine hK6 _ _ (rr E fun a E=>(wp_ret ?_))
 obtain rfl:=si H
 exact rt1 E ⟨_,rfl,_,rfl,S⟩
 refine rr E fun a E=>(wp_ret (qCn ?_))
 obtain rfl:=si H
 exact rt1 E ⟨_,rfl,_,rfl,S⟩
def qCY.f(k:Nat)(x:qp)(y:qp):Option Bool:=(qCX.f k x.f0 y.f0).bind fun t8=>(if t8=true then ((qL.f k x.f1 y.f1).bind fun t12=>(some t12)) else (some false))
def qCY.Post(W F:World)(r:Bool)(v:Value)(w':World):Prop:=∃(F':World),v = .bool r∧Sm W F w' F' []
theorem qCY.calls(k:Nat)(x:qp)(y:qp)(A0_4:OA)(c0_4:Nat)(A0_5:OA)(c0_5:Nat)(A0_6:OA)(c0_6:Nat)(A0_7:OA)(c0_7:Nat)(A1_4:OA)(c1_4:Nat)(A1_5:OA)(c1_5:Nat)(A1_6:OA)(c1_6:Nat)(A1_7:OA)(c1_7:Nat)(r:Bool)(W F:World)(hown:Sub F W)(g0_4:Rd qA.k F A0_4 c0_4 x.f0.f4)(g0_5:Rd qD.k F A0_5 c0_5 x.f0.f5)(g0_6:Rd qC.k F A0_6 c0_6 x.f0.f6)(g0_7:Rd qE.k F A0_7 c0_7 x.f1)(g1_4:Rd qA.k F A1_4 c1_4 y.f0.f4)(g1_5:Rd qD.k F A1_5 c1_5 y.f0.f5)(g1_6:Rd qC.k F A1_6 c1_6 y.f0.f6)(g1_7:Rd qE.k F A1_7 c1_7 y.f1)(H:qCY.f k x y=some r):
    Cr 48 #[.agg #[iv x.f0.f0,iv x.f0.f1,iv x.f0.f2,iv x.f0.f3,.slice A0_4 x.f0.f4.length c0_4,.slice A0_5 x.f0.f5.length c0_5,.slice A0_6 x.f0.f6.length c0_6,.slice A0_7 x.f1.length c0_7],.agg #[iv y.f0.f0,iv y.f0.f1,iv y.f0.f2,iv y.f0.f3,.slice A1_4 y.f0.f4.length c1_4,.slice A1_5 y.f0.f5.length c1_5,.slice A1_6 y.f0.f6.length c1_6,.slice A1_7 y.f1.length c1_7]] W (qCY.Post W F r):=by
 have S:=sT hown
 unfold qCY.f at H
 refine ent 17 rfl rfl rfl (fun a E=>?_)
 refine sq fun K1 hK1=>pl0 (plx (t:=59) E S [iv x.f0.f0,iv x.f0.f1,iv x.f0.f2,iv x.f0.f3,.slice A0_4 x.f0.f4.length c0_4,.slice A0_5 x.f0.f5.length c0_5,.slice A0_6 x.f0.f6.length c0_6,.slice A0_7 x.f1.length c0_7] fun b2 u3 hb2 S a E=>plx (t:=59) E S [iv y.f0.f0,iv y.f0.f1,iv y.f0.f2,iv y.f0.f3,.slice A1_4 y.f0.f4.length c1_4,.slice A1_5 y.f0.f5.length c1_5,.slice A1_6 y.f0.f6.length c1_6,.slice A1_7 y.f1.length c1_7] fun b4 u5 hb4 S a E=>plc E (.r 2 1 .nil) (fun a E=>pld (hK1 _ _ (sq fun K6 hK6=>pl0 ?_))))
 have hb2:=S.ba 1
 refine plc E (.r 0 1<|.bn 1 0 7 hb2<|.r 2 1<|.bn 3 0 7 hb4<|.nil) (fun a E=>?_)
 obtain ⟨t8,h9,H⟩:=bd H
 refine plq E S en35 (qCX.calls k x.f0 y.f0 _ _ _ _ _ _ _ _ _ _ _ _ _ _ _ S.own.sub g0_4 g0_5 g0_6 g1_4 g1_5 g1_6 h9) fun u7 S a E=>plc E (.r 5 1 .nil) (fun a E=>E.fb 10 H (fun c10 E H=>?_) fun c10 E H=>?_)
 refine plc E (.r 6 1<|.b 7 7 (S.ba 1)<|.r 8 1<|.b 9 7 (S.ba 0)<|.nil) (fun a E=>?_)
 obtain ⟨t12,h13,H⟩:=bd H
 refine plq E S en101 (qL.calls k x.f1 y.f1 _ _ _ _ _ _ _ S.own.sub g0_7 g1_7 h13) fun u11 S a E=>plc E (.r 11 2 .nil) (fun a E=>pld (hK6 _ _ (wp_ret ?_)))
 replace S:=S.pm [] 2
 obtain rfl:=si H
 exact rt1 E ⟨_,rfl,_,rfl,S⟩
 refine plc E (.r 6 7 .nil) (fun a E=>pld (hK6 _ _ (wp_ret ?_)))
 replace S:=S.pm [] 2
 obtain rfl:=si H
 exact rt1 E ⟨_,rfl,_,rfl,S⟩
def qAR.j16:Nat→qp→qF→Int→Bool→Option Bool
 | 0,_,_,_,_=>none
 | k+1,x,y,z,y15=>if y15=true then ((qBH.f k).bind fun t24=>(some t24)) else ((qBV.f k x z).bind fun t28=>((qAr.f k x).bind fun t38=>(if t38=true then ((qBf.f k x y).bind fun t49=>((qAc.f k x y).bind fun t71=>((qAB.f k x z).bind fun t91=>(if t49.2=t71.2 then ((qBU.f k t49.1 t71.1).bind fun t101=>(if t101=true then (if t28.2=t91.2 then ((qAU.f k t28.1 t91.1).bind fun t106=>(if t106=true then ((qCY.f k x t49.1).bind fun t110=>((qBU.f k x t49.1).bind fun t113=>(if t110=t113 then ((qBH.f k).bind fun t117=>(some t117)) else (some false)))) else (some false))) else (some false)) else (some false))) else (some false))))) else (if (t28.1.length:Int)=0 then (if t28.2=true then (some false) else ((qBH.f k).bind fun t45=>(some t45))) else (some false)))))
theorem qAR.j16_s k x y z y15:type_of% (qAR.j16.eq_2 x y z y15 k):=qAR.j16.eq_2 x y z y15 k
def qAR.f(k:Nat)(x:qp)(y:qF)(z:Int):Option Bool:=(qBe.f k x).bind fun t9=>(if t9=true then ((qW.f k y).bind fun t13=>(qAR.j16 k x y z (!t13))) else (qAR.j16 k x y z true))
def qAR.Post(W F:World)(r:Bool)(v:Value)(w':World):Prop:=∃(F':World),v = .bool r∧Sm W F w' F' []
theorem qAR.calls(k:Nat)(x:qp)(y:qF)(z:Int)(A0_4:OA)(c0_4:Nat)(A0_5:OA)(c0_5:Nat)(A0_6:OA)(c0_6:Nat)(A0_7:OA)(c0_7:Nat)(A1_4:OA)(c1_4:Nat)(A1_5:OA)(c1_5:Nat)(A1_6:OA)(c1_6:Nat)(r:Bool)(W F:World)(hown:Sub F W)(g0_4:Rd qA.k F A0_4 c0_4 x.f0.f4)(g0_5:Rd qD.k F A0_5 c0_5 x.f0.f5)(g0_6:Rd qC.k F A0_6 c0_6 x.f0.f6)(g0_7:Rd qE.k F A0_7 c0_7 x.f1)(g1_4:Rd qA.k F A1_4 c1_4 y.f4)(g1_5:Rd qD.k F A1_5 c1_5 y.f5)(g1_6:Rd qC.k F A1_6 c1_6 y.f6)(H:qAR.f k x y z=some r):
    Cr 10 #[.agg #[iv x.f0.f0,iv x.f0.f1,iv x.f0.f2,iv x.f0.f3,.slice A0_4 x.f0.f4.length c0_4,.slice A0_5 x.f0.f5.length c0_5,.slice A0_6 x.f0.f6.length c0_6,.slice A0_7 x.f1.length c0_7],.agg #[iv y.f0,iv y.f1,iv y.f2,iv y.f3,.slice A1_4 y.f4.length c1_4,.slice A1_5 y.f5.length c1_5,.slice A1_6 y.f6.length c1_6],iv z] W (qAR.Post W F r):=by
 have S:=sT hown
 unfold qAR.f at H
 refine ent 91 rfl rfl rfl (fun a E=>?_)
 refine sq fun K1 hK1=>pl0 (plx (t:=59) E S [iv x.f0.f0,iv x.f0.f1,iv x.f0.f2,iv x.f0.f3,.slice A0_4 x.f0.f4.length c0_4,.slice A0_5 x.f0.f5.length c0_5,.slice A0_6 x.f0.f6.length c0_6,.slice A0_7 x.f1.length c0_7] fun b2 u3 hb2 S a E=>plx (t:=26) E S [iv y.f0,iv y.f1,iv y.f2,iv y.f3,.slice A1_4 y.f4.length c1_4,.slice A1_5 y.f5.length c1_5,.slice A1_6 y.f6.length c1_6] fun b4 u5 hb4 S a E=>plc E (.r 2 1 .nil) (fun a E=>pld (hK1 _ _ (sq fun K6 hK6=>sq fun K7 hK7=>?_))))
 have J19:∀ kq17,kq17≤k→∀(G:NV)(y15:Bool)(a:Act)(w':World),Env 91 G a→At G [(2,iv z),(3,.pointer (pb b2)),(4,.pointer (pb b4)),(22,.bool y15)]→Sm W F w' F [box b4 #[iv y.f0,iv y.f1,iv y.f2,iv y.f3,.slice A1_4 y.f4.length c1_4,.slice A1_5 y.f5.length c1_5,.slice A1_6 y.f6.length c1_6] 26,box b2 #[iv x.f0.f0,iv x.f0.f1,iv x.f0.f2,iv x.f0.f3,.slice A0_4 x.f0.f4.length c0_4,.slice A0_5 x.f0.f5.length c0_5,.slice A0_6 x.f0.f6.length c0_6,.slice A0_7 x.f1.length c0_7] 59]→qAR.j16 kq17 x y z y15=some r→K7 a w':=by
  intro kq17 hkq G y15 a u20 E A S H
  obtain _ | k18:=kq17
  exact zz H
  rw [qAR.j16_s]at H
  obtain ⟨J,E⟩:=E.at A
  refine hK7 _ _ (E.ib 22 H (fun c21 E H=>?_) fun c21 E H=>?_)
  refine sq fun K22 hK22=>pl0 ?_
  obtain ⟨t24,h25,H⟩:=bd H
  refine plq E S en37 (qBH.calls k18 _ _ _ S.own.sub h25) fun u23 S a E=>plc E (.r 1 1 .nil) (fun a E=>pld (hK22 _ _ (wp_ret (qCn ?_))))
  replace S:=S.pm [] 2
  obtain rfl:=si H
  exact rt1 E ⟨_,rfl,_,rfl,S⟩
  refine wp_skip (hK6 _ _ (sq fun K26 hK26=>pl0 (plc E (.bn 0 0 8 (S.ba 1)<|.r 1 1<|.nil) (fun a E=>?_))))
  obtain ⟨t28,h29,H⟩:=bd H
  refine ple E (.cl en41 (qBV.calls k18 x z _ _ _ _ _ _ _ _ _ _ _ S.own.sub g0_4 g0_5 g0_6 g0_7 h29)) ?_
  rintro _ u27 a ⟨F30,A31,c32,rfl,hC⟩ E
  have hs:=hC.sub
  replace S:=S.called (X:=[]) hC
  replace g0_4:=g0_4.mono hs
  replace g0_5:=g0_5.mono hs
  replace g0_6:=g0_6.mono hs
  replace g0_7:=g0_7.mono hs
  replace g1_4:=g1_4.mono hs
  replace g1_5:=g1_5.mono hs
  replace g1_6:=g1_6.mono hs
  refine plc E (.r 3 5 .nil) (fun a E=>pld (hK26 _ _ (sq fun K35 hK35=>sq fun K36 hK36=>pl0 ?_)))
  have hb2:=S.ba 2
  refine plc E (.bn 0 0 8 hb2 .nil) (fun a E=>?_)
  obtain ⟨t38,h39,H⟩:=bd H
  refine plq E S en42 (qAr.calls k18 x _ _ _ _ _ _ _ _ _ _ _ S.own.sub g0_4 g0_5 g0_6 g0_7 h39) fun u37 S a E=>plc E (.r 2 1 .nil) (fun a E=>pld (hK36 _ _ (E.ibn 32 H (fun c40 E H=>?_) fun c40 E H=>?_)))
  refine wp_skip (hK35 _ _ (sq fun K47 hK47=>pl0 (plc E (.bn 0 0 8 (S.ba 2)<|.bn 1 0 7 (S.ba 1)<|.nil) (fun a E=>?_))))
  obtain ⟨t49,h50,H⟩:=bd H
  refine ple E (.cl en43 (qBf.calls k18 x y _ _ _ _ _ _ _ _ _ _ _ _ _ _ _ _ _ S.own.sub g0_4 g0_5 g0_6 g0_7 g1_4 g1_5 g1_6 h50)) ?_
  rintro _ u48 a ⟨F51,A52,c53,A55,c56,A58,c59,A62,c63,rfl,hC,g54,g57⟩ E
  have hs:=hC.sub
  replace S:=S.called (X:=[]) hC
  replace g0_4:=g0_4.mono hs
  replace g0_5:=g0_5.mono hs
  replace g0_6:=g0_6.mono hs
  replace g0_7:=g0_7.mono hs
  replace g1_4:=g1_4.mono hs
  replace g1_5:=g1_5.mono hs
  replace g1_6:=g1_6.mono hs
  refine plc E (.r 3 3 .nil) (fun a E=>pla (t:=59) E S [iv 0,iv 0,iv 0,iv 0,.slice none 0 0,.slice none 0 0,.slice none 0 0,.slice none 0 0] fun b66 u67 hb66 S a E=>pls E S [iv t49.1.f0.f0,iv t49.1.f0.f1,iv t49.1.f0.f2,iv t49.1.f0.f3,.slice A52 t49.1.f0.f4.length c53,.slice A55 t49.1.f0.f5.length c56,.slice A58 t49.1.f0.f6.length c59,.slice A62 t49.1.f1.length c63] fun u68 hb66 S a E=>plc E (.r 8 1 .nil) (fun a E=>pld (hK47 _ _ (sq fun K69 hK69=>pl0 (plc E (.bn 0 0 8 (S.ba 5)<|.bn 1 0 7 (S.ba 4)<|.nil) (fun a E=>?_))))))
  obtain ⟨t71,h72,H⟩:=bd H
  refine ple E (.cl en44 (qAc.calls k18 x y _ _ _ _ _ _ _ _ _ _ _ _ _ _ _ _ _ S.own.sub g0_4 g0_5 g0_6 g0_7 g1_4 g1_5 g1_6 h72)) ?_
  rintro _ u70 a ⟨F73,A74,c75,A77,c78,A80,c81,A83,c84,rfl,hC,g76,g79,g82,g85⟩ E
  have hs:=hC.sub
  replace S:=S.called (X:=[]) hC
  replace g0_4:=g0_4.mono hs
  replace g0_5:=g0_5.mono hs
  replace g0_6:=g0_6.mono hs
  replace g0_7:=g0_7.mono hs
  replace g54:=g54.mono hs
  replace g57:=g57.mono hs
  replace g1_4:=g1_4.mono hs
  replace g1_5:=g1_5.mono hs
  replace g1_6:=g1_6.mono hs
  refine plc E (.r 3 3 .nil) (fun a E=>pla (t:=59) E S [iv 0,iv 0,iv 0,iv 0,.slice none 0 0,.slice none 0 0,.slice none 0 0,.slice none 0 0] fun b86 u87 hb86 S a E=>pls E S [iv t71.1.f0.f0,iv t71.1.f0.f1,iv t71.1.f0.f2,iv t71.1.f0.f3,.slice A74 t71.1.f0.f4.length c75,.slice A77 t71.1.f0.f5.length c78,.slice A80 t71.1.f0.f6.length c81,.slice A83 t71.1.f1.length c84] fun u88 hb86 S a E=>plc E (.r 8 1 .nil) (fun a E=>pld (hK69 _ _ (sq fun K89 hK89=>pl0 ?_))))
  have hb2:=S.ba 6
  refine plc E (.bn 0 0 8 hb2<|.r 1 1<|.nil) (fun a E=>?_)
  obtain ⟨t91,h92,H⟩:=bd H
  refine ple E (.cl en45 (qAB.calls k18 x z _ _ _ _ _ _ _ _ _ _ _ S.own.sub g0_4 g0_5 g0_6 g0_7 h92)) ?_
  rintro _ u90 a ⟨F93,A94,c95,rfl,hC⟩ E
  have hs:=hC.sub
  replace S:=S.called (X:=[]) hC
  replace g0_4:=g0_4.mono hs
  replace g0_5:=g0_5.mono hs
  replace g0_6:=g0_6.mono hs
  replace g0_7:=g0_7.mono hs
  replace g54:=g54.mono hs
  replace g57:=g57.mono hs
  replace g1_4:=g1_4.mono hs
  replace g1_5:=g1_5.mono hs
  replace g1_6:=g1_6.mono hs
  replace g76:=g76.mono hs
  replace g79:=g79.mono hs
  replace g82:=g82.mono hs
  replace g85:=g85.mono hs
  refine plc E (.r 3 5 .nil) (fun a E=>pld (hK89 _ _ (sq fun K98 hK98=>?_)))
  refine drawn 31 ⟨[],[],fun q=>False⟩ mixed rfl (by kernel_rfl) (fun hst=>?_)
  replace S:=S.drew
  refine mny 27 hst E (.r 0 4 .nil) (fun a E=>?_)
  refine E.fk 64 H (fun c99 E H=>?_) fun c99 E H=>?_
  have hb66:=S.ba 2
  have hb86:=S.ba 1
  refine mny 25 hst E (.bn 4 0 8 hb66<|.bn 5 0 8 hb86<|.nil) (fun a E=>?_)
  obtain ⟨t101,h102,H⟩:=bd H
  refine on1 6 E (.cl en46 (qBU.calls k18 t49.1 t71.1 _ _ _ _ _ _ _ _ _ _ _ _ _ _ _ _ _ _ _ (Sub.refl _) (g54.mono S.own.sub) (g57.mono S.own.sub) (S.rd_at (i:=3) rfl) (S.rd_at (i:=4) rfl) (g76.mono S.own.sub) (g79.mono S.own.sub) (g82.mono S.own.sub) (g85.mono S.own.sub) h102)) ?_
  rintro _ u100 a ⟨_,rfl,hC⟩ E
  refine ⟨.of hC.agr,?_⟩
  replace S:=S.lent hC
  refine mny 22 hst E (.r 7 2 .nil) (fun a E=>?_)
  refine E.fb 69 H (fun c103 E H=>?_) fun c103 E H=>?_
  refine mny 17 hst E (.r 9 5 .nil) (fun a E=>?_)
  refine E.fk 74 H (fun c104 E H=>?_) fun c104 E H=>?_
  refine mny 15 hst E (.r 14 2 .nil) (fun a E=>?_)
  obtain ⟨t106,h107,H⟩:=bd H
  refine on1 16 E (.cl en47 (qAU.calls k18 t28.1 t91.1 _ _ _ _ _ _ _ (Sub.refl _) (S.rd_at (i:=5) rfl) (S.rd_at (i:=0) rfl) h107)) ?_
  rintro _ u105 a ⟨_,rfl,hC⟩ E
  refine ⟨.of hC.agr,?_⟩
  replace S:=S.lent hC
  refine mny 12 hst E (.r 17 2 .nil) (fun a E=>?_)
  refine E.fb 79 H (fun c108 E H=>?_) fun c108 E H=>?_
  have hb2:=S.ba 7
  have hb66:=S.ba 2
  refine mny 8 hst E (.bn 19 0 8 hb2<|.bn 20 0 8 hb66<|.bn 22 0 8 hb2<|.bn 23 0 8 hb66<|.nil) (fun a E=>?_)
  obtain ⟨t110,h111,H⟩:=bd H
  refine on1 21 E (.cl en48 (qCY.calls k18 x t49.1 _ _ _ _ _ _ _ _ _ _ _ _ _ _ _ _ _ _ _ (Sub.refl _) (g0_4.mono S.own.sub) (g0_5.mono S.own.sub) (g0_6.mono S.own.sub) (g0_7.mono S.own.sub) (g54.mono S.own.sub) (g57.mono S.own.sub) (S.rd_at (i:=3) rfl) (S.rd_at (i:=4) rfl) h111)) ?_
  rintro _ u109 a ⟨_,rfl,hC⟩ E
  refine ⟨.of hC.agr,?_⟩
  replace S:=S.lent hC
  obtain ⟨t113,h114,H⟩:=bd H
  refine on1 24 E (.cl en46 (qBU.calls k18 x t49.1 _ _ _ _ _ _ _ _ _ _ _ _ _ _ _ _ _ _ _ (Sub.refl _) (g0_4.mono S.own.sub) (g0_5.mono S.own.sub) (g0_6.mono S.own.sub) (g0_7.mono S.own.sub) (g54.mono S.own.sub) (g57.mono S.own.sub) (S.rd_at (i:=3) rfl) (S.rd_at (i:=4) rfl) h114)) ?_
  rintro _ u112 a ⟨_,rfl,hC⟩ E
  refine ⟨.of hC.agr,?_⟩
  replace S:=S.lent hC
  refine mny 3 hst E (.r 25 3 .nil) (fun a E=>?_)
  refine E.fk 88 H (fun c115 E H=>?_) fun c115 E H=>?_
  obtain ⟨t117,h118,H⟩:=bd H
  refine on1 28 E (.cl en37 (qBH.calls k18 _ _ _ S.own.sub h118)) ?_
  rintro _ u116 a ⟨_,rfl,hC⟩ E
  refine ⟨.of hC.agr,?_⟩
  replace S:=S.lent hC
  refine mny 0 hst E (.r 29 2 .nil) (fun a E=>?_)
  refine dn ?_
  refine hK98 _ _ (wp_ret ?_)
  replace S:=S.pm [] 8
  obtain rfl:=si H
  exact rt1 E ⟨_,rfl,_,rfl,S⟩
  refine mny 0 hst E (.r 28 3 .nil) (fun a E=>?_)
  refine dn ?_
  refine hK98 _ _ (wp_ret ?_)
  replace S:=S.pm [] 8
  obtain rfl:=si H
  exact rt1 E ⟨_,rfl,_,rfl,S⟩
  refine mny 0 hst E (.r 19 12 .nil) (fun a E=>?_)
  refine dn ?_
  refine hK98 _ _ (wp_ret ?_)
  replace S:=S.pm [] 8
  obtain rfl:=si H
  exact rt1 E ⟨_,rfl,_,rfl,S⟩
  refine mny 0 hst E (.r 14 17 .nil) (fun a E=>?_)
  refine dn ?_
  refine hK98 _ _ (wp_ret ?_)
  replace S:=S.pm [] 8
  obtain rfl:=si H
  exact rt1 E ⟨_,rfl,_,rfl,S⟩
  refine mny 0 hst E (.r 9 22 .nil) (fun a E=>?_)
  refine dn ?_
  refine hK98 _ _ (wp_ret ?_)
  replace S:=S.pm [] 8
  obtain rfl:=si H
  exact rt1 E ⟨_,rfl,_,rfl,S⟩
  refine mny 0 hst E (.r 4 27 .nil) (fun a E=>?_)
  refine dn ?_
  refine hK98 _ _ (wp_ret ?_)
  replace S:=S.pm [] 8
  obtain rfl:=si H
  exact rt1 E ⟨_,rfl,_,rfl,S⟩
  refine sq fun K41 hK41=>pl0 (plc E (.r 0 4 .nil) (fun a E=>E.fk 36 H (fun c42 E H=>?_) fun c42 E H=>?_))
  refine plc E (.r 4 4 .nil) (fun a E=>E.fbn 40 H (fun c43 E H=>?_) fun c43 E H=>?_)
  refine plc E (.r 8 3 .nil) (fun a E=>pld (hK41 _ _ (wp_ret (qCn ?_))))
  replace S:=S.pm [] 3
  obtain rfl:=si H
  exact rt1 E ⟨_,rfl,_,rfl,S⟩
  obtain ⟨t45,h46,H⟩:=bd H
  refine plq E S en37 (qBH.calls k18 _ _ _ S.own.sub h46) fun u44 S a E=>plc E (.r 9 2 .nil) (fun a E=>pld (hK41 _ _ (wp_ret (qCn ?_))))
  replace S:=S.pm [] 3
  obtain rfl:=si H
  exact rt1 E ⟨_,rfl,_,rfl,S⟩
  refine plc E (.r 4 7 .nil) (fun a E=>pld (hK41 _ _ (wp_ret (qCn ?_))))
  replace S:=S.pm [] 3
  obtain rfl:=si H
  exact rt1 E ⟨_,rfl,_,rfl,S⟩
 refine pl0 (plc E (.bn 0 0 8 (S.ba 1) .nil) (fun a E=>?_))
 obtain ⟨t9,h10,H⟩:=bd H
 refine plq E S en40 (qBe.calls k x _ _ _ _ _ _ _ _ _ _ _ S.own.sub g0_4 g0_5 g0_6 g0_7 h10) fun u8 S a E=>plc E (.r 2 2 .nil) (fun a E=>E.fbn 18 H (fun c11 E H=>?_) fun c11 E H=>?_)
 refine plc E (.bn 4 0 7 (S.ba 0) .nil) (fun a E=>?_)
 obtain ⟨t13,h14,H⟩:=bd H
 refine plq E S en20 (qW.calls k y _ _ _ _ _ _ _ _ _ S.own.sub g1_4 g1_5 g1_6 h14) fun u12 S a E=>plc E (.r 6 2 .nil) (fun a E=>pld ?_)
 exact J19 _ (by omega) _ (!t13) _ _ E .of S H
 refine plc E (.r 4 4 .nil) (fun a E=>pld ?_)
 exact J19 _ (by omega) _ true _ _ E .of S H
end Go.Proofs.YtpohepinmjmbkaaGreat.PJ
