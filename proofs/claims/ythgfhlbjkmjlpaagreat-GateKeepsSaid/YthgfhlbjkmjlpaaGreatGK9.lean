import Derived.Test.YthgfhlbjkmjlpaaGreatGK8
namespace Go.Proofs.YthgfhlbjkmjlpaaGreat.GK
open Go Go.RowKit Go.Proofs.YthgfhlbjkmjlpaaGreat.Sl
set_option linter.unusedVariables false
set_option linter.unusedSimpArgs false
set_option maxHeartbeats 4000000
set_option maxRecDepth 100000
mutual
def qK.j20:Nat→qE→qT→qAm→Bool→Option Bool
 | 0,_,_,_,_=>none
 | k+1,x,y,z,y19=>if y19=true then ((qAs.f k).bind fun t28=>(some t28)) else ((qt.f k x y).bind fun t32=>(if t32.2=0 then ((qf.f k x y).bind fun t53=>(qK.l66 k x z t32 t53 0 0)) else (some false)))
def qK.l66:Nat→qE→qAm→qE × Int→List Int→Int→Int→Option Bool
 | 0,_,_,_,_,_,_=>none
 | k+1,x,z,t32,t53,x63,x64=>if x64<x.f3 then (qK.l79 k x z t32 t53 x63 x64 false 0) else (if (t53.length:Int)=0 then ((qAs.f k).bind fun t136=>(some t136)) else (if x63≤z.f1 then ((qAs.f k).bind fun t140=>(some t140)) else (some false)))
def qK.l79:Nat→qE→qAm→qE × Int→List Int→Int→Int→Bool→Int→Option Bool
 | 0,_,_,_,_,_,_,_,_=>none
 | k+1,x,z,t32,t53,x63,x64,y77,x78=>if x78<(t53.length:Int) then (if y77=true then (qK.l79 k x z t32 t53 x63 x64 true (w64 (x78+1))) else (if 0≤x78∧x78<(t53.length:Int) then (qK.l79 k x z t32 t53 x63 x64 ((nth 0 t53 x78) == x64) (w64 (x78+1))) else (none))) else ((qv.f k t32.1 x64).bind fun t96=>(if y77=true then (if (t96.length:Int)<x.f2 then (qK.j112 k x z t32 t53 x63 x64 true true) else ((qn.f k t32.1.f4 t96).bind fun t108=>(qK.j112 k x z t32 t53 x63 x64 true (!t108)))) else (qK.j112 k x z t32 t53 x63 x64 false false)))
def qK.j112:Nat→qE→qAm→qE × Int→List Int→Int→Int→Bool→Bool→Option Bool
 | 0,_,_,_,_,_,_,_,_=>none
 | k+1,x,z,t32,t53,x63,x64,y110,y111=>if y111=true then (some false) else (if y110=true then (qK.j127 k x z t32 t53 x63 x64 true) else (if 0≤x64∧x64<(z.f0.length:Int) then (qK.j127 k x z t32 t53 x63 x64 (!(nth false z.f0 x64))) else (none)))
def qK.j127:Nat→qE→qAm→qE × Int→List Int→Int→Int→Bool→Option Bool
 | 0,_,_,_,_,_,_,_=>none
 | k+1,x,z,t32,t53,x63,x64,y126=>if y126=true then (qK.l66 k x z t32 t53 (w64 (x63+1)) (w64 (x64+1))) else (qK.l66 k x z t32 t53 x63 (w64 (x64+1)))
end
theorem qK.j20_s k x y z y19:type_of% (qK.j20.eq_2 x y z y19 k):=qK.j20.eq_2 x y z y19 k
theorem qK.l66_s k x z t32 t53 x63 x64:type_of% (qK.l66.eq_2 x z t32 t53 x63 x64 k):=qK.l66.eq_2 x z t32 t53 x63 x64 k
theorem qK.l79_s k x z t32 t53 x63 x64 y77 x78:type_of% (qK.l79.eq_2 x z t32 t53 x63 x64 y77 x78 k):=qK.l79.eq_2 x z t32 t53 x63 x64 y77 x78 k
theorem qK.j112_s k x z t32 t53 x63 x64 y110 y111:type_of% (qK.j112.eq_2 x z t32 t53 x63 x64 y110 y111 k):=qK.j112.eq_2 x z t32 t53 x63 x64 y110 y111 k
theorem qK.j127_s k x z t32 t53 x63 x64 y126:type_of% (qK.j127.eq_2 x z t32 t53 x63 x64 y126 k):=qK.j127.eq_2 x z t32 t53 x63 x64 y126 k
def qK.f(k:Nat)(x:qE)(y:qT)(z:qAm):Option Bool:=(qW.f k x).bind fun t11=>(if t11=true then (if (y.f6.length:Int)>20 then (qK.j20 k x y z true) else (if (z.f0.length:Int)>30 then (qK.j20 k x y z true) else ((qAg.f k x y z.f0 z.f1).bind fun t17=>(qK.j20 k x y z (!(t17 == 0)))))) else (qK.j20 k x y z true))
def qK.Post(W F:World)(r:Bool)(v:Value)(w':World):Prop:=∃(F':World),v = .bool r∧Sm W F w' F' []
theorem qK.calls(k:Nat)(x:qE)(y:qT)(z:qAm)(A0_4:OA)(c0_4:Nat)(A0_5:OA)(c0_5:Nat)(A0_6:OA)(c0_6:Nat)(A1_6:OA)(c1_6:Nat)(A2_0:OA)(c2_0:Nat)(r:Bool)(W F:World)(hown:Sub F W)(g0_4:Rd qA.k F A0_4 c0_4 x.f4)(g0_5:Rd qD.k F A0_5 c0_5 x.f5)(g0_6:Rd qC.k F A0_6 c0_6 x.f6)(g1_6:Rd ki F A1_6 c1_6 y.f6)(g2_0:Rd Kn.bool F A2_0 c2_0 z.f0)(H:qK.f k x y z=some r):
    Cr 4 #[.agg #[iv x.f0,iv x.f1,iv x.f2,iv x.f3,.slice A0_4 x.f4.length c0_4,.slice A0_5 x.f5.length c0_5,.slice A0_6 x.f6.length c0_6],.agg #[iv y.f0,iv y.f1,iv y.f2,iv y.f3,iv y.f4,iv y.f5,.slice A1_6 y.f6.length c1_6],.agg #[.slice A2_0 z.f0.length c2_0,iv z.f1]] W (qK.Post W F r):=by
 have S:=sT hown
 unfold qK.f at H
 refine ent 114 rfl rfl rfl (fun a E=>?_)
 refine sq fun K1 hK1=>pl0 (plx (t:=26) E S [iv x.f0,iv x.f1,iv x.f2,iv x.f3,.slice A0_4 x.f4.length c0_4,.slice A0_5 x.f5.length c0_5,.slice A0_6 x.f6.length c0_6] fun b2 u3 hb2 S a E=>plx (t:=29) E S [iv y.f0,iv y.f1,iv y.f2,iv y.f3,iv y.f4,iv y.f5,.slice A1_6 y.f6.length c1_6] fun b4 u5 hb4 S a E=>plx (t:=32) E S [.slice A2_0 z.f0.length c2_0,iv z.f1] fun b6 u7 hb6 S a E=>plc E (.r 3 1 .nil) (fun a E=>pld (hK1 _ _ (sq fun K8 hK8=>sq fun K9 hK9=>?_))))
 have J23:∀ kq21,kq21≤k→∀(G:NV)(y19:Bool)(a:Act)(w':World),Env 114 G a→At G [(3,.pointer (pb b2)),(4,.pointer (pb b4)),(5,.pointer (pb b6)),(39,.bool y19)]→Sm W F w' F [box b6 #[.slice A2_0 z.f0.length c2_0,iv z.f1] 32,box b4 #[iv y.f0,iv y.f1,iv y.f2,iv y.f3,iv y.f4,iv y.f5,.slice A1_6 y.f6.length c1_6] 29,box b2 #[iv x.f0,iv x.f1,iv x.f2,iv x.f3,.slice A0_4 x.f4.length c0_4,.slice A0_5 x.f5.length c0_5,.slice A0_6 x.f6.length c0_6] 26]→qK.j20 kq21 x y z y19=some r→K9 a w':=by
  intro kq21 hkq G y19 a u24 E A S H
  obtain _ | k22:=kq21
  exact zz H
  rw [qK.j20_s]at H
  obtain ⟨J,E⟩:=E.at A
  refine hK9 _ _ (E.ib 39 H (fun c25 E H=>?_) fun c25 E H=>?_)
  refine sq fun K26 hK26=>pl0 ?_
  obtain ⟨t28,h29,H⟩:=bd H
  refine plq E S en11 (qAs.calls k22 _ _ _ S.own.sub h29) fun u27 S a E=>plc E (.r 1 1 .nil) (fun a E=>pld (hK26 _ _ (wp_ret (qCJ ?_))))
  replace S:=S.pm [] 3
  obtain rfl:=si H
  exact rt1 E ⟨_,rfl,_,rfl,S⟩
  refine wp_skip (hK8 _ _ (sq fun K30 hK30=>pl0 ?_))
  have hb2:=S.ba 2
  have hb4:=S.ba 1
  refine plc E (.bn 0 0 7 hb2<|.bn 1 0 7 hb4<|.nil) (fun a E=>?_)
  obtain ⟨t32,h33,H⟩:=bd H
  refine ple E (.cl en14 (qt.calls k22 x y _ _ _ _ _ _ _ _ _ _ _ S.own.sub g0_4 g0_5 g0_6 g1_6 h33)) ?_
  rintro _ u31 a ⟨F34,A35,c36,A38,c39,A41,c42,rfl,hC,g37,g40,g43⟩ E
  have hs:=hC.sub
  replace S:=S.called (X:=[]) hC
  replace g0_4:=g0_4.mono hs
  replace g0_5:=g0_5.mono hs
  replace g0_6:=g0_6.mono hs
  replace g1_6:=g1_6.mono hs
  replace g2_0:=g2_0.mono hs
  refine plc E (.r 3 3 .nil) (fun a E=>pla (t:=26) E S [iv 0,iv 0,iv 0,iv 0,.slice none 0 0,.slice none 0 0,.slice none 0 0] fun b44 u45 hb44 S a E=>pls E S [iv t32.1.f0,iv t32.1.f1,iv t32.1.f2,iv t32.1.f3,.slice A35 t32.1.f4.length c36,.slice A38 t32.1.f5.length c39,.slice A41 t32.1.f6.length c42] fun u46 hb44 S a E=>plc E (.r 8 1 .nil) (fun a E=>pld (hK30 _ _ (sq fun K47 hK47=>rr E fun a E=>(E.ikn 48 H (fun c49 E H=>?_) fun c49 E H=>?_)))))
  refine wp_skip (hK47 _ _ (sq fun K51 hK51=>pl0 (plc E (.bn 0 0 7 (S.ba 3)<|.bn 1 0 7 (S.ba 2)<|.nil) (fun a E=>?_))))
  obtain ⟨t53,h54,H⟩:=bd H
  refine ple E (.cl en15 (qf.calls k22 x y _ _ _ _ _ _ _ _ _ _ _ S.own.sub g0_4 g0_5 g0_6 g1_6 h54)) ?_
  rintro _ u52 a ⟨F55,A56,c57,rfl,hC⟩ E
  have hs:=hC.sub
  replace S:=S.called (X:=[]) hC
  replace g37:=g37.mono hs
  replace g40:=g40.mono hs
  replace g43:=g43.mono hs
  replace g0_4:=g0_4.mono hs
  replace g0_5:=g0_5.mono hs
  replace g0_6:=g0_6.mono hs
  replace g1_6:=g1_6.mono hs
  replace g2_0:=g2_0.mono hs
  refine plc E (.r 3 1 .nil) (fun a E=>pld (hK51 _ _ (rr E fun a E=>(sq fun K61 hK61=>rr E fun a E=>(wp_block ?_)))))
  replace S:=S.pm [1,2,3,4,0] 5
  refine wp_loop_ghost (fun kq67 a w'=>∃(G:NV)(x63:Int)(x64:Int)(F65:World),kq67≤k22∧Env 114 G a∧At G [(3,.pointer (pb b2)),(5,.pointer (pb b6)),(7,.pointer (pb b44)),(9,.slice A56 t53.length c57),(10,iv x63),(11,iv x64)]∧Sm W F w' F65 [box b44 #[iv t32.1.f0,iv t32.1.f1,iv t32.1.f2,iv t32.1.f3,.slice A35 t32.1.f4.length c36,.slice A38 t32.1.f5.length c39,.slice A41 t32.1.f6.length c42] 26,box b6 #[.slice A2_0 z.f0.length c2_0,iv z.f1] 32,box b4 #[iv y.f0,iv y.f1,iv y.f2,iv y.f3,iv y.f4,iv y.f5,.slice A1_6 y.f6.length c1_6] 29,box b2 #[iv x.f0,iv x.f1,iv x.f2,iv x.f3,.slice A0_4 x.f4.length c0_4,.slice A0_5 x.f5.length c0_5,.slice A0_6 x.f6.length c0_6] 26,row ki 3 (.slice A56 t53.length c57) t53]∧Rd qA.k F65 A35 c36 t32.1.f4∧Rd qD.k F65 A38 c39 t32.1.f5∧Rd qC.k F65 A41 c42 t32.1.f6∧Rd Kn.bool F65 A2_0 c2_0 z.f0∧Rd ki F65 A1_6 c1_6 y.f6∧Rd qA.k F65 A0_4 c0_4 x.f4∧Rd qD.k F65 A0_5 c0_5 x.f5∧Rd qC.k F65 A0_6 c0_6 x.f6∧qK.l66 kq67 x z t32 t53 x63 x64=some r) k22 ⟨_,0,0,F55,Nat.le_refl _,E,.of,S,g37,g40,g43,g2_0,g1_6,g0_4,g0_5,g0_6,H⟩ ?_
  rintro kq67 a u69 ⟨G,x63,x64,F65,hkq,E,A,S,g37,g40,g43,g2_0,g1_6,g0_4,g0_5,g0_6,H⟩
  obtain _ | k68:=kq67
  exact zz H
  rw [qK.l66_s]at H
  obtain ⟨J,E⟩:=E.at A
  refine sq fun K70 hK70=>sq fun K71 hK71=>pl0 ?_
  have hb2:=S.ba 3
  refine plc E (.r 0 2<|.b 2 3 hb2<|.r 3 1<|.nil) (fun a E=>pld (hK71 _ _ (E.ik 55 H (fun c72 E H=>?_) fun c72 E H=>?_)))
  refine wp_skip (hK70 _ _ (sq fun K73 hK73=>wp_block (rr E fun a E=>(sq fun K75 hK75=>rr E fun a E=>(wp_block ?_)))))
  refine wp_loop_ghost (fun kq80 a w'=>∃(G:NV)(y77:Bool)(x78:Int),kq80≤k68∧Env 114 G a∧At G [(3,.pointer (pb b2)),(5,.pointer (pb b6)),(7,.pointer (pb b44)),(9,.slice A56 t53.length c57),(10,iv x63),(11,iv x64),(12,.bool y77),(13,iv x78)]∧Sm W F w' F65 [box b44 #[iv t32.1.f0,iv t32.1.f1,iv t32.1.f2,iv t32.1.f3,.slice A35 t32.1.f4.length c36,.slice A38 t32.1.f5.length c39,.slice A41 t32.1.f6.length c42] 26,box b6 #[.slice A2_0 z.f0.length c2_0,iv z.f1] 32,box b4 #[iv y.f0,iv y.f1,iv y.f2,iv y.f3,iv y.f4,iv y.f5,.slice A1_6 y.f6.length c1_6] 29,box b2 #[iv x.f0,iv x.f1,iv x.f2,iv x.f3,.slice A0_4 x.f4.length c0_4,.slice A0_5 x.f5.length c0_5,.slice A0_6 x.f6.length c0_6] 26,row ki 3 (.slice A56 t53.length c57) t53]∧qK.l79 kq80 x z t32 t53 x63 x64 y77 x78=some r) k68 ⟨_,false,0,Nat.le_refl _,E,.of,S,H⟩ ?_
  rintro kq80 a u82 ⟨G,y77,x78,hkq,E,A,S,H⟩
  obtain _ | k81:=kq80
  exact zz H
  rw [qK.l79_s]at H
  obtain ⟨J,E⟩:=E.at A
  refine sq fun K83 hK83=>rr E fun a E=>(E.ik 61 H (fun c85 E H=>?_) fun c85 E H=>?_)
  refine wp_skip (hK83 _ _ (sq fun K86 hK86=>wp_block (pl0 (plc E (.r 0 2 .nil) (fun a E=>E.fb 12 H (fun c87 E H=>?_) fun c87 E H=>?_)))))
  replace E:=E.bt 65 c87
  refine plc E (.r 2 8 .nil) (fun a E=>pld ?_)
  refine qCL ?_
  refine hK86 _ _ (pl0 (plc E (.r 0 3 .nil) (fun a E=>pld ?_)))
  exact qCM ⟨k81,by omega,_,true,(w64 (x78+1)),by omega,E,.of,S,H⟩
  replace E:=E.bf 65 c87
  obtain ⟨c88,H⟩:=gd H
  have hr89:=S.ra 4
  have hE_:=E
  obtain ⟨b90,rfl⟩:=qCQ hr89 c88.1 c88.2
  replace E:=hE_
  have hr_:=S.ra 4
  obtain ⟨cs92,rfl,hc93⟩:=qCO hr_ 0 x78 c88.1 c88.2
  refine plc E (.r 2 2<|.x 4 c88<|.c 5 (hc93 0 _ rfl)<|.r 6 4<|.nil) (fun a E=>pld ?_)
  refine qCL ?_
  refine hK86 _ _ (pl0 (plc E (.r 0 3 .nil) (fun a E=>pld ?_)))
  exact qCM ⟨k81,by omega,_,((nth 0 t53 x78) == x64),(w64 (x78+1)),by omega,E,.of,S,H⟩
  refine wp_exit ?_
  refine hK75 _ _ (sq fun K94 hK94=>pl0 ?_)
  have hb44:=S.ba 0
  refine plc E (.bn 0 0 7 hb44<|.r 1 1<|.nil) (fun a E=>?_)
  obtain ⟨t96,h97,H⟩:=bd H
  refine ple E (.cl en16 (qv.calls k81 t32.1 x64 _ _ _ _ _ _ _ _ _ S.own.sub g37 g40 g43 h97)) ?_
  rintro _ u95 a ⟨F98,A99,c100,rfl,hC⟩ E
  have hs:=hC.sub
  replace S:=S.called (X:=[]) hC
  replace g37:=g37.mono hs
  replace g40:=g40.mono hs
  replace g43:=g43.mono hs
  replace g2_0:=g2_0.mono hs
  replace g1_6:=g1_6.mono hs
  replace g0_4:=g0_4.mono hs
  replace g0_5:=g0_5.mono hs
  replace g0_6:=g0_6.mono hs
  refine plc E (.r 3 1 .nil) (fun a E=>pld (hK94 _ _ (sq fun K103 hK103=>sq fun K104 hK104=>?_)))
  have J115:∀ kq113,kq113≤k81→∀(G:NV)(y110:Bool)(y111:Bool)(a:Act)(w':World),Env 114 G a→At G [(3,.pointer (pb b2)),(5,.pointer (pb b6)),(7,.pointer (pb b44)),(9,.slice A56 t53.length c57),(10,iv x63),(11,iv x64),(12,.bool y110),(90,.bool y111)]→Sm W F w' F98 [box b44 #[iv t32.1.f0,iv t32.1.f1,iv t32.1.f2,iv t32.1.f3,.slice A35 t32.1.f4.length c36,.slice A38 t32.1.f5.length c39,.slice A41 t32.1.f6.length c42] 26,box b6 #[.slice A2_0 z.f0.length c2_0,iv z.f1] 32,box b4 #[iv y.f0,iv y.f1,iv y.f2,iv y.f3,iv y.f4,iv y.f5,.slice A1_6 y.f6.length c1_6] 29,box b2 #[iv x.f0,iv x.f1,iv x.f2,iv x.f3,.slice A0_4 x.f4.length c0_4,.slice A0_5 x.f5.length c0_5,.slice A0_6 x.f6.length c0_6] 26,row ki 3 (.slice A56 t53.length c57) t53]→qK.j112 kq113 x z t32 t53 x63 x64 y110 y111=some r→K104 a w':=by
   intro kq113 hkq G y110 y111 a u116 E A S H
   obtain _ | k114:=kq113
   exact zz H
   rw [qK.j112_s]at H
   obtain ⟨J,E⟩:=E.at A
   refine hK104 _ _ (E.ib 90 H (fun c117 E H=>?_) fun c117 E H=>?_)
   refine rr E fun a E=>(wp_ret (qCJ (qCK (qCJ (qCJ (qCK (qCJ ?_)))))))
   replace S:=S.pm [] 5
   obtain rfl:=si H
   exact rt1 E ⟨_,rfl,_,rfl,S⟩
   refine wp_skip (hK103 _ _ (sq fun K119 hK119=>?_))
   have J130:∀ kq128,kq128≤k114→∀(G:NV)(y126:Bool)(a:Act)(w':World),Env 114 G a→At G [(3,.pointer (pb b2)),(5,.pointer (pb b6)),(7,.pointer (pb b44)),(9,.slice A56 t53.length c57),(10,iv x63),(11,iv x64),(99,.bool y126)]→Sm W F w' F98 [box b44 #[iv t32.1.f0,iv t32.1.f1,iv t32.1.f2,iv t32.1.f3,.slice A35 t32.1.f4.length c36,.slice A38 t32.1.f5.length c39,.slice A41 t32.1.f6.length c42] 26,box b6 #[.slice A2_0 z.f0.length c2_0,iv z.f1] 32,box b4 #[iv y.f0,iv y.f1,iv y.f2,iv y.f3,iv y.f4,iv y.f5,.slice A1_6 y.f6.length c1_6] 29,box b2 #[iv x.f0,iv x.f1,iv x.f2,iv x.f3,.slice A0_4 x.f4.length c0_4,.slice A0_5 x.f5.length c0_5,.slice A0_6 x.f6.length c0_6] 26,row ki 3 (.slice A56 t53.length c57) t53]→qK.j127 kq128 x z t32 t53 x63 x64 y126=some r→K119 a w':=by
    intro kq128 hkq G y126 a u131 E A S H
    obtain _ | k129:=kq128
    exact zz H
    rw [qK.j127_s]at H
    obtain ⟨J,E⟩:=E.at A
    refine hK119 _ _ (E.ib 99 H (fun c132 E H=>?_) fun c132 E H=>?_)
    refine pl0 (plc E (.r 0 3 .nil) (fun a E=>pld ?_))
    refine qCL ?_
    refine hK73 _ _ (pl0 (plc E (.r 0 3 .nil) (fun a E=>pld ?_)))
    exact qCM ⟨k129,by omega,_,(w64 (x63+1)),(w64 (x64+1)),F98,by omega,E,.of,S,g37,g40,g43,g2_0,g1_6,g0_4,g0_5,g0_6,H⟩
    refine wp_skip ?_
    refine qCL ?_
    refine hK73 _ _ (pl0 (plc E (.r 0 3 .nil) (fun a E=>pld ?_)))
    exact qCM ⟨k129,by omega,_,x63,(w64 (x64+1)),F98,by omega,E,.of,S,g37,g40,g43,g2_0,g1_6,g0_4,g0_5,g0_6,H⟩
   refine pl0 (plc E (.r 0 2 .nil) (fun a E=>E.fb 92 H (fun c120 E H=>?_) fun c120 E H=>?_))
   refine plc E (.r 2 7 .nil) (fun a E=>pld ?_)
   exact J130 _ (by omega) _ true _ _ E .of S H
   have hb6:=S.ba 1
   obtain ⟨c121,H⟩:=gd H
   have hE_:=E
   obtain ⟨ad122,rfl⟩:=g2_0.addr c121.1 c121.2
   replace E:=hE_
   obtain ⟨cs124,rfl,hc125⟩:=g2_0.el false x64 c121.1 c121.2
   refine plc E (.r 2 1<|.b 3 0 hb6<|.r 4 1<|.x 5 c121<|.c 6 (S.fc hc125 0)<|.r 7 2<|.nil) (fun a E=>pld ?_)
   exact J130 _ (by omega) _ (!(nth false z.f0 x64)) _ _ E .of S H
  refine pl0 (plc E (.r 0 2 .nil) (fun a E=>E.fb 12 H (fun c105 E H=>?_) fun c105 E H=>?_))
  replace E:=E.bt 77 c105
  refine plc E (.r 2 3<|.b 5 2 (S.ba 4)<|.r 6 2<|.nil) (fun a E=>E.fk 83 H (fun c106 E H=>?_) fun c106 E H=>?_)
  refine plc E (.r 8 7 .nil) (fun a E=>pld ?_)
  replace S:=S.tail
  exact J115 _ (by omega) _ true true _ _ E .of S H
  refine plc E (.r 8 1<|.b 9 4 (S.ba 1)<|.r 10 1<|.nil) (fun a E=>?_)
  obtain ⟨t108,h109,H⟩:=bd H
  refine plq E S en17 (qn.calls k81 t32.1.f4 t96 _ _ _ _ _ _ _ (Sub.refl _) (g37.mono S.own.sub) (S.rd_at (i:=0) rfl) h109) fun u107 S a E=>plc E (.r 12 3 .nil) (fun a E=>pld ?_)
  replace S:=S.tail
  exact J115 _ (by omega) _ true (!t108) _ _ E .of S H
  replace E:=E.bf 77 c105
  refine plc E (.r 2 13 .nil) (fun a E=>pld ?_)
  replace S:=S.tail
  exact J115 _ (by omega) _ false false _ _ E .of S H
  refine wp_exit ?_
  refine hK61 _ _ (sq fun K133 hK133=>pl0 (plc E (.r 0 4 .nil) (fun a E=>E.fk 105 H (fun c134 E H=>?_) fun c134 E H=>?_)))
  refine plc E (.r 4 6 .nil) (fun a E=>?_)
  obtain ⟨t136,h137,H⟩:=bd H
  refine plq E S en11 (qAs.calls k68 _ _ _ S.own.sub h137) fun u135 S a E=>plc E (.r 11 2 .nil) (fun a E=>pld (hK133 _ _ (wp_ret ?_)))
  replace S:=S.pm [] 5
  obtain rfl:=si H
  exact rt1 E ⟨_,rfl,_,rfl,S⟩
  refine plc E (.r 4 2<|.b 6 1 (S.ba 1)<|.r 7 3<|.nil) (fun a E=>E.fk 111 H (fun c138 E H=>?_) fun c138 E H=>?_)
  obtain ⟨t140,h141,H⟩:=bd H
  refine plq E S en11 (qAs.calls k68 _ _ _ S.own.sub h141) fun u139 S a E=>plc E (.r 11 2 .nil) (fun a E=>pld (hK133 _ _ (wp_ret ?_)))
  replace S:=S.pm [] 5
  obtain rfl:=si H
  exact rt1 E ⟨_,rfl,_,rfl,S⟩
  refine plc E (.r 10 3 .nil) (fun a E=>pld (hK133 _ _ (wp_ret ?_)))
  replace S:=S.pm [] 5
  obtain rfl:=si H
  exact rt1 E ⟨_,rfl,_,rfl,S⟩
  refine rr E fun a E=>(wp_ret (qCJ ?_))
  replace S:=S.pm [] 4
  obtain rfl:=si H
  exact rt1 E ⟨_,rfl,_,rfl,S⟩
 refine pl0 ?_
 have hb2:=S.ba 2
 refine plc E (.bn 0 0 7 hb2 .nil) (fun a E=>?_)
 obtain ⟨t11,h12,H⟩:=bd H
 refine plq E S en10 (qW.calls k x _ _ _ _ _ _ _ _ _ S.own.sub g0_4 g0_5 g0_6 h12) fun u10 S a E=>plc E (.r 2 2 .nil) (fun a E=>E.fbn 18 H (fun c13 E H=>?_) fun c13 E H=>?_)
 have hb4:=S.ba 1
 refine plc E (.r 4 1<|.b 5 6 hb4<|.r 6 4<|.nil) (fun a E=>E.fk 24 H (fun c14 E H=>?_) fun c14 E H=>?_)
 refine plc E (.r 10 15 .nil) (fun a E=>pld ?_)
 exact J23 _ (by omega) _ true _ _ E .of S H
 have hb6:=S.ba 0
 refine plc E (.r 10 1<|.b 11 0 hb6<|.r 12 4<|.nil) (fun a E=>E.fk 30 H (fun c15 E H=>?_) fun c15 E H=>?_)
 refine plc E (.r 16 9 .nil) (fun a E=>pld ?_)
 exact J23 _ (by omega) _ true _ _ E .of S H
 refine plc E (.bn 16 0 7 (S.ba 2)<|.bn 17 0 7 hb4<|.r 18 1<|.b 19 0 hb6<|.r 20 1<|.b 21 1 hb6<|.nil) (fun a E=>?_)
 obtain ⟨t17,h18,H⟩:=bd H
 refine plq E S en12 (qAg.calls k x y z.f0 z.f1 _ _ _ _ _ _ _ _ _ _ _ _ _ S.own.sub g0_4 g0_5 g0_6 g1_6 g2_0 h18) fun u16 S a E=>plc E (.r 23 2 .nil) (fun a E=>pld ?_)
 exact J23 _ (by omega) _ (!(t17 == 0)) _ _ E .of S H
 refine plc E (.r 4 21 .nil) (fun a E=>pld ?_)
 exact J23 _ (by omega) _ true _ _ E .of S H
end Go.Proofs.YthgfhlbjkmjlpaaGreat.GK
