import Derived.Test.YtpohepinmjmbkaaGreatMM5
namespace Go.Proofs.YtpohepinmjmbkaaGreat.MM
open Go Go.RowKit Go.Proofs.YtpohepinmjmbkaaGreat.Sl
set_option linter.unusedVariables false
set_option linter.unusedSimpArgs false
set_option maxHeartbeats 4000000
set_option maxRecDepth 100000
mutual
def qAS.l20:Nat→qF→qF→List qC→List qC→Int→Option (List qC)
 | 0,_,_,_,_,_=>none
 | k+1,x,y,t8,l17,x18=>if x18<(t8.length:Int) then (if 0≤x18∧x18<(t8.length:Int) then ((qBN.f k x x18).bind fun t44=>((qBS.f k x t44).bind fun t52=>((qBN.f k y x18).bind fun t62=>((qBS.f k y t62).bind fun t70=>((qn.f k t52 t70).bind fun t78=>(if t78=true then (qAS.l20 k x y t8 l17 (w64 (x18+1))) else (if (t52.length:Int)≥x.f2 then ((qr.f t52).bind fun t91=>((qAa.f k ((nth qC.z l17 x18).f1)).bind fun t110=>((qP.f k t110 (⟨(nth qC.z l17 x18).f0,t91⟩:qE)).bind fun t122=>(if ((t122.length:Int)+((1:Nat):Int)) * 32≤140737488355328 then (qAS.j144 k x y t8 l17 x18 (t122++[(⟨(nth qC.z l17 x18).f0,t91⟩:qE)])) else (none))))) else (qAS.j144 k x y t8 l17 x18 ((nth qC.z l17 x18).f1))))))))) else (none)) else (some l17)
def qAS.j144:Nat→qF→qF→List qC→List qC→Int→List qE→Option (List qC)
 | 0,_,_,_,_,_,_=>none
 | k+1,x,y,t8,l17,x18,l141=>qAS.l20 k x y t8 (l17.set (x18).toNat (⟨(w64 (x.f0+1)),l141⟩:qC)) (w64 (x18+1))
end
theorem qAS.l20_s k x y t8 l17 x18:type_of% (qAS.l20.eq_2 x y t8 l17 x18 k):=qAS.l20.eq_2 x y t8 l17 x18 k
theorem qAS.j144_s k x y t8 l17 x18 l141:type_of% (qAS.j144.eq_2 x y t8 l17 x18 l141 k):=qAS.j144.eq_2 x y t8 l17 x18 l141 k
def qAS.f(k:Nat)(x:qF)(y:qF):Option (List qC):=(qz.f y.f6).bind fun t8=>(qAS.l20 k x y t8 t8 0)
def qAS.Post(W F:World)(r:List qC)(v:Value)(w':World):Prop:=∃(F':World)(RA0_0:OA)(rc0_0:Nat),v = .slice RA0_0 r.length rc0_0∧Sm W F w' F' [row qC.k 49 (.slice RA0_0 r.length rc0_0) r]
theorem qAS.calls(k:Nat)(x:qF)(y:qF)(A0_4:OA)(c0_4:Nat)(A0_5:OA)(c0_5:Nat)(A0_6:OA)(c0_6:Nat)(A1_4:OA)(c1_4:Nat)(A1_5:OA)(c1_5:Nat)(A1_6:OA)(c1_6:Nat)(r:List qC)(W F:World)(hown:Sub F W)(g0_4:Rd qA.k F A0_4 c0_4 x.f4)(g0_5:Rd qD.k F A0_5 c0_5 x.f5)(g0_6:Rd qC.k F A0_6 c0_6 x.f6)(g1_4:Rd qA.k F A1_4 c1_4 y.f4)(g1_5:Rd qD.k F A1_5 c1_5 y.f5)(g1_6:Rd qC.k F A1_6 c1_6 y.f6)(H:qAS.f k x y=some r):
    Cr 79 #[.agg #[iv x.f0,iv x.f1,iv x.f2,iv x.f3,.slice A0_4 x.f4.length c0_4,.slice A0_5 x.f5.length c0_5,.slice A0_6 x.f6.length c0_6],.agg #[iv y.f0,iv y.f1,iv y.f2,iv y.f3,.slice A1_4 y.f4.length c1_4,.slice A1_5 y.f5.length c1_5,.slice A1_6 y.f6.length c1_6]] W (qAS.Post W F r):=by
 have S:=St.start (Own.nil hown)
 unfold qAS.f at H
 refine ent 65 rfl rfl rfl (fun a E=>?_)
 refine sq fun K1 hK1=>pl0 (ple E (.bx (t:=26) S [iv x.f0,iv x.f1,iv x.f2,iv x.f3,.slice A0_4 x.f4.length c0_4,.slice A0_5 x.f5.length c0_5,.slice A0_6 x.f6.length c0_6]) ?_)
 rintro _ u3 a ⟨b2,rfl,hb2,S,hg⟩ E
 refine ple E (.bx (t:=26) S [iv y.f0,iv y.f1,iv y.f2,iv y.f3,.slice A1_4 y.f4.length c1_4,.slice A1_5 y.f5.length c1_5,.slice A1_6 y.f6.length c1_6]) ?_
 rintro _ u5 a ⟨b4,rfl,hb4,S,hg⟩ E
 refine plc E (.r 2 1 .nil) (fun a E=>pld (hK1 _ _ (sq fun K6 hK6=>pl0 (plc E (.r 0 1<|.b 1 6 hb4<|.nil) (fun a E=>?_)))))
 obtain ⟨t8,h9,H⟩:=bd H
 refine ple E (.cl en130 (qz.calls y.f6 _ _ _ _ _ S.own.sub g1_6 h9)) ?_
 rintro _ u7 a ⟨F10,A11,c12,rfl,hC⟩ E
 have hs:=hC.sub
 replace S:=S.called (X:=[]) hC
 replace g0_4:=g0_4.mono hs
 replace g0_5:=g0_5.mono hs
 replace g0_6:=g0_6.mono hs
 replace g1_4:=g1_4.mono hs
 replace g1_5:=g1_5.mono hs
 replace g1_6:=g1_6.mono hs
 refine plc E (.r 3 1 .nil) (fun a E=>pld (hK6 _ _ (sq fun K15 hK15=>rr E fun a E=>(wp_block ?_))))
 replace S:=S.pm [1,2,0] 3
 refine wp_loop_ghost (fun kq21 a w'=>∃(G:NV)(l17:List qC)(x18:Int)(F19:World),kq21≤k∧Env 65 G a∧At G [(2,.pointer (pb b2)),(3,.pointer (pb b4)),(5,.slice A11 t8.length c12),(13,.slice A11 t8.length c12),(14,iv (t8.length:Int)),(15,iv x18)]∧Sm W F w' F19 [box b4 #[iv y.f0,iv y.f1,iv y.f2,iv y.f3,.slice A1_4 y.f4.length c1_4,.slice A1_5 y.f5.length c1_5,.slice A1_6 y.f6.length c1_6] 26,box b2 #[iv x.f0,iv x.f1,iv x.f2,iv x.f3,.slice A0_4 x.f4.length c0_4,.slice A0_5 x.f5.length c0_5,.slice A0_6 x.f6.length c0_6] 26,row qC.k 49 (.slice A11 t8.length c12) l17]∧Rd qA.k F19 A1_4 c1_4 y.f4∧Rd qD.k F19 A1_5 c1_5 y.f5∧Rd qC.k F19 A1_6 c1_6 y.f6∧Rd qA.k F19 A0_4 c0_4 x.f4∧Rd qD.k F19 A0_5 c0_5 x.f5∧Rd qC.k F19 A0_6 c0_6 x.f6∧qAS.l20 kq21 x y t8 l17 x18=some r) k ⟨_,t8,0,F10,Nat.le_refl _,E,.of,S,g1_4,g1_5,g1_6,g0_4,g0_5,g0_6,H⟩ ?_
 rintro kq21 a u23 ⟨G,l17,x18,F19,hkq,E,A,S,g1_4,g1_5,g1_6,g0_4,g0_5,g0_6,H⟩
 obtain _ | k22:=kq21
 ·
  exact zz H
 rw [qAS.l20_s]at H
 obtain ⟨J,E⟩:=E.at A
 refine rr E fun a E=>(sq fun K25 hK25=>?_)
 refine E.ik 16 H (fun c26 E H=>?_) fun c26 E H=>?_
 ·
  refine wp_skip (hK25 _ _ (sq fun K27 hK27=>wp_block (sq fun K28 hK28=>pl0 ?_)))
  obtain ⟨c29,H⟩:=gd H
  have hr30:=S.ra 2
  have c31:0≤x18∧x18<(l17.length:Int):=by rw [← (qBe hr30).1]; exact c29
  have hE_:=E
  obtain ⟨b32,rfl⟩:=qBo hr30 c31.1 c31.2
  replace E:=hE_
  have hr_:=S.ra 2
  obtain ⟨cs34,⟨A36,c37,rfl,g38⟩,hc35⟩:=qBh hr_ qC.z x18 c31.1 c31.2
  refine plc E (.r 0 1<|.x 1 c29<|.cs 2 hc35<|.nil) (fun a E=>ple E (.al (t:=49) S [iv 0,.slice none 0 0]) ?_)
  rintro _ u40 a ⟨b39,rfl,hb39,S,hg⟩ E
  refine plc E (.r 4 1 .nil) (fun a E=>ple E (.sto S [iv ((nth qC.z l17 x18).f0),.slice A36 (((nth qC.z l17 x18).f1).length) c37]) ?_)
  rintro _ u41 a ⟨rfl,hb39,S,hz⟩ E
  refine pld (hK28 _ _ (sq fun K42 hK42=>?_))
  refine drawn 6 ⟨[4],[],fun q=>False⟩ mixed rfl (by kernel_rfl) (fun hst=>?_)
  replace S:=S.drew
  have hb2:=S.ba 2
  refine mny 3 hst E (.bn 0 0 7 hb2<|.bn 1 0 7 hb2<|.r 2 1<|.nil) (fun a E=>?_)
  obtain ⟨t44,h45,H⟩:=bd H
  refine on1 3 E (.cl en71 (qBN.calls k22 x x18 _ _ _ _ _ _ _ _ _ S.own.sub g0_4 g0_5 g0_6 h45)) ?_
  rintro _ u43 a ⟨F46,A47,c48,rfl,hC⟩ E
  refine ⟨.of hC.agr,?_⟩
  have hs:=hC.sub
  replace S:=S.called (X:=[]) hC
  replace g38:=g38.mono hs
  replace g0_4:=g0_4.mono hs
  replace g0_5:=g0_5.mono hs
  replace g0_6:=g0_6.mono hs
  replace g1_4:=g1_4.mono hs
  replace g1_5:=g1_5.mono hs
  replace g1_6:=g1_6.mono hs
  obtain ⟨t52,h53,H⟩:=bd H
  refine on1 4 E (.cl en74 (qBS.calls k22 x t44 _ _ _ _ _ _ _ _ _ _ _ (Own.left (X:=[row ki 3 (.slice A47 t44.length c48) t44]) S.own) g0_4 g0_5 g0_6 h53)) ?_
  rintro _ u51 a ⟨F54,A55,c56,rfl,hC⟩ E
  refine ⟨.d,?_⟩
  have hs:=hC.sub
  replace S:=S.called (X:=[row ki 3 (.slice A47 t44.length c48) t44]) hC
  replace g38:=g38.mono hs
  replace g0_4:=g0_4.mono hs
  replace g0_5:=g0_5.mono hs
  replace g0_6:=g0_6.mono hs
  replace g1_4:=g1_4.mono hs
  replace g1_5:=g1_5.mono hs
  replace g1_6:=g1_6.mono hs
  refine mny 0 hst E (.r 5 1 .nil) (fun a E=>?_)
  refine dn ?_
  refine hK42 _ _ (sq fun K59 hK59=>sq fun K60 hK60=>?_)
  refine drawn 7 ⟨[5],[],fun q=>False⟩ mixed rfl (by kernel_rfl) (fun hst=>?_)
  replace S:=S.drew
  have hb4:=S.ba 2
  refine mny 3 hst E (.r 0 1<|.bn 1 0 7 hb4<|.bn 2 0 7 hb4<|.r 3 1<|.nil) (fun a E=>?_)
  obtain ⟨t62,h63,H⟩:=bd H
  refine on1 4 E (.cl en71 (qBN.calls k22 y x18 _ _ _ _ _ _ _ _ _ S.own.sub g1_4 g1_5 g1_6 h63)) ?_
  rintro _ u61 a ⟨F64,A65,c66,rfl,hC⟩ E
  refine ⟨.of hC.agr,?_⟩
  have hs:=hC.sub
  replace S:=S.called (X:=[]) hC
  replace g38:=g38.mono hs
  replace g0_4:=g0_4.mono hs
  replace g0_5:=g0_5.mono hs
  replace g0_6:=g0_6.mono hs
  replace g1_4:=g1_4.mono hs
  replace g1_5:=g1_5.mono hs
  replace g1_6:=g1_6.mono hs
  obtain ⟨t70,h71,H⟩:=bd H
  refine on1 5 E (.cl en74 (qBS.calls k22 y t62 _ _ _ _ _ _ _ _ _ _ _ (Own.left (X:=[row ki 3 (.slice A65 t62.length c66) t62]) S.own) g1_4 g1_5 g1_6 h71)) ?_
  rintro _ u69 a ⟨F72,A73,c74,rfl,hC⟩ E
  refine ⟨.d,?_⟩
  have hs:=hC.sub
  replace S:=S.called (X:=[row ki 3 (.slice A65 t62.length c66) t62]) hC
  replace g38:=g38.mono hs
  replace g0_4:=g0_4.mono hs
  replace g0_5:=g0_5.mono hs
  replace g0_6:=g0_6.mono hs
  replace g1_4:=g1_4.mono hs
  replace g1_5:=g1_5.mono hs
  replace g1_6:=g1_6.mono hs
  obtain ⟨t78,h79,H⟩:=bd H
  refine on1 6 E (.cl en90 (qn.calls k22 t52 t70 _ _ _ _ _ _ _ (Sub.refl _) (S.rd_at (i:=1) rfl) (S.rd_at (i:=0) rfl) h79)) ?_
  rintro _ u77 a ⟨_,rfl,hC⟩ E
  refine ⟨.of hC.agr,?_⟩
  replace S:=S.lent hC
  refine dn ?_
  refine hK60 _ _ ?_
  refine E.ib 31 H (fun c80 E H=>?_) fun c80 E H=>?_
  ·
   refine wp_exit ?_
   refine hK27 _ _ (pl0 (plc E (.r 0 2 .nil) (fun a E=>pld ?_)))
   replace S:=S.pm [] 3
   exact qBf ⟨k22,by omega,_,l17,(w64 (x18+1)),F72,by omega,E,.of,S,g1_4,g1_5,g1_6,g0_4,g0_5,g0_6,H⟩
  refine wp_skip (hK59 _ _ (sq fun K81 hK81=>?_))
  have J147:∀ kq145,kq145≤k22→∀(G:NV)(A139:OA)(c140:Nat)(l141:List qE)(F143:World)(a:Act)(w':World),Env 65 G a→At G [(2,.pointer (pb b2)),(3,.pointer (pb b4)),(5,.slice (pb b32) t8.length c12),(6,iv x18),(7,.pointer (pb b39)),(13,.slice (pb b32) t8.length c12),(14,iv (t8.length:Int)),(15,iv x18)]→Sm W F w' F143 [box b39 #[iv ((nth qC.z l17 x18).f0),.slice A139 l141.length c140] 49,box b4 #[iv y.f0,iv y.f1,iv y.f2,iv y.f3,.slice A1_4 y.f4.length c1_4,.slice A1_5 y.f5.length c1_5,.slice A1_6 y.f6.length c1_6] 26,box b2 #[iv x.f0,iv x.f1,iv x.f2,iv x.f3,.slice A0_4 x.f4.length c0_4,.slice A0_5 x.f5.length c0_5,.slice A0_6 x.f6.length c0_6] 26,row qC.k 49 (.slice (pb b32) t8.length c12) l17]→Rd qE.k F143 A139 c140 l141→Rd qA.k F143 A1_4 c1_4 y.f4→Rd qD.k F143 A1_5 c1_5 y.f5→Rd qC.k F143 A1_6 c1_6 y.f6→Rd qA.k F143 A0_4 c0_4 x.f4→Rd qD.k F143 A0_5 c0_5 x.f5→Rd qC.k F143 A0_6 c0_6 x.f6→qAS.j144 kq145 x y t8 l17 x18 l141=some r→K81 a w':=by
   intro kq145 hkq G A139 c140 l141 F143 a u148 E A S g142 g1_4 g1_5 g1_6 g0_4 g0_5 g0_6 H
   obtain _ | k146:=kq145
   ·
    exact zz H
   rw [qAS.j144_s]at H
   obtain ⟨J,E⟩:=E.at A
   refine hK81 _ _ (sq fun K149 hK149=>pl0 ?_)
   have hb2:=S.ba 2
   refine plc E (.r 0 1<|.b 1 0 hb2<|.r 2 2<|.nil) (fun a E=>ple E (.sto S [iv (w64 (x.f0+1)),.slice A139 l141.length c140]) ?_)
   rintro _ u150 a ⟨rfl,hb39,S,hz⟩ E
   refine pld (hK149 _ _ (pl0 ?_))
   have hr151:=S.ra 3
   have c152:0≤x18∧x18<(l17.length:Int):=by rw [← (qBe hr151).1]; exact c29
   have hr_:=S.ra 3
   obtain ⟨cs154,⟨A156,c157,rfl,g158⟩,hc155⟩:=qBh hr_ qC.z x18 c152.1 c152.2
   refine plc E (.r 0 2<|.bn 2 0 2 hb39<|.x 3 c29<|.nil) (fun a E=>?_)
   replace S:=S.front 3 rfl
   obtain ⟨cs163,⟨A160,c161,rfl,g162⟩,hc164⟩:=qBh (S.row_at (i:=0) rfl) qC.z x18 c152.1 c152.2
   refine ple E (.set (d:=qC.k) (n:=t8.length) (i:=x18) (⟨(w64 (x.f0+1)),l141⟩:qC) (0) (ea0 _ _) S c152 [iv ((nth qC.z l17 x18).f0),.slice A160 (((nth qC.z l17 x18).f1).length) c161] hc164 [iv (w64 (x.f0+1)),.slice A139 l141.length c140] ⟨_,_,rfl,g142⟩) ?_
   rintro _ u159 a ⟨rfl,S,hz⟩ E
   refine pld ?_
   refine qBd ?_
   refine hK27 _ _ (pl0 (plc E (.r 0 2 .nil) (fun a E=>pld ?_)))
   replace S:=S.pm [2,3,0] 4
   exact qBf ⟨k146,by omega,_,(l17.set (x18).toNat (⟨(w64 (x.f0+1)),l141⟩:qC)),(w64 (x18+1)),F143,by omega,E,.of,S,g1_4,g1_5,g1_6,g0_4,g0_5,g0_6,H⟩
  refine sq fun K82 hK82=>pl0 ?_
  have hb2:=S.ba 4
  refine plc E (.r 0 3<|.b 3 2 hb2<|.r 4 1<|.nil) (fun a E=>pld (hK82 _ _ ?_))
  refine E.ik 36 H (fun c83 E H=>?_) fun c83 E H=>?_
  ·
   refine sq fun K84 hK84=>?_
   refine drawn 8 ⟨[7],[],fun q=>False⟩ mixed rfl (by kernel_rfl) (fun hst=>?_)
   replace S:=S.drew
   have hb39:=S.ba 2
   refine mny 5 hst E (.r 0 1<|.b 1 0 hb39<|.r 2 1<|.nil) (fun a E=>?_)
   obtain ⟨t91,h92,H⟩:=bd H
   refine meet2 (fun a w'=>∃(G:NV)(b89:Nat)(A97:OA)(c98:Nat)(F105:World),Env 65 G a∧At G [(2,.pointer (pb b2)),(3,.pointer (pb b4)),(5,.slice (pb b32) t8.length c12),(6,iv x18),(7,.pointer (pb b39)),(9,.pointer (pb b89)),(13,.slice (pb b32) t8.length c12),(14,iv (t8.length:Int)),(15,iv x18),(42,.agg #[iv ((nth qC.z l17 x18).f0),.slice A97 t91.length c98])]∧Sm W F w' F105 [box b89 #[iv 0,.slice none 0 0] 51,box b39 #[iv ((nth qC.z l17 x18).f0),.slice A36 (((nth qC.z l17 x18).f1).length) c37] 49,box b4 #[iv y.f0,iv y.f1,iv y.f2,iv y.f3,.slice A1_4 y.f4.length c1_4,.slice A1_5 y.f5.length c1_5,.slice A1_6 y.f6.length c1_6] 26,box b2 #[iv x.f0,iv x.f1,iv x.f2,iv x.f3,.slice A0_4 x.f4.length c0_4,.slice A0_5 x.f5.length c0_5,.slice A0_6 x.f6.length c0_6] 26,row ki 3 (.slice A97 t91.length c98) t91,row qC.k 49 (.slice (pb b32) t8.length c12) l17]∧Rd qE.k F105 A36 c37 ((nth qC.z l17 x18).f1)∧Rd qA.k F105 A1_4 c1_4 y.f4∧Rd qD.k F105 A1_5 c1_5 y.f5∧Rd qC.k F105 A1_6 c1_6 y.f6∧Rd qA.k F105 A0_4 c0_4 x.f4∧Rd qD.k F105 A0_5 c0_5 x.f5∧Rd qC.k F105 A0_6 c0_6 x.f6) 1 127 ?_ (fun hJb=>?_)
   ·
    rintro a u106 ⟨G,b89,A97,c98,F105,E,A,S,g38,g1_4,g1_5,g1_6,g0_4,g0_5,g0_6⟩
    obtain ⟨J,E⟩:=E.at A
    refine on1 7 E (.sto S [iv ((nth qC.z l17 x18).f0),.slice A97 t91.length c98]) ?_
    rintro _ u107 a ⟨rfl,hb89,S,hz⟩ E
    refine ⟨.d,?_⟩
    refine dn ?_
    refine hK84 _ _ (sq fun K108 hK108=>pl0 ?_)
    have hb39:=S.ba 1
    refine plc E (.r 0 1<|.b 1 1 hb39<|.nil) (fun a E=>?_)
    obtain ⟨t110,h111,H⟩:=bd H
    refine ple E (.cl en131 (qAa.calls k22 ((nth qC.z l17 x18).f1) _ _ _ _ _ S.own.sub g38 h111)) ?_
    rintro _ u109 a ⟨F112,A113,c114,rfl,hC⟩ E
    have hs:=hC.sub
    replace S:=S.called (X:=[]) hC
    replace g38:=g38.mono hs
    replace g1_4:=g1_4.mono hs
    replace g1_5:=g1_5.mono hs
    replace g1_6:=g1_6.mono hs
    replace g0_4:=g0_4.mono hs
    replace g0_5:=g0_5.mono hs
    replace g0_6:=g0_6.mono hs
    refine plc E (.r 3 1 .nil) (fun a E=>?_)
    replace S:=S.front 5 rfl
    obtain ⟨F117,hs,g118,S⟩:=S.give
    replace g38:=g38.mono hs
    replace g1_4:=g1_4.mono hs
    replace g1_5:=g1_5.mono hs
    replace g1_6:=g1_6.mono hs
    replace g0_4:=g0_4.mono hs
    replace g0_5:=g0_5.mono hs
    replace g0_6:=g0_6.mono hs
    replace S:=S.front 1 rfl
    obtain ⟨F119,hs,g120,S⟩:=S.giveb
    replace g118:=g118.mono hs
    replace g38:=g38.mono hs
    replace g1_4:=g1_4.mono hs
    replace g1_5:=g1_5.mono hs
    replace g1_6:=g1_6.mono hs
    replace g0_4:=g0_4.mono hs
    replace g0_5:=g0_5.mono hs
    replace g0_6:=g0_6.mono hs
    obtain ⟨t122,h123,H⟩:=bd H
    refine ple E (.cl en139 (qP.calls k22 t110 (⟨(nth qC.z l17 x18).f0,t91⟩:qE) _ _ _ _ _ _ _ _ (Own.left (X:=[row qE.k 51 (.slice A113 t110.length c114) t110]) S.own) g118 g120 h123)) ?_
    rintro _ u121 a ⟨F124,A125,c126,rfl,hC⟩ E
    have hs:=hC.sub
    replace S:=S.called (X:=[row qE.k 51 (.slice A113 t110.length c114) t110]) hC
    replace g118:=g118.mono hs
    replace g38:=g38.mono hs
    replace g1_4:=g1_4.mono hs
    replace g1_5:=g1_5.mono hs
    replace g1_6:=g1_6.mono hs
    replace g0_4:=g0_4.mono hs
    replace g0_5:=g0_5.mono hs
    replace g0_6:=g0_6.mono hs
    replace g120:=hs _ _ _ _ g120
    refine plc E (.r 5 1 .nil) (fun a E=>?_)
    replace S:=S.front 1 rfl
    refine ple E (.sto S [iv ((nth qC.z l17 x18).f0),.slice A125 t122.length c126]) ?_
    rintro _ u129 a ⟨rfl,hb39,S,hz⟩ E
    refine pld (hK108 _ _ (pl0 (plc E (.r 0 1<|.b 1 1 hb39<|.bn 2 0 2 (S.own.sub _ _ _ _ g120)<|.nil) (fun a E=>ple E (.lit (d:=qE.k) (e:=51) S [(⟨(nth qC.z l17 x18).f0,t91⟩:qE)] (.cons ⟨_,_,rfl,g118⟩ .nil)) ?_))))
    rintro _ u130 a ⟨A131,c132,rfl,S,hg⟩ E
    obtain ⟨c134,H⟩:=gd H
    replace S:=S.front 2 rfl
    refine ple E (.ap (d:=qE.k) 32 S (qCG (S.row_at (i:=1) rfl)) c134 c132) ?_
    rintro _ u137 a ⟨A135,c136,rfl,S,hz⟩ E
    refine plc E (.r 5 1 .nil) (fun a E=>?_)
    replace S:=S.front 2 rfl
    refine ple E (.sto S [iv ((nth qC.z l17 x18).f0),.slice A135 ((t122++[(⟨(nth qC.z l17 x18).f0,t91⟩:qE)]).length) c136]) ?_
    rintro _ u138 a ⟨rfl,hb39,S,hz⟩ E
    refine pld ?_
    replace S:=S.front 1 rfl
    obtain ⟨F165,hs,g166,S⟩:=S.give
    replace g118:=g118.mono hs
    replace g38:=g38.mono hs
    replace g1_4:=g1_4.mono hs
    replace g1_5:=g1_5.mono hs
    replace g1_6:=g1_6.mono hs
    replace g0_4:=g0_4.mono hs
    replace g0_5:=g0_5.mono hs
    replace g0_6:=g0_6.mono hs
    replace g120:=hs _ _ _ _ g120
    replace S:=S.pm [0] 2
    exact J147 _ (by omega) _ A135 c136 (t122++[(⟨(nth qC.z l17 x18).f0,t91⟩:qE)]) F165 _ _ E .of S g166 g1_4 g1_5 g1_6 g0_4 g0_5 g0_6 H
   refine meet2 (fun a w'=>∃(G:NV)(b89:Nat)(b87:Nat)(F102:World),Env 65 G a∧At G [(2,.pointer (pb b2)),(3,.pointer (pb b4)),(5,.slice (pb b32) t8.length c12),(6,iv x18),(7,.pointer (pb b39)),(9,.pointer (pb b89)),(13,.slice (pb b32) t8.length c12),(14,iv (t8.length:Int)),(15,iv x18),(38,iv ((nth qC.z l17 x18).f0)),(40,.func (.func 186) #[] #[.pointer (pb b87)])]∧Sm W F w' F102 [box b89 #[iv 0,.slice none 0 0] 51,box b87 #[.slice A55 t52.length c56] 36,box b39 #[iv ((nth qC.z l17 x18).f0),.slice A36 (((nth qC.z l17 x18).f1).length) c37] 49,box b4 #[iv y.f0,iv y.f1,iv y.f2,iv y.f3,.slice A1_4 y.f4.length c1_4,.slice A1_5 y.f5.length c1_5,.slice A1_6 y.f6.length c1_6] 26,box b2 #[iv x.f0,iv x.f1,iv x.f2,iv x.f3,.slice A0_4 x.f4.length c0_4,.slice A0_5 x.f5.length c0_5,.slice A0_6 x.f6.length c0_6] 26,row qC.k 49 (.slice (pb b32) t8.length c12) l17]∧Rd ki F102 A55 c56 t52∧Rd qE.k F102 A36 c37 ((nth qC.z l17 x18).f1)∧Rd qA.k F102 A1_4 c1_4 y.f4∧Rd qD.k F102 A1_5 c1_5 y.f5∧Rd qC.k F102 A1_6 c1_6 y.f6∧Rd qA.k F102 A0_4 c0_4 x.f4∧Rd qD.k F102 A0_5 c0_5 x.f5∧Rd qC.k F102 A0_6 c0_6 x.f6) 3 79 ?_ (fun hJ=>?_)
   ·
    rintro a u103 ⟨G,b89,b87,F102,E,A,S,g86,g38,g1_4,g1_5,g1_6,g0_4,g0_5,g0_6⟩
    obtain ⟨J,E⟩:=E.at A
    replace S:=S.front 1 rfl
    obtain ⟨F93,hs,g94,S⟩:=S.giveb
    replace g86:=g86.mono hs
    replace g38:=g38.mono hs
    replace g1_4:=g1_4.mono hs
    replace g1_5:=g1_5.mono hs
    replace g1_6:=g1_6.mono hs
    replace g0_4:=g0_4.mono hs
    replace g0_5:=g0_5.mono hs
    replace g0_6:=g0_6.mono hs
    refine on1 4 E (.cl en137 (qr.calls t52 _ _ _ _ _ _ S.own.sub g86 g94 h92)) ?_
    rintro _ u95 a ⟨F96,A97,c98,rfl,hC⟩ E
    refine ⟨.of hC.agr,?_⟩
    have hs:=hC.sub
    replace S:=S.called (X:=[]) hC
    replace g38:=g38.mono hs
    replace g1_4:=g1_4.mono hs
    replace g1_5:=g1_5.mono hs
    replace g1_6:=g1_6.mono hs
    replace g0_4:=g0_4.mono hs
    replace g0_5:=g0_5.mono hs
    replace g0_6:=g0_6.mono hs
    replace g86:=g86.mono hs
    replace g94:=hs _ _ _ _ g94
    refine mny 1 hst E (.r 5 1 .nil) (fun a E=>?_)
    replace S:=S.pm [1,2,3,4,0] 5
    exact hJb _ _ ⟨_,b89,A97,c98,F96,E,.of,S,g38,g1_4,g1_5,g1_6,g0_4,g0_5,g0_6⟩
   refine pk2 3 6 ?_ ?_
   ·
    replace S:=S.front 1 rfl
    obtain ⟨F85,hs,g86,S⟩:=S.give
    replace g38:=g38.mono hs
    replace g0_4:=g0_4.mono hs
    replace g0_5:=g0_5.mono hs
    replace g0_6:=g0_6.mono hs
    replace g1_4:=g1_4.mono hs
    replace g1_5:=g1_5.mono hs
    replace g1_6:=g1_6.mono hs
    refine pk1 3 E (.cl en138 (qBR.calls t52 A55 c56 _ _ S.own.sub)) ?_
    rintro _ u88 a ⟨b87,rfl,hC⟩ E
    refine ⟨.of hC.agr,?_⟩
    replace S:=S.called (X:=[]) hC
    refine pk2 6 4 ?_ ?_
    ·
     refine pk1 6 E (.al (t:=51) S [iv 0,.slice none 0 0]) ?_
     rintro _ u90 a ⟨b89,rfl,hb89,S,hg⟩ E
     refine ⟨.of hg,?_⟩
     replace S:=S.pm [0,1] 3
     exact hJ _ _ ⟨_,b89,b87,F85,E,.of,S,g86,g38,g1_4,g1_5,g1_6,g0_4,g0_5,g0_6⟩
    obtain ⟨F93,hs,g94,S⟩:=S.giveb
    replace g86:=g86.mono hs
    replace g38:=g38.mono hs
    replace g0_4:=g0_4.mono hs
    replace g0_5:=g0_5.mono hs
    replace g0_6:=g0_6.mono hs
    replace g1_4:=g1_4.mono hs
    replace g1_5:=g1_5.mono hs
    replace g1_6:=g1_6.mono hs
    refine pk1 4 E (.cl en137 (qr.calls t52 _ _ _ _ _ _ S.own.sub g86 g94 h92)) ?_
    rintro _ u95 a ⟨F96,A97,c98,rfl,hC⟩ E
    refine ⟨.of hC.agr,?_⟩
    have hs:=hC.sub
    replace S:=S.called (X:=[]) hC
    replace g86:=g86.mono hs
    replace g38:=g38.mono hs
    replace g0_4:=g0_4.mono hs
    replace g0_5:=g0_5.mono hs
    replace g0_6:=g0_6.mono hs
    replace g1_4:=g1_4.mono hs
    replace g1_5:=g1_5.mono hs
    replace g1_6:=g1_6.mono hs
    replace g94:=hs _ _ _ _ g94
    refine mny 2 hst E (.r 5 1 .nil) (fun a E=>?_)
    refine on1 6 E (.al (t:=51) S [iv 0,.slice none 0 0]) ?_
    rintro _ u90 a ⟨b89,rfl,hb89,S,hg⟩ E
    refine ⟨.of hg,?_⟩
    replace S:=S.pm [0,3,4,5,1] 6
    exact hJb _ _ ⟨_,b89,A97,c98,F96,E,.of,S,g38,g1_4,g1_5,g1_6,g0_4,g0_5,g0_6⟩
   refine pk1 6 E (.al (t:=51) S [iv 0,.slice none 0 0]) ?_
   rintro _ u90 a ⟨b89,rfl,hb89,S,hg⟩ E
   refine ⟨.of hg,?_⟩
   replace S:=S.front 2 rfl
   obtain ⟨F85,hs,g86,S⟩:=S.give
   replace g38:=g38.mono hs
   replace g0_4:=g0_4.mono hs
   replace g0_5:=g0_5.mono hs
   replace g0_6:=g0_6.mono hs
   replace g1_4:=g1_4.mono hs
   replace g1_5:=g1_5.mono hs
   replace g1_6:=g1_6.mono hs
   refine on1 3 E (.cl en138 (qBR.calls t52 A55 c56 _ _ S.own.sub)) ?_
   rintro _ u88 a ⟨b87,rfl,hC⟩ E
   refine ⟨.of hC.agr,?_⟩
   replace S:=S.called (X:=[]) hC
   replace S:=S.pm [1,0] 3
   exact hJ _ _ ⟨_,b89,b87,F85,E,.of,S,g86,g38,g1_4,g1_5,g1_6,g0_4,g0_5,g0_6⟩
  refine wp_skip ?_
  replace S:=S.pm [] 2
  exact J147 _ (by omega) _ A36 c37 ((nth qC.z l17 x18).f1) F72 _ _ E .of S g38 g1_4 g1_5 g1_6 g0_4 g0_5 g0_6 H
 refine wp_exit ?_
 refine hK15 _ _ (rr E fun a E=>(wp_ret ?_))
 have hn168:=(qBe (S.row_at (i:=2) rfl)).1
 replace E:=E.set (d:=4) (v:=.slice A11 l17.length c12) (Eq.trans (b:=.slice A11 t8.length c12) (by kernel_rfl) (by rw [← hn168]))
 replace S:Sm W F u23 F19 [box b4 #[iv y.f0,iv y.f1,iv y.f2,iv y.f3,.slice A1_4 y.f4.length c1_4,.slice A1_5 y.f5.length c1_5,.slice A1_6 y.f6.length c1_6] 26,box b2 #[iv x.f0,iv x.f1,iv x.f2,iv x.f3,.slice A0_4 x.f4.length c0_4,.slice A0_5 x.f5.length c0_5,.slice A0_6 x.f6.length c0_6] 26,row qC.k 49 (.slice A11 l17.length c12) l17]:=by rw [← hn168]; exact S
 replace S:=S.pm [] 2
 obtain rfl:=si H
 exact rt1 E ⟨_,rfl,_,_,_,rfl,S⟩
def qAZ.j21:Nat→qF→qf→Bool→Option (qF × Int)
 | 0,_,_,_=>none
 | k+1,x,y,y20=>if y20=true then ((qAX.f k x).bind fun t29=>(some (t29,1))) else (if x.f0=2147483647 then ((qAX.f k x).bind fun t53=>(some (t53,6))) else ((qAX.f k x).bind fun t77=>((qAz.f k t77 y).bind fun t95=>(if t95.2=0 then ((qAS.f k x t95.1).bind fun t142=>(some ((⟨(w64 (t95.1.f0+1)),t95.1.f1,t95.1.f2,t95.1.f3,t95.1.f4,t95.1.f5,t142⟩:qF),0))) else ((qAX.f k x).bind fun t120=>(some (t120,t95.2)))))))
theorem qAZ.j21_s k x y y20:type_of% (qAZ.j21.eq_2 x y y20 k):=qAZ.j21.eq_2 x y y20 k
def qAZ.f(k:Nat)(x:qF)(y:qf):Option (qF × Int):=(qv.f k x).bind fun t11=>(if t11=0 then (if y.f0<1 then (qAZ.j21 k x y true) else (if y.f0≥11 then (qAZ.j21 k x y true) else ((qBQ.f y).bind fun t18=>(qAZ.j21 k x y (!t18))))) else (some ((⟨0,0,0,0,[],[],[]⟩:qF),1)))
def qAZ.Post(W F:World)(r:qF × Int)(v:Value)(w':World):Prop:=∃(F':World)(RA0_4:OA)(rc0_4:Nat)(RA0_5:OA)(rc0_5:Nat)(RA0_6:OA)(rc0_6:Nat),v = .tuple #[.agg #[iv r.1.f0,iv r.1.f1,iv r.1.f2,iv r.1.f3,.slice RA0_4 r.1.f4.length rc0_4,.slice RA0_5 r.1.f5.length rc0_5,.slice RA0_6 r.1.f6.length rc0_6],iv r.2]∧Sm W F w' F' [row qC.k 49 (.slice RA0_6 r.1.f6.length rc0_6) r.1.f6]∧Rd qA.k F' RA0_4 rc0_4 r.1.f4∧Rd qD.k F' RA0_5 rc0_5 r.1.f5
theorem qAZ.calls(k:Nat)(x:qF)(y:qf)(A0_4:OA)(c0_4:Nat)(A0_5:OA)(c0_5:Nat)(A0_6:OA)(c0_6:Nat)(A1_6:OA)(c1_6:Nat)(r:qF × Int)(W F:World)(hown:Sub F W)(g0_4:Rd qA.k F A0_4 c0_4 x.f4)(g0_5:Rd qD.k F A0_5 c0_5 x.f5)(g0_6:Rd qC.k F A0_6 c0_6 x.f6)(g1_6:Rd ki F A1_6 c1_6 y.f6)(H:qAZ.f k x y=some r):
    Cr 26 #[.agg #[iv x.f0,iv x.f1,iv x.f2,iv x.f3,.slice A0_4 x.f4.length c0_4,.slice A0_5 x.f5.length c0_5,.slice A0_6 x.f6.length c0_6],.agg #[iv y.f0,iv y.f1,iv y.f2,iv y.f3,iv y.f4,iv y.f5,.slice A1_6 y.f6.length c1_6]] W (qAZ.Post W F r):=by
 have S:=St.start (Own.nil hown)
 unfold qAZ.f at H
 refine ent 56 rfl rfl rfl (fun a E=>?_)
 refine sq fun K1 hK1=>pl0 (ple E (.bx (t:=26) S [iv x.f0,iv x.f1,iv x.f2,iv x.f3,.slice A0_4 x.f4.length c0_4,.slice A0_5 x.f5.length c0_5,.slice A0_6 x.f6.length c0_6]) ?_)
 rintro _ u3 a ⟨b2,rfl,hb2,S,hg⟩ E
 refine ple E (.bx (t:=40) S [iv y.f0,iv y.f1,iv y.f2,iv y.f3,iv y.f4,iv y.f5,.slice A1_6 y.f6.length c1_6]) ?_
 rintro _ u5 a ⟨b4,rfl,hb4,S,hg⟩ E
 refine ple E (.al (t:=26) S [iv 0,iv 0,iv 0,iv 0,.slice none 0 0,.slice none 0 0,.slice none 0 0]) ?_
 rintro _ u7 a ⟨b6,rfl,hb6,S,hg⟩ E
 refine plc E (.r 3 1 .nil) (fun a E=>pld (hK1 _ _ (sq fun K8 hK8=>wp_block (sq fun K9 hK9=>pl0 ?_))))
 have hb2:=S.ba 2
 refine plc E (.bn 0 0 7 hb2 .nil) (fun a E=>?_)
 obtain ⟨t11,h12,H⟩:=bd H
 refine ple E (.cl en32 (qv.calls k x _ _ _ _ _ _ _ _ _ S.own.sub g0_4 g0_5 g0_6 h12)) ?_
 rintro _ u10 a ⟨_,rfl,hC⟩ E
 replace S:=S.lent hC
 refine plc E (.r 2 2 .nil) (fun a E=>pld (hK9 _ _ ?_))
 refine E.ikn 8 H (fun c13 E H=>?_) fun c13 E H=>?_
 ·
  refine sq fun K14 hK14=>?_
  have J24:∀ kq22,kq22≤k→∀(G:NV)(y20:Bool)(a:Act)(w':World),Env 56 G a→At G [(2,.pointer (pb b2)),(3,.pointer (pb b4)),(4,.pointer (pb b6)),(13,.bool y20)]→Sm W F w' F [box b6 #[iv 0,iv 0,iv 0,iv 0,.slice none 0 0,.slice none 0 0,.slice none 0 0] 26,box b4 #[iv y.f0,iv y.f1,iv y.f2,iv y.f3,iv y.f4,iv y.f5,.slice A1_6 y.f6.length c1_6] 40,box b2 #[iv x.f0,iv x.f1,iv x.f2,iv x.f3,.slice A0_4 x.f4.length c0_4,.slice A0_5 x.f5.length c0_5,.slice A0_6 x.f6.length c0_6] 26]→qAZ.j21 kq22 x y y20=some r→K14 a w':=by
   intro kq22 hkq G y20 a u25 E A S H
   obtain _ | k23:=kq22
   ·
    exact zz H
   rw [qAZ.j21_s]at H
   obtain ⟨J,E⟩:=E.at A
   refine hK14 _ _ ?_
   refine E.ib 13 H (fun c26 E H=>?_) fun c26 E H=>?_
   ·
    refine sq fun K27 hK27=>pl0 ?_
    have hb2:=S.ba 2
    refine plc E (.bn 0 0 7 hb2 .nil) (fun a E=>?_)
    obtain ⟨t29,h30,H⟩:=bd H
    refine ple E (.cl en77 (qAX.calls k23 x _ _ _ _ _ _ _ _ _ S.own.sub g0_4 g0_5 g0_6 h30)) ?_
    rintro _ u28 a ⟨F31,A32,c33,A36,c37,A40,c41,rfl,hC⟩ E
    have hs:=hC.sub
    replace S:=S.called (X:=[]) hC
    replace g0_4:=g0_4.mono hs
    replace g0_5:=g0_5.mono hs
    replace g0_6:=g0_6.mono hs
    replace g1_6:=g1_6.mono hs
    replace S:=S.front 3 rfl
    refine ple E (.sto S [iv t29.f0,iv t29.f1,iv t29.f2,iv t29.f3,.slice A32 t29.f4.length c33,.slice A36 t29.f5.length c37,.slice A40 t29.f6.length c41]) ?_
    rintro _ u44 a ⟨rfl,hb6,S,hz⟩ E
    refine plc E (.r 3 1 .nil) (fun a E=>pld (hK27 _ _ (wp_ret (qBc (qBb ?_)))))
    replace S:=S.front 1 rfl
    obtain ⟨F45,hs,g46,S⟩:=S.give
    replace g0_4:=g0_4.mono hs
    replace g0_5:=g0_5.mono hs
    replace g0_6:=g0_6.mono hs
    replace g1_6:=g1_6.mono hs
    replace S:=S.front 1 rfl
    obtain ⟨F47,hs,g48,S⟩:=S.give
    replace g0_4:=g0_4.mono hs
    replace g0_5:=g0_5.mono hs
    replace g0_6:=g0_6.mono hs
    replace g46:=g46.mono hs
    replace g1_6:=g1_6.mono hs
    replace S:=S.pm [1] 4
    obtain rfl:=si H
    exact retN E rfl (of_decide_eq_true rfl) (.cell (by kernel_rfl) (qBg [iv t29.f0,iv t29.f1,iv t29.f2,iv t29.f3,.slice A32 t29.f4.length c33,.slice A36 t29.f5.length c37,.slice A40 t29.f6.length c41] ag26 sz26 hb6 rfl) (.tmp (by kernel_rfl) .nil)) ⟨_,rfl,_,_,_,_,_,_,_,rfl,S,g46,g48⟩
   refine sq fun K49 hK49=>pl0 ?_
   have hb2:=S.ba 2
   refine plc E (.r 0 1<|.b 1 0 hb2<|.r 2 2<|.nil) (fun a E=>pld (hK49 _ _ ?_))
   refine E.ik 29 H (fun c50 E H=>?_) fun c50 E H=>?_
   ·
    refine sq fun K51 hK51=>pl0 (plc E (.bn 0 0 7 hb2 .nil) (fun a E=>?_))
    obtain ⟨t53,h54,H⟩:=bd H
    refine ple E (.cl en77 (qAX.calls k23 x _ _ _ _ _ _ _ _ _ S.own.sub g0_4 g0_5 g0_6 h54)) ?_
    rintro _ u52 a ⟨F55,A56,c57,A60,c61,A64,c65,rfl,hC⟩ E
    have hs:=hC.sub
    replace S:=S.called (X:=[]) hC
    replace g0_4:=g0_4.mono hs
    replace g0_5:=g0_5.mono hs
    replace g0_6:=g0_6.mono hs
    replace g1_6:=g1_6.mono hs
    replace S:=S.front 3 rfl
    refine ple E (.sto S [iv t53.f0,iv t53.f1,iv t53.f2,iv t53.f3,.slice A56 t53.f4.length c57,.slice A60 t53.f5.length c61,.slice A64 t53.f6.length c65]) ?_
    rintro _ u68 a ⟨rfl,hb6,S,hz⟩ E
    refine plc E (.r 3 1 .nil) (fun a E=>pld (hK51 _ _ (wp_ret (qBc (qBb ?_)))))
    replace S:=S.front 1 rfl
    obtain ⟨F69,hs,g70,S⟩:=S.give
    replace g0_4:=g0_4.mono hs
    replace g0_5:=g0_5.mono hs
    replace g0_6:=g0_6.mono hs
    replace g1_6:=g1_6.mono hs
    replace S:=S.front 1 rfl
    obtain ⟨F71,hs,g72,S⟩:=S.give
    replace g0_4:=g0_4.mono hs
    replace g0_5:=g0_5.mono hs
    replace g0_6:=g0_6.mono hs
    replace g70:=g70.mono hs
    replace g1_6:=g1_6.mono hs
    replace S:=S.pm [1] 4
    obtain rfl:=si H
    exact retN E rfl (of_decide_eq_true rfl) (.cell (by kernel_rfl) (qBg [iv t53.f0,iv t53.f1,iv t53.f2,iv t53.f3,.slice A56 t53.f4.length c57,.slice A60 t53.f5.length c61,.slice A64 t53.f6.length c65] ag26 sz26 hb6 rfl) (.tmp (by kernel_rfl) .nil)) ⟨_,rfl,_,_,_,_,_,_,_,rfl,S,g70,g72⟩
   refine wp_skip ?_
   refine qBd ?_
   refine hK8 _ _ (sq fun K76 hK76=>?_)
   refine drawn 10 ⟨[3,8],[],fun q=>False⟩ mixed rfl (by kernel_rfl) (fun hst=>?_)
   replace S:=S.drew
   have hb2:=S.ba 2
   have hb4:=S.ba 1
   refine mny 8 hst E (.bn 0 0 7 hb2<|.bn 2 0 7 hb4<|.nil) (fun a E=>?_)
   obtain ⟨t77,h78,H⟩:=bd H
   obtain ⟨t95,h96,H⟩:=bd H
   refine meet2 (fun a w'=>∃(G:NV)(b93:Nat)(A99:OA)(c100:Nat)(A102:OA)(c103:Nat)(A105:OA)(c106:Nat)(F112:World),Env 56 G a∧At G [(2,.pointer (pb b2)),(4,.pointer (pb b6)),(6,.pointer (pb b93)),(40,.agg #[iv t95.1.f0,iv t95.1.f1,iv t95.1.f2,iv t95.1.f3,.slice A99 t95.1.f4.length c100,.slice A102 t95.1.f5.length c103,.slice A105 t95.1.f6.length c106]),(41,iv t95.2)]∧Sm W F w' F112 [box b93 #[iv 0,iv 0,iv 0,iv 0,.slice none 0 0,.slice none 0 0,.slice none 0 0] 26,box b6 #[iv 0,iv 0,iv 0,iv 0,.slice none 0 0,.slice none 0 0,.slice none 0 0] 26,box b4 #[iv y.f0,iv y.f1,iv y.f2,iv y.f3,iv y.f4,iv y.f5,.slice A1_6 y.f6.length c1_6] 40,box b2 #[iv x.f0,iv x.f1,iv x.f2,iv x.f3,.slice A0_4 x.f4.length c0_4,.slice A0_5 x.f5.length c0_5,.slice A0_6 x.f6.length c0_6] 26]∧Rd qA.k F112 A99 c100 t95.1.f4∧Rd qD.k F112 A102 c103 t95.1.f5∧Rd qC.k F112 A105 c106 t95.1.f6∧Rd ki F112 A1_6 c1_6 y.f6∧Rd qA.k F112 A0_4 c0_4 x.f4∧Rd qD.k F112 A0_5 c0_5 x.f5∧Rd qC.k F112 A0_6 c0_6 x.f6) 2 255 ?_ (fun hJb=>?_)
   ·
    rintro a u113 ⟨G,b93,A99,c100,A102,c103,A105,c106,F112,E,A,S,g101,g104,g107,g1_6,g0_4,g0_5,g0_6⟩
    obtain ⟨J,E⟩:=E.at A
    refine on1 8 E (.sto S [iv t95.1.f0,iv t95.1.f1,iv t95.1.f2,iv t95.1.f3,.slice A99 t95.1.f4.length c100,.slice A102 t95.1.f5.length c103,.slice A105 t95.1.f6.length c106]) ?_
    rintro _ u114 a ⟨rfl,hb93,S,hz⟩ E
    refine ⟨.d,?_⟩
    refine mny 0 hst E (.r 9 1 .nil) (fun a E=>?_)
    refine dn ?_
    refine hK76 _ _ (sq fun K115 hK115=>rr E fun a E=>?_)
    refine E.ikn 43 H (fun c117 E H=>?_) fun c117 E H=>?_
    ·
     refine wp_skip (hK115 _ _ (sq fun K140 hK140=>pl0 ?_))
     have hb2:=S.ba 3
     refine plc E (.bn 0 0 7 hb2<|.bn 1 0 7 hb93<|.nil) (fun a E=>?_)
     obtain ⟨t142,h143,H⟩:=bd H
     refine ple E (.cl en79 (qAS.calls k23 x t95.1 _ _ _ _ _ _ _ _ _ _ _ _ _ _ _ S.own.sub g0_4 g0_5 g0_6 g101 g104 g107 h143)) ?_
     rintro _ u141 a ⟨F144,A145,c146,rfl,hC⟩ E
     have hs:=hC.sub
     replace S:=S.called (X:=[]) hC
     replace g101:=g101.mono hs
     replace g104:=g104.mono hs
     replace g107:=g107.mono hs
     replace g0_4:=g0_4.mono hs
     replace g0_5:=g0_5.mono hs
     replace g0_6:=g0_6.mono hs
     replace g1_6:=g1_6.mono hs
     refine plc E (.r 3 1 .nil) (fun a E=>?_)
     replace S:=S.front 1 rfl
     refine ple E (.sto S [iv t95.1.f0,iv t95.1.f1,iv t95.1.f2,iv t95.1.f3,.slice A99 t95.1.f4.length c100,.slice A102 t95.1.f5.length c103,.slice A145 t142.length c146]) ?_
     rintro _ u149 a ⟨rfl,hb93,S,hz⟩ E
     refine pld (hK140 _ _ (sq fun K150 hK150=>pl0 (plc E (.r 0 1<|.b 1 0 hb93<|.r 2 2<|.nil) (fun a E=>ple E (.sto S [iv (w64 (t95.1.f0+1)),iv t95.1.f1,iv t95.1.f2,iv t95.1.f3,.slice A99 t95.1.f4.length c100,.slice A102 t95.1.f5.length c103,.slice A145 t142.length c146]) ?_))))
     rintro _ u151 a ⟨rfl,hb93,S,hz⟩ E
     refine pld (hK150 _ _ (sq fun K152 hK152=>pl0 (plc E (.bn 0 0 7 hb93 .nil) (fun a E=>?_))))
     replace S:=S.front 2 rfl
     refine ple E (.sto S [iv (w64 (t95.1.f0+1)),iv t95.1.f1,iv t95.1.f2,iv t95.1.f3,.slice A99 t95.1.f4.length c100,.slice A102 t95.1.f5.length c103,.slice A145 t142.length c146]) ?_
     rintro _ u153 a ⟨rfl,hb6,S,hz⟩ E
     refine plc E (.r 2 1 .nil) (fun a E=>pld (hK152 _ _ (wp_ret ?_)))
     replace S:=S.pm [2] 5
     obtain rfl:=si H
     exact retN E rfl (of_decide_eq_true rfl) (.cell (by kernel_rfl) (qBg [iv (w64 (t95.1.f0+1)),iv t95.1.f1,iv t95.1.f2,iv t95.1.f3,.slice A99 t95.1.f4.length c100,.slice A102 t95.1.f5.length c103,.slice A145 t142.length c146] ag26 sz26 hb6 rfl) (.tmp (by kernel_rfl) .nil)) ⟨_,rfl,_,_,_,_,_,_,_,rfl,S,g101,g104⟩
    refine sq fun K118 hK118=>pl0 ?_
    have hb2:=S.ba 3
    refine plc E (.bn 0 0 7 hb2 .nil) (fun a E=>?_)
    obtain ⟨t120,h121,H⟩:=bd H
    refine ple E (.cl en77 (qAX.calls k23 x _ _ _ _ _ _ _ _ _ S.own.sub g0_4 g0_5 g0_6 h121)) ?_
    rintro _ u119 a ⟨F122,A123,c124,A127,c128,A131,c132,rfl,hC⟩ E
    have hs:=hC.sub
    replace S:=S.called (X:=[]) hC
    replace g101:=g101.mono hs
    replace g104:=g104.mono hs
    replace g107:=g107.mono hs
    replace g0_4:=g0_4.mono hs
    replace g0_5:=g0_5.mono hs
    replace g0_6:=g0_6.mono hs
    replace g1_6:=g1_6.mono hs
    refine plc E (.r 2 1 .nil) (fun a E=>?_)
    replace S:=S.front 4 rfl
    refine ple E (.sto S [iv t120.f0,iv t120.f1,iv t120.f2,iv t120.f3,.slice A123 t120.f4.length c124,.slice A127 t120.f5.length c128,.slice A131 t120.f6.length c132]) ?_
    rintro _ u135 a ⟨rfl,hb6,S,hz⟩ E
    refine plc E (.r 4 1 .nil) (fun a E=>pld (hK118 _ _ (wp_ret (qBb ?_))))
    replace S:=S.front 1 rfl
    obtain ⟨F136,hs,g137,S⟩:=S.give
    replace g101:=g101.mono hs
    replace g104:=g104.mono hs
    replace g107:=g107.mono hs
    replace g0_4:=g0_4.mono hs
    replace g0_5:=g0_5.mono hs
    replace g0_6:=g0_6.mono hs
    replace g1_6:=g1_6.mono hs
    replace S:=S.front 1 rfl
    obtain ⟨F138,hs,g139,S⟩:=S.give
    replace g101:=g101.mono hs
    replace g104:=g104.mono hs
    replace g107:=g107.mono hs
    replace g0_4:=g0_4.mono hs
    replace g0_5:=g0_5.mono hs
    replace g0_6:=g0_6.mono hs
    replace g137:=g137.mono hs
    replace g1_6:=g1_6.mono hs
    replace S:=S.pm [1] 5
    obtain rfl:=si H
    exact retN E rfl (of_decide_eq_true rfl) (.cell (by kernel_rfl) (qBg [iv t120.f0,iv t120.f1,iv t120.f2,iv t120.f3,.slice A123 t120.f4.length c124,.slice A127 t120.f5.length c128,.slice A131 t120.f6.length c132] ag26 sz26 hb6 rfl) (.tmp (by kernel_rfl) .nil)) ⟨_,rfl,_,_,_,_,_,_,_,rfl,S,g137,g139⟩
   refine meet2 (fun a w'=>∃(G:NV)(b93:Nat)(A81:OA)(c82:Nat)(A85:OA)(c86:Nat)(A89:OA)(c90:Nat)(F109:World),Env 56 G a∧At G [(2,.pointer (pb b2)),(4,.pointer (pb b6)),(6,.pointer (pb b93)),(37,.agg #[iv t77.f0,iv t77.f1,iv t77.f2,iv t77.f3,.slice A81 t77.f4.length c82,.slice A85 t77.f5.length c86,.slice A89 t77.f6.length c90]),(38,.agg #[iv y.f0,iv y.f1,iv y.f2,iv y.f3,iv y.f4,iv y.f5,.slice A1_6 y.f6.length c1_6])]∧Sm W F w' F109 [box b93 #[iv 0,iv 0,iv 0,iv 0,.slice none 0 0,.slice none 0 0,.slice none 0 0] 26,box b6 #[iv 0,iv 0,iv 0,iv 0,.slice none 0 0,.slice none 0 0,.slice none 0 0] 26,box b4 #[iv y.f0,iv y.f1,iv y.f2,iv y.f3,iv y.f4,iv y.f5,.slice A1_6 y.f6.length c1_6] 40,box b2 #[iv x.f0,iv x.f1,iv x.f2,iv x.f3,.slice A0_4 x.f4.length c0_4,.slice A0_5 x.f5.length c0_5,.slice A0_6 x.f6.length c0_6] 26,row qA.k 104 (.slice A81 t77.f4.length c82) t77.f4,row qD.k 97 (.slice A85 t77.f5.length c86) t77.f5,row qC.k 49 (.slice A89 t77.f6.length c90) t77.f6]∧Rd ki F109 A1_6 c1_6 y.f6∧Rd qA.k F109 A0_4 c0_4 x.f4∧Rd qD.k F109 A0_5 c0_5 x.f5∧Rd qC.k F109 A0_6 c0_6 x.f6) 6 135 ?_ (fun hJ=>?_)
   ·
    rintro a u110 ⟨G,b93,A81,c82,A85,c86,A89,c90,F109,E,A,S,g1_6,g0_4,g0_5,g0_6⟩
    obtain ⟨J,E⟩:=E.at A
    replace S:=S.pm [4,5,6,0,1,2,3] 7
    refine on1 3 E (.cl en78 (qAz.calls k23 t77 y _ _ _ _ _ _ _ _ _ _ _ (Own.left (X:=[row qA.k 104 (.slice A81 t77.f4.length c82) t77.f4,row qD.k 97 (.slice A85 t77.f5.length c86) t77.f5,row qC.k 49 (.slice A89 t77.f6.length c90) t77.f6]) S.own) g1_6 h96)) ?_
    rintro _ u97 a ⟨F98,A99,c100,A102,c103,A105,c106,rfl,hC,g101,g104,g107⟩ E
    refine ⟨.d,?_⟩
    have hs:=hC.sub
    replace S:=S.called (X:=[row qA.k 104 (.slice A81 t77.f4.length c82) t77.f4,row qD.k 97 (.slice A85 t77.f5.length c86) t77.f5,row qC.k 49 (.slice A89 t77.f6.length c90) t77.f6]) hC
    replace g1_6:=g1_6.mono hs
    replace g0_4:=g0_4.mono hs
    replace g0_5:=g0_5.mono hs
    replace g0_6:=g0_6.mono hs
    refine mny 2 hst E (.r 4 3 .nil) (fun a E=>?_)
    exact hJb _ _ ⟨_,b93,A99,c100,A102,c103,A105,c106,F98,E,.of,S,g101,g104,g107,g1_6,g0_4,g0_5,g0_6⟩
   refine pk2 1 7 ?_ ?_
   ·
    refine pk1 1 E (.cl en77 (qAX.calls k23 x _ _ _ _ _ _ _ _ _ S.own.sub g0_4 g0_5 g0_6 h78)) ?_
    rintro _ u79 a ⟨F80,A81,c82,A85,c86,A89,c90,rfl,hC⟩ E
    refine ⟨.of hC.agr,?_⟩
    have hs:=hC.sub
    replace S:=S.called (X:=[]) hC
    replace g0_4:=g0_4.mono hs
    replace g0_5:=g0_5.mono hs
    replace g0_6:=g0_6.mono hs
    replace g1_6:=g1_6.mono hs
    refine pk2 7 3 ?_ ?_
    ·
     refine pk1 7 E (.al (t:=26) S [iv 0,iv 0,iv 0,iv 0,.slice none 0 0,.slice none 0 0,.slice none 0 0]) ?_
     rintro _ u94 a ⟨b93,rfl,hb93,S,hg⟩ E
     refine ⟨.of hg,?_⟩
     replace S:=S.pm [0,4,5,6,1,2,3] 7
     exact hJ _ _ ⟨_,b93,A81,c82,A85,c86,A89,c90,F80,E,.of,S,g1_6,g0_4,g0_5,g0_6⟩
    refine pk1 3 E (.cl en78 (qAz.calls k23 t77 y _ _ _ _ _ _ _ _ _ _ _ (Own.left (X:=[row qA.k 104 (.slice A81 t77.f4.length c82) t77.f4,row qD.k 97 (.slice A85 t77.f5.length c86) t77.f5,row qC.k 49 (.slice A89 t77.f6.length c90) t77.f6]) S.own) g1_6 h96)) ?_
    rintro _ u97 a ⟨F98,A99,c100,A102,c103,A105,c106,rfl,hC,g101,g104,g107⟩ E
    refine ⟨.d,?_⟩
    have hs:=hC.sub
    replace S:=S.called (X:=[row qA.k 104 (.slice A81 t77.f4.length c82) t77.f4,row qD.k 97 (.slice A85 t77.f5.length c86) t77.f5,row qC.k 49 (.slice A89 t77.f6.length c90) t77.f6]) hC
    replace g0_4:=g0_4.mono hs
    replace g0_5:=g0_5.mono hs
    replace g0_6:=g0_6.mono hs
    replace g1_6:=g1_6.mono hs
    refine mny 3 hst E (.r 4 3 .nil) (fun a E=>?_)
    refine on1 7 E (.al (t:=26) S [iv 0,iv 0,iv 0,iv 0,.slice none 0 0,.slice none 0 0,.slice none 0 0]) ?_
    rintro _ u94 a ⟨b93,rfl,hb93,S,hg⟩ E
    refine ⟨.of hg,?_⟩
    exact hJb _ _ ⟨_,b93,A99,c100,A102,c103,A105,c106,F98,E,.of,S,g101,g104,g107,g1_6,g0_4,g0_5,g0_6⟩
   refine pk1 7 E (.al (t:=26) S [iv 0,iv 0,iv 0,iv 0,.slice none 0 0,.slice none 0 0,.slice none 0 0]) ?_
   rintro _ u94 a ⟨b93,rfl,hb93,S,hg⟩ E
   refine ⟨.of hg,?_⟩
   refine on1 1 E (.cl en77 (qAX.calls k23 x _ _ _ _ _ _ _ _ _ S.own.sub g0_4 g0_5 g0_6 h78)) ?_
   rintro _ u79 a ⟨F80,A81,c82,A85,c86,A89,c90,rfl,hC⟩ E
   refine ⟨.of hC.agr,?_⟩
   have hs:=hC.sub
   replace S:=S.called (X:=[]) hC
   replace g0_4:=g0_4.mono hs
   replace g0_5:=g0_5.mono hs
   replace g0_6:=g0_6.mono hs
   replace g1_6:=g1_6.mono hs
   replace S:=S.pm [3,4,5,6,0,1,2] 7
   exact hJ _ _ ⟨_,b93,A81,c82,A85,c86,A89,c90,F80,E,.of,S,g1_6,g0_4,g0_5,g0_6⟩
  refine pl0 ?_
  have hb4:=S.ba 1
  refine plc E (.r 0 1<|.b 1 0 hb4<|.r 2 2<|.nil) (fun a E=>?_)
  rcases sp H with ⟨c15,H⟩ | ⟨c15,H⟩
  ·
   replace E:=E.kt 17 c15
   refine plc E (.r 4 10 .nil) (fun a E=>pld ?_)
   exact J24 _ (by omega) _ true _ _ E .of S H
  replace E:=E.kf 17 c15
  refine plc E (.r 4 1<|.b 5 0 hb4<|.r 6 3<|.nil) (fun a E=>?_)
  rcases sp H with ⟨c16,H⟩ | ⟨c16,H⟩
  ·
   replace E:=E.kt 22 c16
   refine plc E (.r 9 5 .nil) (fun a E=>pld ?_)
   exact J24 _ (by omega) _ true _ _ E .of S H
  replace E:=E.kf 22 c16
  refine plc E (.bn 9 0 7 hb4 .nil) (fun a E=>?_)
  obtain ⟨t18,h19,H⟩:=bd H
  refine ple E (.cl en76 (qBQ.calls y _ _ _ _ _ S.own.sub g1_6 h19)) ?_
  rintro _ u17 a ⟨_,rfl,hC⟩ E
  replace S:=S.lent hC
  refine plc E (.r 11 3 .nil) (fun a E=>pld ?_)
  exact J24 _ (by omega) _ (!t18) _ _ E .of S H
 refine sq fun K73 hK73=>pl0 (plc E (.r 0 1 .nil) (fun a E=>ple E (.sto S [iv 0,iv 0,iv 0,iv 0,.slice none 0 0,.slice none 0 0,.slice none 0 0]) ?_))
 rintro _ u74 a ⟨rfl,hb6,S,hz⟩ E
 refine plc E (.r 2 1 .nil) (fun a E=>pld (hK73 _ _ (wp_ret (qBc (qBb ?_)))))
 replace S:=S.nilrow qC.k 49
 replace S:=S.pm [0] 4
 obtain rfl:=si H
 exact retN E rfl (of_decide_eq_true rfl) (.cell (by kernel_rfl) (qBg [iv 0,iv 0,iv 0,iv 0,.slice none 0 0,.slice none 0 0,.slice none 0 0] ag26 sz26 hb6 rfl) (.tmp (by kernel_rfl) .nil)) ⟨_,rfl,_,_,_,_,_,_,_,rfl,S,(Rd.nil _ _),(Rd.nil _ _)⟩
def qAV.f(k:Nat):Option Bool:=(qBW.f k 3 2 4).bind fun t4=>((qAZ.f k t4.1 (⟨1,5,1,1,3,0,[]⟩:qf)).bind fun t24=>((qAZ.f k t24.1 (⟨3,5,0,0,0,0,[]⟩:qf)).bind fun t42=>(if t4.2=0 then (if t24.2=0 then (if t42.2=0 then (if t42.1.f0=2 then ((qAg.f k t24.1 0).bind fun t64=>((qm.f k t64 [5]).bind fun t76=>(if t76=true then ((qBG.f k t24.1 0).bind fun t80=>(if (t80.length:Int)=0 then ((qBG.f k t42.1 0).bind fun t91=>((qm.f k t91 [5]).bind fun t103=>(some t103))) else (some false))) else (some false)))) else (some false)) else (some false)) else (some false)) else (some false))))
def qAV.Post(W F:World)(r:Bool)(v:Value)(w':World):Prop:=∃(F':World),v = .bool r∧Sm W F w' F' []
theorem qAV.calls(k:Nat)(r:Bool)(W F:World)(hown:Sub F W)(H:qAV.f k=some r):
    Cr 17 #[] W (qAV.Post W F r):=by
 have S:=St.start (Own.nil hown)
 unfold qAV.f at H
 refine ent 55 rfl rfl rfl (fun a E=>?_)
 refine rr E fun a E=>(sq fun K2 hK2=>pl0 ?_)
 obtain ⟨t4,h5,H⟩:=bd H
 refine ple E (.cl en15 (qBW.calls k 3 2 4 _ _ _ S.own.sub h5)) ?_
 rintro _ u3 a ⟨F6,A7,c8,A10,c11,A13,c14,rfl,hC,g9,g12⟩ E
 have hs:=hC.sub
 replace S:=S.called (X:=[]) hC
 refine plc E (.r 1 3 .nil) (fun a E=>ple E (.al (t:=26) S [iv 0,iv 0,iv 0,iv 0,.slice none 0 0,.slice none 0 0,.slice none 0 0]) ?_)
 rintro _ u18 a ⟨b17,rfl,hb17,S,hg⟩ E
 refine ple E (.sto S [iv t4.1.f0,iv t4.1.f1,iv t4.1.f2,iv t4.1.f3,.slice A7 t4.1.f4.length c8,.slice A10 t4.1.f5.length c11,.slice A13 t4.1.f6.length c14]) ?_
 rintro _ u19 a ⟨rfl,hb17,S,hz⟩ E
 refine plc E (.r 6 1 .nil) (fun a E=>pld (hK2 _ _ (sq fun K20 hK20=>pl0 (plc E (.bn 0 0 7 hb17<|.r 1 1<|.nil) (fun a E=>?_)))))
 replace S:=S.front 1 rfl
 obtain ⟨F21,hs,g22,S⟩:=S.give
 replace g9:=g9.mono hs
 replace g12:=g12.mono hs
 obtain ⟨t24,h25,H⟩:=bd H
 refine ple E (.cl en26 (qAZ.calls k t4.1 (⟨1,5,1,1,3,0,[]⟩:qf) _ _ _ _ _ _ _ _ _ _ _ S.own.sub g9 g12 g22 (Rd.nil _ _) h25)) ?_
 rintro _ u23 a ⟨F26,A27,c28,A30,c31,A33,c34,rfl,hC,g29,g32⟩ E
 have hs:=hC.sub
 replace S:=S.called (X:=[]) hC
 replace g9:=g9.mono hs
 replace g12:=g12.mono hs
 replace g22:=g22.mono hs
 refine plc E (.r 3 3 .nil) (fun a E=>?_)
 replace S:=S.front 1 rfl
 refine ple E (.sto S [iv t24.1.f0,iv t24.1.f1,iv t24.1.f2,iv t24.1.f3,.slice A27 t24.1.f4.length c28,.slice A30 t24.1.f5.length c31,.slice A33 t24.1.f6.length c34]) ?_
 rintro _ u37 a ⟨rfl,hb17,S,hz⟩ E
 refine plc E (.r 7 1 .nil) (fun a E=>pld (hK20 _ _ (sq fun K38 hK38=>pl0 (plc E (.bn 0 0 7 hb17<|.r 1 1<|.nil) (fun a E=>?_)))))
 replace S:=S.front 1 rfl
 obtain ⟨F39,hs,g40,S⟩:=S.give
 replace g9:=g9.mono hs
 replace g12:=g12.mono hs
 replace g22:=g22.mono hs
 replace g29:=g29.mono hs
 replace g32:=g32.mono hs
 obtain ⟨t42,h43,H⟩:=bd H
 refine ple E (.cl en26 (qAZ.calls k t24.1 (⟨3,5,0,0,0,0,[]⟩:qf) _ _ _ _ _ _ _ _ _ _ _ S.own.sub g29 g32 g40 (Rd.nil _ _) h43)) ?_
 rintro _ u41 a ⟨F44,A45,c46,A48,c49,A51,c52,rfl,hC,g47,g50⟩ E
 have hs:=hC.sub
 replace S:=S.called (X:=[]) hC
 replace g9:=g9.mono hs
 replace g12:=g12.mono hs
 replace g22:=g22.mono hs
 replace g29:=g29.mono hs
 replace g32:=g32.mono hs
 replace g40:=g40.mono hs
 refine plc E (.r 3 3 .nil) (fun a E=>ple E (.al (t:=26) S [iv 0,iv 0,iv 0,iv 0,.slice none 0 0,.slice none 0 0,.slice none 0 0]) ?_)
 rintro _ u56 a ⟨b55,rfl,hb55,S,hg⟩ E
 refine ple E (.sto S [iv t42.1.f0,iv t42.1.f1,iv t42.1.f2,iv t42.1.f3,.slice A45 t42.1.f4.length c46,.slice A48 t42.1.f5.length c49,.slice A51 t42.1.f6.length c52]) ?_
 rintro _ u57 a ⟨rfl,hb55,S,hz⟩ E
 refine plc E (.r 8 1 .nil) (fun a E=>pld (hK38 _ _ (sq fun K58 hK58=>pl0 (plc E (.r 0 3 .nil) (fun a E=>?_)))))
 rcases sp H with ⟨c59,H⟩ | ⟨c59,H⟩
 ·
  replace E:=E.kt 24 c59
  refine plc E (.r 3 4 .nil) (fun a E=>?_)
  rcases sp H with ⟨c60,H⟩ | ⟨c60,H⟩
  ·
   replace E:=E.kt 28 c60
   refine plc E (.r 7 4 .nil) (fun a E=>?_)
   rcases sp H with ⟨c61,H⟩ | ⟨c61,H⟩
   ·
    replace E:=E.kt 32 c61
    refine plc E (.r 11 1<|.b 12 0 hb55<|.r 13 3<|.nil) (fun a E=>?_)
    rcases sp H with ⟨c62,H⟩ | ⟨c62,H⟩
    ·
     replace E:=E.kt 37 c62
     have hb17:=S.ba 2
     refine plc E (.bn 16 0 7 hb17 .nil) (fun a E=>?_)
     obtain ⟨t64,h65,H⟩:=bd H
     refine ple E (.cl en22 (qAg.calls k t24.1 0 _ _ _ _ _ _ _ _ _ S.own.sub g29 g32 g40 h65)) ?_
     rintro _ u63 a ⟨F66,A67,c68,rfl,hC⟩ E
     have hs:=hC.sub
     replace S:=S.called (X:=[]) hC
     replace g9:=g9.mono hs
     replace g12:=g12.mono hs
     replace g22:=g22.mono hs
     replace g29:=g29.mono hs
     replace g32:=g32.mono hs
     replace g40:=g40.mono hs
     replace g47:=g47.mono hs
     replace g50:=g50.mono hs
     refine ple E (.lit (d:=ki) (e:=3) S [5] (.cons rfl .nil)) ?_
     rintro _ u71 a ⟨A72,c73,rfl,S,hg⟩ E
     obtain ⟨t76,h77,H⟩:=bd H
     refine ple E (.cl en21 (qm.calls k t64 [5] _ _ _ _ _ _ _ (Sub.refl _) (S.rd_at (i:=1) rfl) (S.rd_at (i:=0) rfl) h77)) ?_
     rintro _ u75 a ⟨_,rfl,hC⟩ E
     replace S:=S.lent hC
     refine plc E (.r 20 2 .nil) (fun a E=>?_)
     rcases sp H with ⟨c78,H⟩ | ⟨c78,H⟩
     ·
      replace E:=E.bt 43 c78
      have hb17:=S.ba 4
      refine plc E (.bn 22 0 7 hb17 .nil) (fun a E=>?_)
      obtain ⟨t80,h81,H⟩:=bd H
      refine ple E (.cl en24 (qBG.calls k t24.1 0 _ _ _ _ _ _ _ _ _ S.own.sub g29 g32 g40 h81)) ?_
      rintro _ u79 a ⟨F82,A83,c84,rfl,hC⟩ E
      have hs:=hC.sub
      replace S:=S.called (X:=[]) hC
      replace g9:=g9.mono hs
      replace g12:=g12.mono hs
      replace g22:=g22.mono hs
      replace g29:=g29.mono hs
      replace g32:=g32.mono hs
      replace g40:=g40.mono hs
      replace g47:=g47.mono hs
      replace g50:=g50.mono hs
      refine plc E (.r 24 4 .nil) (fun a E=>?_)
      rcases sp H with ⟨c87,H⟩ | ⟨c87,H⟩
      ·
       replace E:=E.kt 49 c87
       have hb55:=S.ba 3
       refine plc E (.bn 28 0 7 hb55 .nil) (fun a E=>?_)
       replace S:=S.front 4 rfl
       obtain ⟨F88,hs,g89,S⟩:=S.give
       replace g9:=g9.mono hs
       replace g12:=g12.mono hs
       replace g22:=g22.mono hs
       replace g29:=g29.mono hs
       replace g32:=g32.mono hs
       replace g40:=g40.mono hs
       replace g47:=g47.mono hs
       replace g50:=g50.mono hs
       obtain ⟨t91,h92,H⟩:=bd H
       refine ple E (.cl en24 (qBG.calls k t42.1 0 _ _ _ _ _ _ _ _ _ S.own.sub g47 g50 g89 h92)) ?_
       rintro _ u90 a ⟨F93,A94,c95,rfl,hC⟩ E
       have hs:=hC.sub
       replace S:=S.called (X:=[]) hC
       replace g9:=g9.mono hs
       replace g12:=g12.mono hs
       replace g22:=g22.mono hs
       replace g29:=g29.mono hs
       replace g32:=g32.mono hs
       replace g40:=g40.mono hs
       replace g47:=g47.mono hs
       replace g50:=g50.mono hs
       replace g89:=g89.mono hs
       refine ple E (.lit (d:=ki) (e:=3) S [5] (.cons rfl .nil)) ?_
       rintro _ u98 a ⟨A99,c100,rfl,S,hg⟩ E
       obtain ⟨t103,h104,H⟩:=bd H
       refine ple E (.cl en21 (qm.calls k t91 [5] _ _ _ _ _ _ _ (Sub.refl _) (S.rd_at (i:=1) rfl) (S.rd_at (i:=0) rfl) h104)) ?_
       rintro _ u102 a ⟨_,rfl,hC⟩ E
       replace S:=S.lent hC
       refine plc E (.r 32 2 .nil) (fun a E=>pld (hK58 _ _ (wp_ret ?_)))
       replace S:=S.pm [] 7
       obtain rfl:=si H
       exact rt1 E ⟨_,rfl,_,rfl,S⟩
      replace E:=E.kf 49 c87
      refine plc E (.r 28 6 .nil) (fun a E=>pld (hK58 _ _ (wp_ret ?_)))
      replace S:=S.pm [] 6
      obtain rfl:=si H
      exact rt1 E ⟨_,rfl,_,rfl,S⟩
     replace E:=E.bf 43 c78
     refine plc E (.r 22 12 .nil) (fun a E=>pld (hK58 _ _ (wp_ret ?_)))
     replace S:=S.pm [] 5
     obtain rfl:=si H
     exact rt1 E ⟨_,rfl,_,rfl,S⟩
    replace E:=E.kf 37 c62
    refine plc E (.r 16 18 .nil) (fun a E=>pld (hK58 _ _ (wp_ret ?_)))
    replace S:=S.pm [] 3
    obtain rfl:=si H
    exact rt1 E ⟨_,rfl,_,rfl,S⟩
   replace E:=E.kf 32 c61
   refine plc E (.r 11 23 .nil) (fun a E=>pld (hK58 _ _ (wp_ret ?_)))
   replace S:=S.pm [] 3
   obtain rfl:=si H
   exact rt1 E ⟨_,rfl,_,rfl,S⟩
  replace E:=E.kf 28 c60
  refine plc E (.r 7 27 .nil) (fun a E=>pld (hK58 _ _ (wp_ret ?_)))
  replace S:=S.pm [] 3
  obtain rfl:=si H
  exact rt1 E ⟨_,rfl,_,rfl,S⟩
 replace E:=E.kf 24 c59
 refine plc E (.r 3 31 .nil) (fun a E=>pld (hK58 _ _ (wp_ret ?_)))
 replace S:=S.pm [] 3
 obtain rfl:=si H
 exact rt1 E ⟨_,rfl,_,rfl,S⟩
mutual
def qh.l5:Nat→List qA→Int→Option Bool
 | 0,_,_=>none
 | k+1,x,x4=>if x4<(x.length:Int) then (if 0≤x4∧x4<(x.length:Int) then (if (nth qA.z x x4).f0<1 then (qh.j37 k x x4 true) else (if (nth qA.z x x4).f0>999 then (qh.j37 k x x4 true) else (if (nth qA.z x x4).f1<1 then (qh.j37 k x x4 true) else (if (nth qA.z x x4).f1>9 then (qh.j37 k x x4 true) else (if (nth qA.z x x4).f2<1 then (qh.j37 k x x4 true) else (if (nth qA.z x x4).f2>9 then (qh.j37 k x x4 true) else (if (nth qA.z x x4).f3<0 then (qh.j37 k x x4 true) else (if (nth qA.z x x4).f3>65536 then (qh.j37 k x x4 true) else (if x4>0 then (if 0≤(w64 (x4 - 1))∧(w64 (x4 - 1))<(x.length:Int) then (qh.j37 k x x4 (decide ((nth qA.z x (w64 (x4 - 1))).f0≥(nth qA.z x x4).f0))) else (none)) else (qh.j37 k x x4 false)))))))))) else (none)) else (some (decide ((x.length:Int)≤12)))
def qh.j37:Nat→List qA→Int→Bool→Option Bool
 | 0,_,_,_=>none
 | k+1,x,x4,y36=>if y36=true then (some false) else (qh.l5 k x (w64 (x4+1)))
end
theorem qh.l5_s k x x4:type_of% (qh.l5.eq_2 x x4 k):=qh.l5.eq_2 x x4 k
theorem qh.j37_s k x x4 y36:type_of% (qh.j37.eq_2 x x4 y36 k):=qh.j37.eq_2 x x4 y36 k
def qh.f(k:Nat)(x:List qA):Option Bool:=qh.l5 k x 0
def qh.Post(W F:World)(r:Bool)(v:Value)(w':World):Prop:=∃(F':World),v = .bool r∧Sm W F w' F' []
theorem qh.calls(k:Nat)(x:List qA)(A0_0:OA)(c0_0:Nat)(r:Bool)(W F:World)(hown:Sub F W)(g0_0:Rd qA.k F A0_0 c0_0 x)(H:qh.f k x=some r):
    Cr 67 #[.slice A0_0 x.length c0_0] W (qh.Post W F r):=by
 have S:=St.start (Own.nil hown)
 unfold qh.f at H
 refine ent 71 rfl rfl rfl (fun a E=>?_)
 refine rr E fun a E=>(sq fun K2 hK2=>rr E fun a E=>(wp_block ?_))
 refine wp_loop_ghost (fun kq6 a w'=>∃(G:NV)(x4:Int),kq6≤k∧Env 71 G a∧At G [(0,.slice A0_0 x.length c0_0),(3,iv x4)]∧Sm W F w' F []∧qh.l5 kq6 x x4=some r) k ⟨_,0,Nat.le_refl _,E,.of,S,H⟩ ?_
 rintro kq6 a u8 ⟨G,x4,hkq,E,A,S,H⟩
 obtain _ | k7:=kq6
 ·
  exact zz H
 rw [qh.l5_s]at H
 obtain ⟨J,E⟩:=E.at A
 refine sq fun K9 hK9=>rr E fun a E=>?_
 refine E.ik 8 H (fun c11 E H=>?_) fun c11 E H=>?_
 ·
  refine wp_skip (hK9 _ _ (sq fun K12 hK12=>wp_block (sq fun K13 hK13=>pl0 ?_)))
  obtain ⟨c14,H⟩:=gd H
  have hE_:=E
  obtain ⟨ad15,rfl⟩:=g0_0.addr c14.1 c14.2
  replace E:=hE_
  obtain ⟨cs17,rfl,hc18⟩:=g0_0.el qA.z x4 c14.1 c14.2
  refine plc E (.r 0 2<|.x 2 c14<|.cs 3 (S.fcs hc18)<|.nil) (fun a E=>ple E (.al (t:=104) S [iv 0,iv 0,iv 0,iv 0,.bool false,.bool false]) ?_)
  rintro _ u20 a ⟨b19,rfl,hb19,S,hg⟩ E
  refine ple E (.sto S [iv ((nth qA.z x x4).f0),iv ((nth qA.z x x4).f1),iv ((nth qA.z x x4).f2),iv ((nth qA.z x x4).f3),.bool ((nth qA.z x x4).f4),.bool ((nth qA.z x x4).f5)]) ?_
  rintro _ u21 a ⟨rfl,hb19,S,hz⟩ E
  refine pld (hK13 _ _ (sq fun K22 hK22=>?_))
  have J40:∀ kq38,kq38≤k7→∀(G:NV)(y36:Bool)(a:Act)(w':World),Env 71 G a→At G [(0,.slice (some ad15) x.length c0_0),(3,iv x4),(67,.bool y36)]→Sm W F w' F [box b19 #[iv ((nth qA.z x x4).f0),iv ((nth qA.z x x4).f1),iv ((nth qA.z x x4).f2),iv ((nth qA.z x x4).f3),.bool ((nth qA.z x x4).f4),.bool ((nth qA.z x x4).f5)] 104]→qh.j37 kq38 x x4 y36=some r→K22 a w':=by
   intro kq38 hkq G y36 a u41 E A S H
   obtain _ | k39:=kq38
   ·
    exact zz H
   rw [qh.j37_s]at H
   obtain ⟨J,E⟩:=E.at A
   refine hK22 _ _ ?_
   refine E.ib 67 H (fun c42 E H=>?_) fun c42 E H=>?_
   ·
    refine rr E fun a E=>(wp_ret (qBc (qBb (qBb (qBc (qBb ?_))))))
    replace S:=S.tail
    obtain rfl:=si H
    exact rt1 E ⟨_,rfl,_,rfl,S⟩
   refine wp_skip ?_
   refine qBd ?_
   refine hK12 _ _ (pl0 (plc E (.r 0 3 .nil) (fun a E=>pld ?_)))
   replace S:=S.tail
   exact qBf ⟨k39,by omega,_,(w64 (x4+1)),by omega,E,.of,S,H⟩
  refine drawn 53 ⟨[],[],fun q=>False⟩ mixed rfl (by kernel_rfl) (fun hst=>?_)
  replace S:=S.drew
  have hb19:=S.ba 0
  refine mny 49 hst E (.r 0 1<|.b 1 0 hb19<|.r 2 2<|.nil) (fun a E=>?_)
  rcases sp H with ⟨c23,H⟩ | ⟨c23,H⟩
  ·
   replace E:=E.kt 18 c23
   refine mny 0 hst E (.r 4 49 .nil) (fun a E=>?_)
   refine dn ?_
   exact J40 _ (by omega) _ true _ _ E .of S H
  replace E:=E.kf 18 c23
  refine mny 44 hst E (.r 4 1<|.b 5 0 hb19<|.r 6 3<|.nil) (fun a E=>?_)
  rcases sp H with ⟨c24,H⟩ | ⟨c24,H⟩
  ·
   replace E:=E.kt 23 c24
   refine mny 0 hst E (.r 9 44 .nil) (fun a E=>?_)
   refine dn ?_
   exact J40 _ (by omega) _ true _ _ E .of S H
  replace E:=E.kf 23 c24
  refine mny 39 hst E (.r 9 1<|.b 10 1 hb19<|.r 11 3<|.nil) (fun a E=>?_)
  rcases sp H with ⟨c25,H⟩ | ⟨c25,H⟩
  ·
   replace E:=E.kt 28 c25
   refine mny 0 hst E (.r 14 39 .nil) (fun a E=>?_)
   refine dn ?_
   exact J40 _ (by omega) _ true _ _ E .of S H
  replace E:=E.kf 28 c25
  refine mny 34 hst E (.r 14 1<|.b 15 1 hb19<|.r 16 3<|.nil) (fun a E=>?_)
  rcases sp H with ⟨c26,H⟩ | ⟨c26,H⟩
  ·
   replace E:=E.kt 33 c26
   refine mny 0 hst E (.r 19 34 .nil) (fun a E=>?_)
   refine dn ?_
   exact J40 _ (by omega) _ true _ _ E .of S H
  replace E:=E.kf 33 c26
  refine mny 29 hst E (.r 19 1<|.b 20 2 hb19<|.r 21 3<|.nil) (fun a E=>?_)
  rcases sp H with ⟨c27,H⟩ | ⟨c27,H⟩
  ·
   replace E:=E.kt 38 c27
   refine mny 0 hst E (.r 24 29 .nil) (fun a E=>?_)
   refine dn ?_
   exact J40 _ (by omega) _ true _ _ E .of S H
  replace E:=E.kf 38 c27
  refine mny 24 hst E (.r 24 1<|.b 25 2 hb19<|.r 26 3<|.nil) (fun a E=>?_)
  rcases sp H with ⟨c28,H⟩ | ⟨c28,H⟩
  ·
   replace E:=E.kt 43 c28
   refine mny 0 hst E (.r 29 24 .nil) (fun a E=>?_)
   refine dn ?_
   exact J40 _ (by omega) _ true _ _ E .of S H
  replace E:=E.kf 43 c28
  refine mny 19 hst E (.r 29 1<|.b 30 3 hb19<|.r 31 3<|.nil) (fun a E=>?_)
  rcases sp H with ⟨c29,H⟩ | ⟨c29,H⟩
  ·
   replace E:=E.kt 48 c29
   refine mny 0 hst E (.r 34 19 .nil) (fun a E=>?_)
   refine dn ?_
   exact J40 _ (by omega) _ true _ _ E .of S H
  replace E:=E.kf 48 c29
  refine mny 14 hst E (.r 34 1<|.b 35 3 hb19<|.r 36 3<|.nil) (fun a E=>?_)
  rcases sp H with ⟨c30,H⟩ | ⟨c30,H⟩
  ·
   replace E:=E.kt 53 c30
   refine mny 0 hst E (.r 39 14 .nil) (fun a E=>?_)
   refine dn ?_
   exact J40 _ (by omega) _ true _ _ E .of S H
  replace E:=E.kf 53 c30
  refine mny 11 hst E (.r 39 3 .nil) (fun a E=>?_)
  rcases sp H with ⟨c31,H⟩ | ⟨c31,H⟩
  ·
   replace E:=E.kt 56 c31
   obtain ⟨c32,H⟩:=gd H
   obtain ⟨cs34,rfl,hc35⟩:=g0_0.el qA.z (w64 (x4 - 1)) c32.1 c32.2
   refine mny 0 hst E (.r 42 3<|.x 45 c32<|.r 46 1<|.c 47 (S.fc hc35 0)<|.r 48 1<|.b 49 0 hb19<|.r 50 3<|.nil) (fun a E=>?_)
   refine dn ?_
   exact J40 _ (by omega) _ (decide ((nth qA.z x (w64 (x4 - 1))).f0≥(nth qA.z x x4).f0)) _ _ E .of S H
  replace E:=E.kf 56 c31
  refine mny 0 hst E (.r 42 11 .nil) (fun a E=>?_)
  refine dn ?_
  exact J40 _ (by omega) _ false _ _ E .of S H
 refine wp_exit ?_
 refine hK2 _ _ (rr E fun a E=>(wp_ret ?_))
 obtain rfl:=si H
 exact rt1 E ⟨_,rfl,_,rfl,S⟩
def qAB.l7:Nat→List qA→Int→Int→Option (qA × Bool)
 | 0,_,_,_=>none
 | k+1,x,y,x6=>if x6<(x.length:Int) then (if 0≤x6∧x6<(x.length:Int) then (if (nth qA.z x x6).f0=y then (some ((nth qA.z x x6),true)) else (qAB.l7 k x y (w64 (x6+1)))) else (none)) else (some ((⟨0,0,0,0,false,false⟩:qA),false))
theorem qAB.l7_s k x y x6:type_of% (qAB.l7.eq_2 x y x6 k):=qAB.l7.eq_2 x y x6 k
def qAB.f(k:Nat)(x:List qA)(y:Int):Option (qA × Bool):=qAB.l7 k x y 0
def qAB.Post(W F:World)(r:qA × Bool)(v:Value)(w':World):Prop:=∃(F':World),v = .tuple #[.agg #[iv r.1.f0,iv r.1.f1,iv r.1.f2,iv r.1.f3,.bool r.1.f4,.bool r.1.f5],.bool r.2]∧Sm W F w' F' []
theorem qAB.calls(k:Nat)(x:List qA)(y:Int)(A0_0:OA)(c0_0:Nat)(r:qA × Bool)(W F:World)(hown:Sub F W)(g0_0:Rd qA.k F A0_0 c0_0 x)(H:qAB.f k x y=some r):
    Cr 75 #[.slice A0_0 x.length c0_0,iv y] W (qAB.Post W F r):=by
 have S:=St.start (Own.nil hown)
 unfold qAB.f at H
 refine ent 25 rfl rfl rfl (fun a E=>?_)
 refine sq fun K1 hK1=>pl0 (ple E (.al (t:=104) S [iv 0,iv 0,iv 0,iv 0,.bool false,.bool false]) ?_)
 rintro _ u3 a ⟨b2,rfl,hb2,S,hg⟩ E
 refine plc E (.r 1 1 .nil) (fun a E=>pld (hK1 _ _ (sq fun K4 hK4=>rr E fun a E=>(wp_block ?_))))
 refine wp_loop_ghost (fun kq8 a w'=>∃(G:NV)(x6:Int),kq8≤k∧Env 25 G a∧At G [(0,.slice A0_0 x.length c0_0),(1,iv y),(4,.pointer (pb b2)),(6,iv x6)]∧Sm W F w' F [box b2 #[iv 0,iv 0,iv 0,iv 0,.bool false,.bool false] 104]∧qAB.l7 kq8 x y x6=some r) k ⟨_,0,Nat.le_refl _,E,.of,S,H⟩ ?_
 rintro kq8 a u10 ⟨G,x6,hkq,E,A,S,H⟩
 obtain _ | k9:=kq8
 ·
  exact zz H
 rw [qAB.l7_s]at H
 obtain ⟨J,E⟩:=E.at A
 refine sq fun K11 hK11=>rr E fun a E=>?_
 refine E.ik 10 H (fun c13 E H=>?_) fun c13 E H=>?_
 ·
  refine wp_skip (hK11 _ _ (sq fun K14 hK14=>wp_block (sq fun K15 hK15=>pl0 ?_)))
  obtain ⟨c16,H⟩:=gd H
  have hE_:=E
  obtain ⟨ad17,rfl⟩:=g0_0.addr c16.1 c16.2
  replace E:=hE_
  obtain ⟨cs19,rfl,hc20⟩:=g0_0.el qA.z x6 c16.1 c16.2
  refine plc E (.r 0 2<|.x 2 c16<|.r 3 1<|.c 4 (S.fc hc20 0)<|.r 5 2<|.nil) (fun a E=>pld (hK15 _ _ ?_))
  refine E.ik 19 H (fun c21 E H=>?_) fun c21 E H=>?_
  ·
   refine sq fun K22 hK22=>pl0 (plc E (.r 0 2<|.x 2 c16<|.cs 3 (S.fcs hc20)<|.nil) (fun a E=>ple E (.sto S [iv ((nth qA.z x x6).f0),iv ((nth qA.z x x6).f1),iv ((nth qA.z x x6).f2),iv ((nth qA.z x x6).f3),.bool ((nth qA.z x x6).f4),.bool ((nth qA.z x x6).f5)]) ?_))
   rintro _ u26 a ⟨rfl,hb2,S,hz⟩ E
   refine plc E (.r 5 1 .nil) (fun a E=>pld (hK22 _ _ (wp_ret (qBc (qBb (qBb (qBc (qBb ?_))))))))
   replace S:=S.tail
   obtain rfl:=si H
   exact retN E rfl (of_decide_eq_true rfl) (.cell (by kernel_rfl) (qBg [iv ((nth qA.z x x6).f0),iv ((nth qA.z x x6).f1),iv ((nth qA.z x x6).f2),iv ((nth qA.z x x6).f3),.bool ((nth qA.z x x6).f4),.bool ((nth qA.z x x6).f5)] ag104 sz104 hb2 rfl) (.tmp (by kernel_rfl) .nil)) ⟨_,rfl,_,rfl,S⟩
  refine wp_skip ?_
  refine qBd ?_
  refine hK14 _ _ (pl0 (plc E (.r 0 3 .nil) (fun a E=>pld ?_)))
  exact qBf ⟨k9,by omega,_,(w64 (x6+1)),by omega,E,.of,S,H⟩
 refine wp_exit ?_
 refine hK4 _ _ (sq fun K27 hK27=>pl0 (plc E (.r 0 1 .nil) (fun a E=>ple E (.sto S [iv 0,iv 0,iv 0,iv 0,.bool false,.bool false]) ?_)))
 rintro _ u28 a ⟨rfl,hb2,S,hz⟩ E
 refine plc E (.r 2 1 .nil) (fun a E=>pld (hK27 _ _ (wp_ret ?_)))
 replace S:=S.tail
 obtain rfl:=si H
 exact retN E rfl (of_decide_eq_true rfl) (.cell (by kernel_rfl) (qBg [iv 0,iv 0,iv 0,iv 0,.bool false,.bool false] ag104 sz104 hb2 rfl) (.tmp (by kernel_rfl) .nil)) ⟨_,rfl,_,rfl,S⟩
mutual
def qg.l5:Nat→List qA→List Int→Int→Option Bool
 | 0,_,_,_=>none
 | k+1,x,y,x4=>if x4<(y.length:Int) then (if 0≤x4∧x4<(y.length:Int) then ((qAB.f k x (nth 0 y x4)).bind fun t20=>(if t20.2=true then (qg.l31 k x y x4 t20 0) else (some false))) else (none)) else (some true)
def qg.l31:Nat→List qA→List Int→Int→qA × Bool→Int→Option Bool
 | 0,_,_,_,_,_=>none
 | k+1,x,y,x4,t20,x30=>if x30<x4 then (if 0≤x30∧x30<(y.length:Int) then ((qAB.f k x (nth 0 y x30)).bind fun t45=>(if t20.1.f1=t45.1.f1 then (some false) else (qg.l31 k x y x4 t20 (w64 (x30+1))))) else (none)) else (qg.l5 k x y (w64 (x4+1)))
end
theorem qg.l5_s k x y x4:type_of% (qg.l5.eq_2 x y x4 k):=qg.l5.eq_2 x y x4 k
theorem qg.l31_s k x y x4 t20 x30:type_of% (qg.l31.eq_2 x y x4 t20 x30 k):=qg.l31.eq_2 x y x4 t20 x30 k
def qg.f(k:Nat)(x:List qA)(y:List Int):Option Bool:=qg.l5 k x y 0
def qg.Post(W F:World)(r:Bool)(v:Value)(w':World):Prop:=∃(F':World),v = .bool r∧Sm W F w' F' []
theorem qg.calls(k:Nat)(x:List qA)(y:List Int)(A0_0:OA)(c0_0:Nat)(A1_0:OA)(c1_0:Nat)(r:Bool)(W F:World)(hown:Sub F W)(g0_0:Rd qA.k F A0_0 c0_0 x)(g1_0:Rd ki F A1_0 c1_0 y)(H:qg.f k x y=some r):
    Cr 68 #[.slice A0_0 x.length c0_0,.slice A1_0 y.length c1_0] W (qg.Post W F r):=by
 have S:=St.start (Own.nil hown)
 unfold qg.f at H
 refine ent 47 rfl rfl rfl (fun a E=>?_)
 refine rr E fun a E=>(sq fun K2 hK2=>rr E fun a E=>(wp_block ?_))
 refine wp_loop_ghost (fun kq6 a w'=>∃(G:NV)(x4:Int),kq6≤k∧Env 47 G a∧At G [(0,.slice A0_0 x.length c0_0),(1,.slice A1_0 y.length c1_0),(5,iv x4)]∧Sm W F w' F []∧qg.l5 kq6 x y x4=some r) k ⟨_,0,Nat.le_refl _,E,.of,S,H⟩ ?_
 rintro kq6 a u8 ⟨G,x4,hkq,E,A,S,H⟩
 obtain _ | k7:=kq6
 ·
  exact zz H
 rw [qg.l5_s]at H
 obtain ⟨J,E⟩:=E.at A
 refine sq fun K9 hK9=>rr E fun a E=>?_
 refine E.ik 14 H (fun c11 E H=>?_) fun c11 E H=>?_
 ·
  refine wp_skip (hK9 _ _ (sq fun K12 hK12=>wp_block (sq fun K13 hK13=>pl0 ?_)))
  obtain ⟨c14,H⟩:=gd H
  have hE_:=E
  obtain ⟨ad15,rfl⟩:=g1_0.addr c14.1 c14.2
  replace E:=hE_
  obtain ⟨cs17,rfl,hc18⟩:=g1_0.el 0 x4 c14.1 c14.2
  refine plc E (.r 0 3<|.x 3 c14<|.c 4 (S.fc hc18 0)<|.nil) (fun a E=>?_)
  obtain ⟨t20,h21,H⟩:=bd H
  refine ple E (.cl en75 (qAB.calls k7 x (nth 0 y x4) _ _ _ _ _ S.own.sub g0_0 h21)) ?_
  rintro _ u19 a ⟨_,rfl,hC⟩ E
  replace S:=S.lent hC
  refine plc E (.r 6 3 .nil) (fun a E=>ple E (.al (t:=104) S [iv 0,iv 0,iv 0,iv 0,.bool false,.bool false]) ?_)
  rintro _ u23 a ⟨b22,rfl,hb22,S,hg⟩ E
  refine ple E (.sto S [iv t20.1.f0,iv t20.1.f1,iv t20.1.f2,iv t20.1.f3,.bool t20.1.f4,.bool t20.1.f5]) ?_
  rintro _ u24 a ⟨rfl,hb22,S,hz⟩ E
  refine plc E (.r 11 1 .nil) (fun a E=>pld (hK13 _ _ (sq fun K25 hK25=>rr E fun a E=>?_)))
  refine E.ibn 27 H (fun c27 E H=>?_) fun c27 E H=>?_
  ·
   refine wp_skip (hK25 _ _ (rr E fun a E=>(wp_block ?_)))
   refine wp_loop_ghost (fun kq32 a w'=>∃(G:NV)(x30:Int),kq32≤k7∧Env 47 G a∧At G [(0,.slice A0_0 x.length c0_0),(1,.slice (some ad15) y.length c1_0),(5,iv x4),(6,.pointer (pb b22)),(8,iv x30)]∧Sm W F w' F [box b22 #[iv t20.1.f0,iv t20.1.f1,iv t20.1.f2,iv t20.1.f3,.bool t20.1.f4,.bool t20.1.f5] 104]∧qg.l31 kq32 x y x4 t20 x30=some r) k7 ⟨_,0,Nat.le_refl _,E,.of,S,H⟩ ?_
   rintro kq32 a u34 ⟨G,x30,hkq,E,A,S,H⟩
   obtain _ | k33:=kq32
   ·
    exact zz H
   rw [qg.l31_s]at H
   obtain ⟨J,E⟩:=E.at A
   refine sq fun K35 hK35=>rr E fun a E=>?_
   refine E.ik 30 H (fun c37 E H=>?_) fun c37 E H=>?_
   ·
    refine wp_skip (hK35 _ _ (sq fun K38 hK38=>wp_block (sq fun K39 hK39=>pl0 ?_)))
    obtain ⟨c40,H⟩:=gd H
    obtain ⟨cs42,rfl,hc43⟩:=g1_0.el 0 x30 c40.1 c40.2
    refine plc E (.r 0 3<|.x 3 c40<|.c 4 (S.fc hc43 0)<|.nil) (fun a E=>?_)
    obtain ⟨t45,h46,H⟩:=bd H
    refine ple E (.cl en75 (qAB.calls k33 x (nth 0 y x30) _ _ _ _ _ S.own.sub g0_0 h46)) ?_
    rintro _ u44 a ⟨_,rfl,hC⟩ E
    replace S:=S.lent hC
    refine plc E (.r 6 3 .nil) (fun a E=>ple E (.al (t:=104) S [iv 0,iv 0,iv 0,iv 0,.bool false,.bool false]) ?_)
    rintro _ u48 a ⟨b47,rfl,hb47,S,hg⟩ E
    refine ple E (.sto S [iv t45.1.f0,iv t45.1.f1,iv t45.1.f2,iv t45.1.f3,.bool t45.1.f4,.bool t45.1.f5]) ?_
    rintro _ u49 a ⟨rfl,hb47,S,hz⟩ E
    refine plc E (.r 11 1 .nil) (fun a E=>pld (hK39 _ _ (sq fun K50 hK50=>pl0 ?_)))
    have hb22:=S.ba 1
    refine plc E (.r 0 1<|.b 1 1 hb22<|.r 2 1<|.b 3 1 hb47<|.r 4 1<|.nil) (fun a E=>pld (hK50 _ _ ?_))
    refine E.ik 46 H (fun c51 E H=>?_) fun c51 E H=>?_
    ·
     refine rr E fun a E=>(wp_ret (qBc (qBb (qBb (qBc (qBc (qBb (qBb (qBc (qBb ?_))))))))))
     replace S:=S.pm [] 2
     obtain rfl:=si H
     exact rt1 E ⟨_,rfl,_,rfl,S⟩
    refine wp_skip ?_
    refine qBd ?_
    refine hK38 _ _ (pl0 (plc E (.r 0 3 .nil) (fun a E=>pld ?_)))
    replace S:=S.tail
    exact qBf ⟨k33,by omega,_,(w64 (x30+1)),by omega,E,.of,S,H⟩
   refine wp_exit ?_
   refine hK12 _ _ (pl0 (plc E (.r 0 3 .nil) (fun a E=>pld ?_)))
   replace S:=S.tail
   exact qBf ⟨k33,by omega,_,(w64 (x4+1)),by omega,E,.of,S,H⟩
  refine rr E fun a E=>(wp_ret (qBb (qBc (qBb (qBb (qBc (qBb ?_)))))))
  replace S:=S.tail
  obtain rfl:=si H
  exact rt1 E ⟨_,rfl,_,rfl,S⟩
 refine wp_exit ?_
 refine hK2 _ _ (rr E fun a E=>(wp_ret ?_))
 obtain rfl:=si H
 exact rt1 E ⟨_,rfl,_,rfl,S⟩
mutual
def qH.l7:Nat→qF→Int→Option Bool
 | 0,_,_=>none
 | k+1,x,x6=>if x6<(x.f6.length:Int) then (if 0≤x6∧x6<(x.f6.length:Int) then (if (nth qC.z x.f6 x6).f0<0 then (qH.j31 k x x6 true) else (qH.j31 k x x6 (decide ((nth qC.z x.f6 x6).f0>x.f0)))) else (none)) else (some ((x.f6.length:Int) == x.f3))
def qH.j31:Nat→qF→Int→Bool→Option Bool
 | 0,_,_,_=>none
 | k+1,x,x6,y30=>if y30=true then (some false) else (qH.l40 k x x6 0)
def qH.l40:Nat→qF→Int→Int→Option Bool
 | 0,_,_,_=>none
 | k+1,x,x6,x39=>if x39<(((nth qC.z x.f6 x6).f1).length:Int) then (if 0≤x39∧x39<(((nth qC.z x.f6 x6).f1).length:Int) then (if (nth qE.z ((nth qC.z x.f6 x6).f1) x39).f0<0 then (qH.j66 k x x6 x39 true) else (if (nth qE.z ((nth qC.z x.f6 x6).f1) x39).f0≥(nth qC.z x.f6 x6).f0 then (qH.j66 k x x6 x39 true) else (if (((nth qE.z ((nth qC.z x.f6 x6).f1) x39).f1).length:Int)<x.f2 then (qH.j66 k x x6 x39 true) else (qH.j66 k x x6 x39 (decide ((((nth qE.z ((nth qC.z x.f6 x6).f1) x39).f1).length:Int)>x.f1)))))) else (none)) else (qH.l7 k x (w64 (x6+1)))
def qH.j66:Nat→qF→Int→Int→Bool→Option Bool
 | 0,_,_,_,_=>none
 | k+1,x,x6,x39,y65=>if y65=true then (some false) else (qH.l76 k x x6 x39 0)
def qH.l76:Nat→qF→Int→Int→Int→Option Bool
 | 0,_,_,_,_=>none
 | k+1,x,x6,x39,x75=>if x75<(((nth qE.z ((nth qC.z x.f6 x6).f1) x39).f1).length:Int) then (if 0≤x75∧x75<(((nth qE.z ((nth qC.z x.f6 x6).f1) x39).f1).length:Int) then (if (nth 0 ((nth qE.z ((nth qC.z x.f6 x6).f1) x39).f1) x75)<1 then (qH.j104 k x x6 x39 x75 true) else (if (nth 0 ((nth qE.z ((nth qC.z x.f6 x6).f1) x39).f1) x75)>999 then (qH.j104 k x x6 x39 x75 true) else (if x75>0 then (if 0≤(w64 (x75 - 1))∧(w64 (x75 - 1))<(((nth qE.z ((nth qC.z x.f6 x6).f1) x39).f1).length:Int) then (qH.j104 k x x6 x39 x75 (decide ((nth 0 ((nth qE.z ((nth qC.z x.f6 x6).f1) x39).f1) (w64 (x75 - 1)))≥(nth 0 ((nth qE.z ((nth qC.z x.f6 x6).f1) x39).f1) x75)))) else (none)) else (qH.j104 k x x6 x39 x75 false)))) else (none)) else (qH.l113 k x x6 x39 0)
def qH.j104:Nat→qF→Int→Int→Int→Bool→Option Bool
 | 0,_,_,_,_,_=>none
 | k+1,x,x6,x39,x75,y103=>if y103=true then (some false) else (qH.l76 k x x6 x39 (w64 (x75+1)))
def qH.l113:Nat→qF→Int→Int→Int→Option Bool
 | 0,_,_,_,_=>none
 | k+1,x,x6,x39,x112=>if x112<x39 then (if 0≤x112∧x112<(((nth qC.z x.f6 x6).f1).length:Int) then (if (nth qE.z ((nth qC.z x.f6 x6).f1) x112).f0≥(nth qE.z ((nth qC.z x.f6 x6).f1) x39).f0 then (qH.j137 k x x6 x39 x112 true) else ((qm.f k ((nth qE.z ((nth qC.z x.f6 x6).f1) x112).f1) ((nth qE.z ((nth qC.z x.f6 x6).f1) x39).f1)).bind fun t134=>(qH.j137 k x x6 x39 x112 t134))) else (none)) else (qH.l40 k x x6 (w64 (x39+1)))
def qH.j137:Nat→qF→Int→Int→Int→Bool→Option Bool
 | 0,_,_,_,_,_=>none
 | k+1,x,x6,x39,x112,y136=>if y136=true then (some false) else (qH.l113 k x x6 x39 (w64 (x112+1)))
end
theorem qH.l7_s k x x6:type_of% (qH.l7.eq_2 x x6 k):=qH.l7.eq_2 x x6 k
theorem qH.j31_s k x x6 y30:type_of% (qH.j31.eq_2 x x6 y30 k):=qH.j31.eq_2 x x6 y30 k
theorem qH.l40_s k x x6 x39:type_of% (qH.l40.eq_2 x x6 x39 k):=qH.l40.eq_2 x x6 x39 k
theorem qH.j66_s k x x6 x39 y65:type_of% (qH.j66.eq_2 x x6 x39 y65 k):=qH.j66.eq_2 x x6 x39 y65 k
theorem qH.l76_s k x x6 x39 x75:type_of% (qH.l76.eq_2 x x6 x39 x75 k):=qH.l76.eq_2 x x6 x39 x75 k
theorem qH.j104_s k x x6 x39 x75 y103:type_of% (qH.j104.eq_2 x x6 x39 x75 y103 k):=qH.j104.eq_2 x x6 x39 x75 y103 k
theorem qH.l113_s k x x6 x39 x112:type_of% (qH.l113.eq_2 x x6 x39 x112 k):=qH.l113.eq_2 x x6 x39 x112 k
theorem qH.j137_s k x x6 x39 x112 y136:type_of% (qH.j137.eq_2 x x6 x39 x112 y136 k):=qH.j137.eq_2 x x6 x39 x112 y136 k
def qH.f(k:Nat)(x:qF):Option Bool:=qH.l7 k x 0
def qH.Post(W F:World)(r:Bool)(v:Value)(w':World):Prop:=∃(F':World),v = .bool r∧Sm W F w' F' []
theorem qH.calls(k:Nat)(x:qF)(A0_4:OA)(c0_4:Nat)(A0_5:OA)(c0_5:Nat)(A0_6:OA)(c0_6:Nat)(r:Bool)(W F:World)(hown:Sub F W)(g0_4:Rd qA.k F A0_4 c0_4 x.f4)(g0_5:Rd qD.k F A0_5 c0_5 x.f5)(g0_6:Rd qC.k F A0_6 c0_6 x.f6)(H:qH.f k x=some r):
    Cr 69 #[.agg #[iv x.f0,iv x.f1,iv x.f2,iv x.f3,.slice A0_4 x.f4.length c0_4,.slice A0_5 x.f5.length c0_5,.slice A0_6 x.f6.length c0_6]] W (qH.Post W F r):=by
 have S:=St.start (Own.nil hown)
 unfold qH.f at H
 refine ent 139 rfl rfl rfl (fun a E=>?_)
 refine sq fun K1 hK1=>pl0 (ple E (.bx (t:=26) S [iv x.f0,iv x.f1,iv x.f2,iv x.f3,.slice A0_4 x.f4.length c0_4,.slice A0_5 x.f5.length c0_5,.slice A0_6 x.f6.length c0_6]) ?_)
 rintro _ u3 a ⟨b2,rfl,hb2,S,hg⟩ E
 refine plc E (.r 1 1 .nil) (fun a E=>pld (hK1 _ _ (sq fun K4 hK4=>rr E fun a E=>(wp_block ?_))))
 refine wp_loop_ghost (fun kq8 a w'=>∃(G:NV)(x6:Int),kq8≤k∧Env 139 G a∧At G [(1,.pointer (pb b2)),(3,iv x6)]∧Sm W F w' F [box b2 #[iv x.f0,iv x.f1,iv x.f2,iv x.f3,.slice A0_4 x.f4.length c0_4,.slice A0_5 x.f5.length c0_5,.slice A0_6 x.f6.length c0_6] 26]∧qH.l7 kq8 x x6=some r) k ⟨_,0,Nat.le_refl _,E,.of,S,H⟩ ?_
 rintro kq8 a u10 ⟨G,x6,hkq,E,A,S,H⟩
 obtain _ | k9:=kq8
 ·
  exact zz H
 rw [qH.l7_s]at H
 obtain ⟨J,E⟩:=E.at A
 refine sq fun K11 hK11=>sq fun K12 hK12=>pl0 ?_
 have hb2:=S.ba 0
 refine plc E (.r 0 2<|.b 2 6 hb2<|.r 3 2<|.nil) (fun a E=>pld (hK12 _ _ ?_))
 refine E.ik 13 H (fun c13 E H=>?_) fun c13 E H=>?_
 ·
  refine wp_skip (hK11 _ _ (sq fun K14 hK14=>wp_block (sq fun K15 hK15=>pl0 ?_)))
  obtain ⟨c16,H⟩:=gd H
  have hE_:=E
  obtain ⟨ad17,rfl⟩:=g0_6.addr c16.1 c16.2
  replace E:=hE_
  obtain ⟨cs19,⟨A21,c22,rfl,g23⟩,hc20⟩:=g0_6.el qC.z x6 c16.1 c16.2
  refine plc E (.r 0 1<|.b 1 6 hb2<|.r 2 1<|.x 3 c16<|.cs 4 (S.fcs hc20)<|.nil) (fun a E=>ple E (.al (t:=49) S [iv 0,.slice none 0 0]) ?_)
  rintro _ u25 a ⟨b24,rfl,hb24,S,hg⟩ E
  refine ple E (.sto S [iv ((nth qC.z x.f6 x6).f0),.slice A21 (((nth qC.z x.f6 x6).f1).length) c22]) ?_
  rintro _ u26 a ⟨rfl,hb24,S,hz⟩ E
  refine pld (hK15 _ _ (sq fun K27 hK27=>sq fun K28 hK28=>?_))
  have J34:∀ kq32,kq32≤k9→∀(G:NV)(y30:Bool)(a:Act)(w':World),Env 139 G a→At G [(1,.pointer (pb b2)),(3,iv x6),(4,.pointer (pb b24)),(30,.bool y30)]→Sm W F w' F [box b24 #[iv ((nth qC.z x.f6 x6).f0),.slice A21 (((nth qC.z x.f6 x6).f1).length) c22] 49,box b2 #[iv x.f0,iv x.f1,iv x.f2,iv x.f3,.slice A0_4 x.f4.length c0_4,.slice A0_5 x.f5.length c0_5,.slice (some ad17) x.f6.length c0_6] 26]→qH.j31 kq32 x x6 y30=some r→K28 a w':=by
   intro kq32 hkq G y30 a u35 E A S H
   obtain _ | k33:=kq32
   ·
    exact zz H
   rw [qH.j31_s]at H
   obtain ⟨J,E⟩:=E.at A
   refine hK28 _ _ ?_
   refine E.ib 30 H (fun c36 E H=>?_) fun c36 E H=>?_
   ·
    refine rr E fun a E=>(wp_ret (qBb (qBc (qBb (qBb (qBc (qBb ?_)))))))
    replace S:=S.pm [] 2
    obtain rfl:=si H
    exact rt1 E ⟨_,rfl,_,rfl,S⟩
   refine wp_skip (hK27 _ _ (rr E fun a E=>(wp_block ?_)))
   refine wp_loop_ghost (fun kq41 a w'=>∃(G:NV)(x39:Int),kq41≤k33∧Env 139 G a∧At G [(1,.pointer (pb b2)),(3,iv x6),(4,.pointer (pb b24)),(5,iv x39)]∧Sm W F w' F [box b24 #[iv ((nth qC.z x.f6 x6).f0),.slice A21 (((nth qC.z x.f6 x6).f1).length) c22] 49,box b2 #[iv x.f0,iv x.f1,iv x.f2,iv x.f3,.slice A0_4 x.f4.length c0_4,.slice A0_5 x.f5.length c0_5,.slice (some ad17) x.f6.length c0_6] 26]∧qH.l40 kq41 x x6 x39=some r) k33 ⟨_,0,Nat.le_refl _,E,.of,S,H⟩ ?_
   rintro kq41 a u43 ⟨G,x39,hkq,E,A,S,H⟩
   obtain _ | k42:=kq41
   ·
    exact zz H
   rw [qH.l40_s]at H
   obtain ⟨J,E⟩:=E.at A
   refine sq fun K44 hK44=>sq fun K45 hK45=>pl0 ?_
   have hb24:=S.ba 0
   refine plc E (.r 0 2<|.b 2 1 hb24<|.r 3 2<|.nil) (fun a E=>pld (hK45 _ _ ?_))
   refine E.ik 35 H (fun c46 E H=>?_) fun c46 E H=>?_
   ·
    refine wp_skip (hK44 _ _ (sq fun K47 hK47=>wp_block (sq fun K48 hK48=>pl0 ?_)))
    obtain ⟨c49,H⟩:=gd H
    have hE_:=E
    obtain ⟨ad50,rfl⟩:=g23.addr c49.1 c49.2
    replace E:=hE_
    obtain ⟨cs52,⟨A54,c55,rfl,g56⟩,hc53⟩:=g23.el qE.z x39 c49.1 c49.2
    refine plc E (.r 0 1<|.b 1 1 hb24<|.r 2 1<|.x 3 c49<|.cs 4 (S.fcs hc53)<|.nil) (fun a E=>ple E (.al (t:=51) S [iv 0,.slice none 0 0]) ?_)
    rintro _ u58 a ⟨b57,rfl,hb57,S,hg⟩ E
    refine ple E (.sto S [iv ((nth qE.z ((nth qC.z x.f6 x6).f1) x39).f0),.slice A54 (((nth qE.z ((nth qC.z x.f6 x6).f1) x39).f1).length) c55]) ?_
    rintro _ u59 a ⟨rfl,hb57,S,hz⟩ E
    refine pld (hK48 _ _ (sq fun K60 hK60=>sq fun K61 hK61=>?_))
    have J69:∀ kq67,kq67≤k42→∀(G:NV)(y65:Bool)(a:Act)(w':World),Env 139 G a→At G [(1,.pointer (pb b2)),(3,iv x6),(4,.pointer (pb b24)),(5,iv x39),(6,.pointer (pb b57)),(68,.bool y65)]→Sm W F w' F [box b57 #[iv ((nth qE.z ((nth qC.z x.f6 x6).f1) x39).f0),.slice A54 (((nth qE.z ((nth qC.z x.f6 x6).f1) x39).f1).length) c55] 51,box b24 #[iv ((nth qC.z x.f6 x6).f0),.slice (some ad50) (((nth qC.z x.f6 x6).f1).length) c22] 49,box b2 #[iv x.f0,iv x.f1,iv x.f2,iv x.f3,.slice A0_4 x.f4.length c0_4,.slice A0_5 x.f5.length c0_5,.slice (some ad17) x.f6.length c0_6] 26]→qH.j66 kq67 x x6 x39 y65=some r→K61 a w':=by
     intro kq67 hkq G y65 a u70 E A S H
     obtain _ | k68:=kq67
     ·
      exact zz H
     rw [qH.j66_s]at H
     obtain ⟨J,E⟩:=E.at A
     refine hK61 _ _ ?_
     refine E.ib 68 H (fun c71 E H=>?_) fun c71 E H=>?_
     ·
      refine rr E fun a E=>(wp_ret (qBb (qBc (qBb (qBb (qBc (qBc (qBb (qBb (qBc (qBb ?_)))))))))))
      replace S:=S.pm [] 3
      obtain rfl:=si H
      exact rt1 E ⟨_,rfl,_,rfl,S⟩
     refine wp_skip (hK60 _ _ (sq fun K73 hK73=>rr E fun a E=>(wp_block ?_)))
     refine wp_loop_ghost (fun kq77 a w'=>∃(G:NV)(x75:Int),kq77≤k68∧Env 139 G a∧At G [(1,.pointer (pb b2)),(3,iv x6),(4,.pointer (pb b24)),(5,iv x39),(6,.pointer (pb b57)),(7,iv x75)]∧Sm W F w' F [box b57 #[iv ((nth qE.z ((nth qC.z x.f6 x6).f1) x39).f0),.slice A54 (((nth qE.z ((nth qC.z x.f6 x6).f1) x39).f1).length) c55] 51,box b24 #[iv ((nth qC.z x.f6 x6).f0),.slice (some ad50) (((nth qC.z x.f6 x6).f1).length) c22] 49,box b2 #[iv x.f0,iv x.f1,iv x.f2,iv x.f3,.slice A0_4 x.f4.length c0_4,.slice A0_5 x.f5.length c0_5,.slice (some ad17) x.f6.length c0_6] 26]∧qH.l76 kq77 x x6 x39 x75=some r) k68 ⟨_,0,Nat.le_refl _,E,.of,S,H⟩ ?_
     rintro kq77 a u79 ⟨G,x75,hkq,E,A,S,H⟩
     obtain _ | k78:=kq77
     ·
      exact zz H
     rw [qH.l76_s]at H
     obtain ⟨J,E⟩:=E.at A
     refine sq fun K80 hK80=>sq fun K81 hK81=>pl0 ?_
     have hb57:=S.ba 0
     refine plc E (.r 0 2<|.b 2 1 hb57<|.r 3 2<|.nil) (fun a E=>pld (hK81 _ _ ?_))
     refine E.ik 73 H (fun c82 E H=>?_) fun c82 E H=>?_
     ·
      refine wp_skip (hK80 _ _ (sq fun K83 hK83=>wp_block (sq fun K84 hK84=>?_)))
      have J107:∀ kq105,kq105≤k78→∀(G:NV)(y103:Bool)(a:Act)(w':World),Env 139 G a→At G [(1,.pointer (pb b2)),(3,iv x6),(4,.pointer (pb b24)),(5,iv x39),(6,.pointer (pb b57)),(7,iv x75),(107,.bool y103)]→Sm W F w' F [box b57 #[iv ((nth qE.z ((nth qC.z x.f6 x6).f1) x39).f0),.slice A54 (((nth qE.z ((nth qC.z x.f6 x6).f1) x39).f1).length) c55] 51,box b24 #[iv ((nth qC.z x.f6 x6).f0),.slice (some ad50) (((nth qC.z x.f6 x6).f1).length) c22] 49,box b2 #[iv x.f0,iv x.f1,iv x.f2,iv x.f3,.slice A0_4 x.f4.length c0_4,.slice A0_5 x.f5.length c0_5,.slice (some ad17) x.f6.length c0_6] 26]→qH.j104 kq105 x x6 x39 x75 y103=some r→K84 a w':=by
       intro kq105 hkq G y103 a u108 E A S H
       obtain _ | k106:=kq105
       ·
        exact zz H
       rw [qH.j104_s]at H
       obtain ⟨J,E⟩:=E.at A
       refine hK84 _ _ ?_
       refine E.ib 107 H (fun c109 E H=>?_) fun c109 E H=>?_
       ·
        refine rr E fun a E=>(wp_ret (qBc (qBb (qBb (qBc (qBb (qBc (qBb (qBb (qBc (qBc (qBb (qBb (qBc (qBb ?_)))))))))))))))
        replace S:=S.pm [] 3
        obtain rfl:=si H
        exact rt1 E ⟨_,rfl,_,rfl,S⟩
       refine wp_skip ?_
       refine qBd ?_
       refine hK83 _ _ (pl0 (plc E (.r 0 3 .nil) (fun a E=>pld ?_)))
       exact qBf ⟨k106,by omega,_,(w64 (x75+1)),by omega,E,.of,S,H⟩
      refine drawn 32 ⟨[],[],fun q=>False⟩ mixed rfl (by kernel_rfl) (fun hst=>?_)
      replace S:=S.drew
      have hb57:=S.ba 0
      obtain ⟨c85,H⟩:=gd H
      have hE_:=E
      obtain ⟨ad86,rfl⟩:=g56.addr c85.1 c85.2
      replace E:=hE_
      obtain ⟨cs88,rfl,hc89⟩:=g56.el 0 x75 c85.1 c85.2
      refine mny 25 hst E (.r 0 1<|.b 1 1 hb57<|.r 2 1<|.x 3 c85<|.c 4 (S.fc hc89 0)<|.r 5 2<|.nil) (fun a E=>?_)
      rcases sp H with ⟨c90,H⟩ | ⟨c90,H⟩
      ·
       replace E:=E.kt 82 c90
       refine mny 0 hst E (.r 7 25 .nil) (fun a E=>?_)
       refine dn ?_
       exact J107 _ (by omega) _ true _ _ E .of S H
      replace E:=E.kf 82 c90
      refine mny 17 hst E (.r 7 1<|.b 8 1 hb57<|.r 9 1<|.x 10 c85<|.c 11 (S.fc hc89 0)<|.r 12 3<|.nil) (fun a E=>?_)
      rcases sp H with ⟨c94,H⟩ | ⟨c94,H⟩
      ·
       replace E:=E.kt 90 c94
       refine mny 0 hst E (.r 15 17 .nil) (fun a E=>?_)
       refine dn ?_
       exact J107 _ (by omega) _ true _ _ E .of S H
      replace E:=E.kf 90 c94
      refine mny 14 hst E (.r 15 3 .nil) (fun a E=>?_)
      rcases sp H with ⟨c95,H⟩ | ⟨c95,H⟩
      ·
       replace E:=E.kt 93 c95
       obtain ⟨c96,H⟩:=gd H
       obtain ⟨cs98,rfl,hc99⟩:=g56.el 0 (w64 (x75 - 1)) c96.1 c96.2
       refine mny 0 hst E (.r 18 1<|.b 19 1 hb57<|.r 20 2<|.x 22 c96<|.c 23 (S.fc hc99 0)<|.r 24 1<|.b 25 1 hb57<|.r 26 1<|.x 27 c85<|.c 28 (S.fc hc89 0)<|.r 29 3<|.nil) (fun a E=>?_)
       refine dn ?_
       exact J107 _ (by omega) _ (decide ((nth 0 ((nth qE.z ((nth qC.z x.f6 x6).f1) x39).f1) (w64 (x75 - 1)))≥(nth 0 ((nth qE.z ((nth qC.z x.f6 x6).f1) x39).f1) x75))) _ _ E .of S H
      replace E:=E.kf 93 c95
      refine mny 0 hst E (.r 18 14 .nil) (fun a E=>?_)
      refine dn ?_
      exact J107 _ (by omega) _ false _ _ E .of S H
     refine wp_exit ?_
     refine hK73 _ _ (rr E fun a E=>(wp_block ?_))
     refine wp_loop_ghost (fun kq114 a w'=>∃(G:NV)(x112:Int),kq114≤k78∧Env 139 G a∧At G [(1,.pointer (pb b2)),(3,iv x6),(4,.pointer (pb b24)),(5,iv x39),(6,.pointer (pb b57)),(8,iv x112)]∧Sm W F w' F [box b57 #[iv ((nth qE.z ((nth qC.z x.f6 x6).f1) x39).f0),.slice A54 (((nth qE.z ((nth qC.z x.f6 x6).f1) x39).f1).length) c55] 51,box b24 #[iv ((nth qC.z x.f6 x6).f0),.slice (some ad50) (((nth qC.z x.f6 x6).f1).length) c22] 49,box b2 #[iv x.f0,iv x.f1,iv x.f2,iv x.f3,.slice A0_4 x.f4.length c0_4,.slice A0_5 x.f5.length c0_5,.slice (some ad17) x.f6.length c0_6] 26]∧qH.l113 kq114 x x6 x39 x112=some r) k78 ⟨_,0,Nat.le_refl _,E,.of,S,H⟩ ?_
     rintro kq114 a u116 ⟨G,x112,hkq,E,A,S,H⟩
     obtain _ | k115:=kq114
     ·
      exact zz H
     rw [qH.l113_s]at H
     obtain ⟨J,E⟩:=E.at A
     refine sq fun K117 hK117=>rr E fun a E=>?_
     refine E.ik 110 H (fun c119 E H=>?_) fun c119 E H=>?_
     ·
      refine wp_skip (hK117 _ _ (sq fun K120 hK120=>wp_block (sq fun K121 hK121=>?_)))
      have J140:∀ kq138,kq138≤k115→∀(G:NV)(y136:Bool)(a:Act)(w':World),Env 139 G a→At G [(1,.pointer (pb b2)),(3,iv x6),(4,.pointer (pb b24)),(5,iv x39),(6,.pointer (pb b57)),(8,iv x112),(132,.bool y136)]→Sm W F w' F [box b57 #[iv ((nth qE.z ((nth qC.z x.f6 x6).f1) x39).f0),.slice A54 (((nth qE.z ((nth qC.z x.f6 x6).f1) x39).f1).length) c55] 51,box b24 #[iv ((nth qC.z x.f6 x6).f0),.slice (some ad50) (((nth qC.z x.f6 x6).f1).length) c22] 49,box b2 #[iv x.f0,iv x.f1,iv x.f2,iv x.f3,.slice A0_4 x.f4.length c0_4,.slice A0_5 x.f5.length c0_5,.slice (some ad17) x.f6.length c0_6] 26]→qH.j137 kq138 x x6 x39 x112 y136=some r→K121 a w':=by
       intro kq138 hkq G y136 a u141 E A S H
       obtain _ | k139:=kq138
       ·
        exact zz H
       rw [qH.j137_s]at H
       obtain ⟨J,E⟩:=E.at A
       refine hK121 _ _ ?_
       refine E.ib 132 H (fun c142 E H=>?_) fun c142 E H=>?_
       ·
        refine rr E fun a E=>(wp_ret (qBc (qBb (qBb (qBc (qBc (qBb (qBb (qBc (qBc (qBb (qBb (qBc (qBb ?_))))))))))))))
        replace S:=S.pm [] 3
        obtain rfl:=si H
        exact rt1 E ⟨_,rfl,_,rfl,S⟩
       refine wp_skip ?_
       refine qBd ?_
       refine hK120 _ _ (pl0 (plc E (.r 0 3 .nil) (fun a E=>pld ?_)))
       exact qBf ⟨k139,by omega,_,(w64 (x112+1)),by omega,E,.of,S,H⟩
      refine drawn 20 ⟨[],[],fun q=>False⟩ mixed rfl (by kernel_rfl) (fun hst=>?_)
      replace S:=S.drew
      have hb24:=S.ba 1
      obtain ⟨c122,H⟩:=gd H
      obtain ⟨cs124,⟨A126,c127,rfl,g128⟩,hc125⟩:=g23.el qE.z x112 c122.1 c122.2
      have hb57:=S.ba 0
      refine mny 10 hst E (.r 0 1<|.b 1 1 hb24<|.r 2 1<|.x 3 c122<|.r 4 1<|.c 5 (S.fc hc125 0)<|.r 6 1<|.b 7 0 hb57<|.r 8 2<|.nil) (fun a E=>?_)
      rcases sp H with ⟨c129,H⟩ | ⟨c129,H⟩
      ·
       replace E:=E.kt 122 c129
       refine mny 0 hst E (.r 10 10 .nil) (fun a E=>?_)
       refine dn ?_
       exact J140 _ (by omega) _ true _ _ E .of S H
      replace E:=E.kf 122 c129
      refine mny 2 hst E (.r 10 1<|.b 11 1 hb24<|.r 12 1<|.x 13 c122<|.r 14 1<|.c 15 (S.fc hc125 1)<|.r 16 1<|.b 17 1 hb57<|.nil) (fun a E=>?_)
      obtain ⟨t134,h135,H⟩:=bd H
      refine on1 18 E (.cl en21 (qm.calls k115 ((nth qE.z ((nth qC.z x.f6 x6).f1) x112).f1) ((nth qE.z ((nth qC.z x.f6 x6).f1) x39).f1) _ _ _ _ _ _ _ S.own.sub g128 g56 h135)) ?_
      rintro _ u133 a ⟨_,rfl,hC⟩ E
      refine ⟨.of hC.agr,?_⟩
      replace S:=S.lent hC
      refine mny 0 hst E (.r 19 1 .nil) (fun a E=>?_)
      refine dn ?_
      exact J140 _ (by omega) _ t134 _ _ E .of S H
     refine wp_exit ?_
     refine hK47 _ _ (pl0 (plc E (.r 0 3 .nil) (fun a E=>pld ?_)))
     replace S:=S.tail
     exact qBf ⟨k115,by omega,_,(w64 (x39+1)),by omega,E,.of,S,H⟩
    refine pl0 (plc E (.r 0 1<|.b 1 0 hb57<|.r 2 2<|.nil) (fun a E=>?_))
    rcases sp H with ⟨c62,H⟩ | ⟨c62,H⟩
    ·
     replace E:=E.kt 46 c62
     refine plc E (.r 4 22 .nil) (fun a E=>pld ?_)
     exact J69 _ (by omega) _ true _ _ E .of S H
    replace E:=E.kf 46 c62
    have hb24:=S.ba 1
    refine plc E (.r 4 1<|.b 5 0 hb57<|.r 6 1<|.b 7 0 hb24<|.r 8 3<|.nil) (fun a E=>?_)
    rcases sp H with ⟨c63,H⟩ | ⟨c63,H⟩
    ·
     replace E:=E.kt 53 c63
     refine plc E (.r 11 15 .nil) (fun a E=>pld ?_)
     exact J69 _ (by omega) _ true _ _ E .of S H
    replace E:=E.kf 53 c63
    have hb2:=S.ba 2
    refine plc E (.r 11 1<|.b 12 1 hb57<|.r 13 2<|.b 15 2 hb2<|.r 16 3<|.nil) (fun a E=>?_)
    rcases sp H with ⟨c64,H⟩ | ⟨c64,H⟩
    ·
     replace E:=E.kt 61 c64
     refine plc E (.r 19 7 .nil) (fun a E=>pld ?_)
     exact J69 _ (by omega) _ true _ _ E .of S H
    replace E:=E.kf 61 c64
    refine plc E (.r 19 1<|.b 20 1 hb57<|.r 21 2<|.b 23 1 hb2<|.r 24 2<|.nil) (fun a E=>pld ?_)
    exact J69 _ (by omega) _ (decide ((((nth qE.z ((nth qC.z x.f6 x6).f1) x39).f1).length:Int)>x.f1)) _ _ E .of S H
   refine wp_exit ?_
   refine hK14 _ _ (pl0 (plc E (.r 0 3 .nil) (fun a E=>pld ?_)))
   replace S:=S.tail
   exact qBf ⟨k42,by omega,_,(w64 (x6+1)),by omega,E,.of,S,H⟩
  refine pl0 (plc E (.r 0 1<|.b 1 0 hb24<|.r 2 2<|.nil) (fun a E=>?_))
  rcases sp H with ⟨c29,H⟩ | ⟨c29,H⟩
  ·
   replace E:=E.kt 24 c29
   refine plc E (.r 4 6 .nil) (fun a E=>pld ?_)
   exact J34 _ (by omega) _ true _ _ E .of S H
  replace E:=E.kf 24 c29
  have hb2:=S.ba 1
  refine plc E (.r 4 1<|.b 5 0 hb24<|.r 6 1<|.b 7 0 hb2<|.r 8 2<|.nil) (fun a E=>pld ?_)
  exact J34 _ (by omega) _ (decide ((nth qC.z x.f6 x6).f0>x.f0)) _ _ E .of S H
 refine wp_exit ?_
 refine hK4 _ _ (rg E (.r 0 1<|.b 1 6 hb2<|.r 2 2<|.b 4 3 hb2<|.r 5 2<|.nil) fun a E=>(wp_ret ?_))
 replace S:=S.tail
 obtain rfl:=si H
 exact rt1 E ⟨_,rfl,_,rfl,S⟩
mutual
def qZ.j18:Nat→qF→Bool→Option Bool
 | 0,_,_=>none
 | k+1,x,y17=>if y17=true then (some false) else (qZ.l28 k x 0)
def qZ.l28:Nat→qF→Int→Option Bool
 | 0,_,_=>none
 | k+1,x,x27=>if x27<(x.f5.length:Int) then (if 0≤x27∧x27<(x.f5.length:Int) then (if (nth qD.z x.f5 x27).f0<0 then (qZ.j71 k x x27 true) else (if (nth qD.z x.f5 x27).f0≥x.f3 then (qZ.j71 k x x27 true) else (if x27>0 then (if 0≤(w64 (x27 - 1))∧(w64 (x27 - 1))<(x.f5.length:Int) then (if (nth qD.z x.f5 (w64 (x27 - 1))).f0≥(nth qD.z x.f5 x27).f0 then (qZ.j71 k x x27 true) else (if (((nth qD.z x.f5 x27).f1).length:Int)<1 then (qZ.j71 k x x27 true) else (if (((nth qD.z x.f5 x27).f1).length:Int)>x.f1 then (qZ.j71 k x x27 true) else ((qg.f k x.f4 ((nth qD.z x.f5 x27).f1)).bind fun t63=>(qZ.j71 k x x27 (!t63)))))) else (none)) else (if (((nth qD.z x.f5 x27).f1).length:Int)<1 then (qZ.j71 k x x27 true) else (if (((nth qD.z x.f5 x27).f1).length:Int)>x.f1 then (qZ.j71 k x x27 true) else ((qg.f k x.f4 ((nth qD.z x.f5 x27).f1)).bind fun t68=>(qZ.j71 k x x27 (!t68)))))))) else (none)) else ((qH.f k x).bind fun t80=>(some t80))
def qZ.j71:Nat→qF→Int→Bool→Option Bool
 | 0,_,_,_=>none
 | k+1,x,x27,y70=>if y70=true then (some false) else (qZ.l28 k x (w64 (x27+1)))
end
theorem qZ.j18_s k x y17:type_of% (qZ.j18.eq_2 x y17 k):=qZ.j18.eq_2 x y17 k
theorem qZ.l28_s k x x27:type_of% (qZ.l28.eq_2 x x27 k):=qZ.l28.eq_2 x x27 k
theorem qZ.j71_s k x x27 y70:type_of% (qZ.j71.eq_2 x x27 y70 k):=qZ.j71.eq_2 x x27 y70 k
def qZ.f(k:Nat)(x:qF):Option Bool:=if x.f0<0 then (qZ.j18 k x true) else (if x.f0≥2147483648 then (qZ.j18 k x true) else (if x.f1<1 then (qZ.j18 k x true) else (if x.f1>3 then (qZ.j18 k x true) else (if x.f2<1 then (qZ.j18 k x true) else (if x.f2>x.f1 then (qZ.j18 k x true) else (if x.f3<1 then (qZ.j18 k x true) else (if x.f3>8 then (qZ.j18 k x true) else ((qh.f k x.f4).bind fun t15=>(qZ.j18 k x (!t15))))))))))
def qZ.Post(W F:World)(r:Bool)(v:Value)(w':World):Prop:=∃(F':World),v = .bool r∧Sm W F w' F' []
theorem qZ.calls(k:Nat)(x:qF)(A0_4:OA)(c0_4:Nat)(A0_5:OA)(c0_5:Nat)(A0_6:OA)(c0_6:Nat)(r:Bool)(W F:World)(hown:Sub F W)(g0_4:Rd qA.k F A0_4 c0_4 x.f4)(g0_5:Rd qD.k F A0_5 c0_5 x.f5)(g0_6:Rd qC.k F A0_6 c0_6 x.f6)(H:qZ.f k x=some r):
    Cr 19 #[.agg #[iv x.f0,iv x.f1,iv x.f2,iv x.f3,.slice A0_4 x.f4.length c0_4,.slice A0_5 x.f5.length c0_5,.slice A0_6 x.f6.length c0_6]] W (qZ.Post W F r):=by
 have S:=St.start (Own.nil hown)
 unfold qZ.f at H
 refine ent 113 rfl rfl rfl (fun a E=>?_)
 refine sq fun K1 hK1=>pl0 (ple E (.bx (t:=26) S [iv x.f0,iv x.f1,iv x.f2,iv x.f3,.slice A0_4 x.f4.length c0_4,.slice A0_5 x.f5.length c0_5,.slice A0_6 x.f6.length c0_6]) ?_)
 rintro _ u3 a ⟨b2,rfl,hb2,S,hg⟩ E
 refine plc E (.r 1 1 .nil) (fun a E=>pld (hK1 _ _ (sq fun K4 hK4=>sq fun K5 hK5=>?_)))
 have J21:∀ kq19,kq19≤k→∀(G:NV)(y17:Bool)(a:Act)(w':World),Env 113 G a→At G [(1,.pointer (pb b2)),(50,.bool y17)]→Sm W F w' F [box b2 #[iv x.f0,iv x.f1,iv x.f2,iv x.f3,.slice A0_4 x.f4.length c0_4,.slice A0_5 x.f5.length c0_5,.slice A0_6 x.f6.length c0_6] 26]→qZ.j18 kq19 x y17=some r→K5 a w':=by
  intro kq19 hkq G y17 a u22 E A S H
  obtain _ | k20:=kq19
  ·
   exact zz H
  rw [qZ.j18_s]at H
  obtain ⟨J,E⟩:=E.at A
  refine hK5 _ _ ?_
  refine E.ib 50 H (fun c23 E H=>?_) fun c23 E H=>?_
  ·
   refine rr E fun a E=>(wp_ret (qBb ?_))
   replace S:=S.tail
   obtain rfl:=si H
   exact rt1 E ⟨_,rfl,_,rfl,S⟩
  refine wp_skip (hK4 _ _ (sq fun K25 hK25=>rr E fun a E=>(wp_block ?_)))
  refine wp_loop_ghost (fun kq29 a w'=>∃(G:NV)(x27:Int),kq29≤k20∧Env 113 G a∧At G [(1,.pointer (pb b2)),(3,iv x27)]∧Sm W F w' F [box b2 #[iv x.f0,iv x.f1,iv x.f2,iv x.f3,.slice A0_4 x.f4.length c0_4,.slice A0_5 x.f5.length c0_5,.slice A0_6 x.f6.length c0_6] 26]∧qZ.l28 kq29 x x27=some r) k20 ⟨_,0,Nat.le_refl _,E,.of,S,H⟩ ?_
  rintro kq29 a u31 ⟨G,x27,hkq,E,A,S,H⟩
  obtain _ | k30:=kq29
  ·
   exact zz H
  rw [qZ.l28_s]at H
  obtain ⟨J,E⟩:=E.at A
  refine sq fun K32 hK32=>sq fun K33 hK33=>pl0 ?_
  have hb2:=S.ba 0
  refine plc E (.r 0 2<|.b 2 5 hb2<|.r 3 2<|.nil) (fun a E=>pld (hK33 _ _ ?_))
  refine E.ik 55 H (fun c34 E H=>?_) fun c34 E H=>?_
  ·
   refine wp_skip (hK32 _ _ (sq fun K35 hK35=>wp_block (sq fun K36 hK36=>pl0 ?_)))
   obtain ⟨c37,H⟩:=gd H
   have hE_:=E
   obtain ⟨ad38,rfl⟩:=g0_5.addr c37.1 c37.2
   replace E:=hE_
   obtain ⟨cs40,⟨A42,c43,rfl,g44⟩,hc41⟩:=g0_5.el qD.z x27 c37.1 c37.2
   refine plc E (.r 0 1<|.b 1 5 hb2<|.r 2 1<|.x 3 c37<|.cs 4 (S.fcs hc41)<|.nil) (fun a E=>ple E (.al (t:=97) S [iv 0,.slice none 0 0]) ?_)
   rintro _ u46 a ⟨b45,rfl,hb45,S,hg⟩ E
   refine ple E (.sto S [iv ((nth qD.z x.f5 x27).f0),.slice A42 (((nth qD.z x.f5 x27).f1).length) c43]) ?_
   rintro _ u47 a ⟨rfl,hb45,S,hz⟩ E
   refine pld (hK36 _ _ (sq fun K48 hK48=>?_))
   have J74:∀ kq72,kq72≤k30→∀(G:NV)(y70:Bool)(a:Act)(w':World),Env 113 G a→At G [(1,.pointer (pb b2)),(3,iv x27),(110,.bool y70)]→Sm W F w' F [box b45 #[iv ((nth qD.z x.f5 x27).f0),.slice A42 (((nth qD.z x.f5 x27).f1).length) c43] 97,box b2 #[iv x.f0,iv x.f1,iv x.f2,iv x.f3,.slice A0_4 x.f4.length c0_4,.slice (some ad38) x.f5.length c0_5,.slice A0_6 x.f6.length c0_6] 26]→qZ.j71 kq72 x x27 y70=some r→K48 a w':=by
    intro kq72 hkq G y70 a u75 E A S H
    obtain _ | k73:=kq72
    ·
     exact zz H
    rw [qZ.j71_s]at H
    obtain ⟨J,E⟩:=E.at A
    refine hK48 _ _ ?_
    refine E.ib 110 H (fun c76 E H=>?_) fun c76 E H=>?_
    ·
     refine rr E fun a E=>(wp_ret (qBc (qBb (qBb (qBc (qBb ?_))))))
     replace S:=S.pm [] 2
     obtain rfl:=si H
     exact rt1 E ⟨_,rfl,_,rfl,S⟩
    refine wp_skip ?_
    refine qBd ?_
    refine hK35 _ _ (pl0 (plc E (.r 0 3 .nil) (fun a E=>pld ?_)))
    replace S:=S.tail
    exact qBf ⟨k73,by omega,_,(w64 (x27+1)),by omega,E,.of,S,H⟩
   refine drawn 48 ⟨[],[],fun q=>False⟩ mixed rfl (by kernel_rfl) (fun hst=>?_)
   replace S:=S.drew
   have hb45:=S.ba 0
   refine mny 44 hst E (.r 0 1<|.b 1 0 hb45<|.r 2 2<|.nil) (fun a E=>?_)
   rcases sp H with ⟨c49,H⟩ | ⟨c49,H⟩
   ·
    replace E:=E.kt 66 c49
    refine mny 0 hst E (.r 4 44 .nil) (fun a E=>?_)
    refine dn ?_
    exact J74 _ (by omega) _ true _ _ E .of S H
   replace E:=E.kf 66 c49
   have hb2:=S.ba 1
   refine mny 37 hst E (.r 4 1<|.b 5 0 hb45<|.r 6 1<|.b 7 3 hb2<|.r 8 3<|.nil) (fun a E=>?_)
   rcases sp H with ⟨c50,H⟩ | ⟨c50,H⟩
   ·
    replace E:=E.kt 73 c50
    refine mny 0 hst E (.r 11 37 .nil) (fun a E=>?_)
    refine dn ?_
    exact J74 _ (by omega) _ true _ _ E .of S H
   replace E:=E.kf 73 c50
   refine mny 34 hst E (.r 11 3 .nil) (fun a E=>?_)
   rcases sp H with ⟨c51,H⟩ | ⟨c51,H⟩
   ·
    replace E:=E.kt 76 c51
    obtain ⟨c52,H⟩:=gd H
    obtain ⟨cs54,⟨A56,c57,rfl,g58⟩,hc55⟩:=g0_5.el qD.z (w64 (x27 - 1)) c52.1 c52.2
    refine mny 21 hst E (.r 14 1<|.b 15 5 hb2<|.r 16 2<|.x 18 c52<|.r 19 1<|.c 20 (S.fc hc55 0)<|.r 21 1<|.b 22 0 hb45<|.r 23 4<|.nil) (fun a E=>?_)
    rcases sp H with ⟨c59,H⟩ | ⟨c59,H⟩
    ·
     replace E:=E.kt 89 c59
     refine mny 0 hst E (.r 27 21 .nil) (fun a E=>?_)
     refine dn ?_
     exact J74 _ (by omega) _ true _ _ E .of S H
    replace E:=E.kf 89 c59
    refine mny 15 hst E (.r 27 1<|.b 28 1 hb45<|.r 29 4<|.nil) (fun a E=>?_)
    rcases sp H with ⟨c60,H⟩ | ⟨c60,H⟩
    ·
     replace E:=E.kt 95 c60
     refine mny 0 hst E (.r 33 15 .nil) (fun a E=>?_)
     refine dn ?_
     exact J74 _ (by omega) _ true _ _ E .of S H
    replace E:=E.kf 95 c60
    refine mny 7 hst E (.r 33 1<|.b 34 1 hb45<|.r 35 2<|.b 37 1 hb2<|.r 38 3<|.nil) (fun a E=>?_)
    rcases sp H with ⟨c61,H⟩ | ⟨c61,H⟩
    ·
     replace E:=E.kt 103 c61
     refine mny 0 hst E (.r 41 7 .nil) (fun a E=>?_)
     refine dn ?_
     exact J74 _ (by omega) _ true _ _ E .of S H
    replace E:=E.kf 103 c61
    refine mny 3 hst E (.r 41 1<|.b 42 4 hb2<|.r 43 1<|.b 44 1 hb45<|.nil) (fun a E=>?_)
    obtain ⟨t63,h64,H⟩:=bd H
    refine on1 45 E (.cl en68 (qg.calls k30 x.f4 ((nth qD.z x.f5 x27).f1) _ _ _ _ _ _ _ S.own.sub g0_4 g44 h64)) ?_
    rintro _ u62 a ⟨_,rfl,hC⟩ E
    refine ⟨.of hC.agr,?_⟩
    replace S:=S.lent hC
    refine mny 0 hst E (.r 46 2 .nil) (fun a E=>?_)
    refine dn ?_
    exact J74 _ (by omega) _ (!t63) _ _ E .of S H
   replace E:=E.kf 76 c51
   refine mny 15 hst E (.r 14 14<|.b 28 1 hb45<|.r 29 4<|.nil) (fun a E=>?_)
   rcases sp H with ⟨c65,H⟩ | ⟨c65,H⟩
   ·
    replace E:=E.kt 95 c65
    refine mny 0 hst E (.r 33 15 .nil) (fun a E=>?_)
    refine dn ?_
    exact J74 _ (by omega) _ true _ _ E .of S H
   replace E:=E.kf 95 c65
   refine mny 7 hst E (.r 33 1<|.b 34 1 hb45<|.r 35 2<|.b 37 1 hb2<|.r 38 3<|.nil) (fun a E=>?_)
   rcases sp H with ⟨c66,H⟩ | ⟨c66,H⟩
   ·
    replace E:=E.kt 103 c66
    refine mny 0 hst E (.r 41 7 .nil) (fun a E=>?_)
    refine dn ?_
    exact J74 _ (by omega) _ true _ _ E .of S H
   replace E:=E.kf 103 c66
   refine mny 3 hst E (.r 41 1<|.b 42 4 hb2<|.r 43 1<|.b 44 1 hb45<|.nil) (fun a E=>?_)
   obtain ⟨t68,h69,H⟩:=bd H
   refine on1 45 E (.cl en68 (qg.calls k30 x.f4 ((nth qD.z x.f5 x27).f1) _ _ _ _ _ _ _ S.own.sub g0_4 g44 h69)) ?_
   rintro _ u67 a ⟨_,rfl,hC⟩ E
   refine ⟨.of hC.agr,?_⟩
   replace S:=S.lent hC
   refine mny 0 hst E (.r 46 2 .nil) (fun a E=>?_)
   refine dn ?_
   exact J74 _ (by omega) _ (!t68) _ _ E .of S H
  refine wp_exit ?_
  refine hK25 _ _ (sq fun K78 hK78=>pl0 (plc E (.bn 0 0 7 hb2 .nil) (fun a E=>?_)))
  obtain ⟨t80,h81,H⟩:=bd H
  refine ple E (.cl en69 (qH.calls k30 x _ _ _ _ _ _ _ _ _ S.own.sub g0_4 g0_5 g0_6 h81)) ?_
  rintro _ u79 a ⟨_,rfl,hC⟩ E
  replace S:=S.lent hC
  refine plc E (.r 2 1 .nil) (fun a E=>pld (hK78 _ _ (wp_ret ?_)))
  replace S:=S.tail
  obtain rfl:=si H
  exact rt1 E ⟨_,rfl,_,rfl,S⟩
 refine pl0 (plc E (.r 0 1<|.b 1 0 hb2<|.r 2 2<|.nil) (fun a E=>?_))
 rcases sp H with ⟨c6,H⟩ | ⟨c6,H⟩
 ·
  replace E:=E.kt 8 c6
  refine plc E (.r 4 42 .nil) (fun a E=>pld ?_)
  exact J21 _ (by omega) _ true _ _ E .of S H
 replace E:=E.kf 8 c6
 refine plc E (.r 4 1<|.b 5 0 hb2<|.r 6 3<|.nil) (fun a E=>?_)
 rcases sp H with ⟨c7,H⟩ | ⟨c7,H⟩
 ·
  replace E:=E.kt 13 c7
  refine plc E (.r 9 37 .nil) (fun a E=>pld ?_)
  exact J21 _ (by omega) _ true _ _ E .of S H
 replace E:=E.kf 13 c7
 refine plc E (.r 9 1<|.b 10 1 hb2<|.r 11 3<|.nil) (fun a E=>?_)
 rcases sp H with ⟨c8,H⟩ | ⟨c8,H⟩
 ·
  replace E:=E.kt 18 c8
  refine plc E (.r 14 32 .nil) (fun a E=>pld ?_)
  exact J21 _ (by omega) _ true _ _ E .of S H
 replace E:=E.kf 18 c8
 refine plc E (.r 14 1<|.b 15 1 hb2<|.r 16 3<|.nil) (fun a E=>?_)
 rcases sp H with ⟨c9,H⟩ | ⟨c9,H⟩
 ·
  replace E:=E.kt 23 c9
  refine plc E (.r 19 27 .nil) (fun a E=>pld ?_)
  exact J21 _ (by omega) _ true _ _ E .of S H
 replace E:=E.kf 23 c9
 refine plc E (.r 19 1<|.b 20 2 hb2<|.r 21 3<|.nil) (fun a E=>?_)
 rcases sp H with ⟨c10,H⟩ | ⟨c10,H⟩
 ·
  replace E:=E.kt 28 c10
  refine plc E (.r 24 22 .nil) (fun a E=>pld ?_)
  exact J21 _ (by omega) _ true _ _ E .of S H
 replace E:=E.kf 28 c10
 refine plc E (.r 24 1<|.b 25 2 hb2<|.r 26 1<|.b 27 1 hb2<|.r 28 3<|.nil) (fun a E=>?_)
 rcases sp H with ⟨c11,H⟩ | ⟨c11,H⟩
 ·
  replace E:=E.kt 35 c11
  refine plc E (.r 31 15 .nil) (fun a E=>pld ?_)
  exact J21 _ (by omega) _ true _ _ E .of S H
 replace E:=E.kf 35 c11
 refine plc E (.r 31 1<|.b 32 3 hb2<|.r 33 3<|.nil) (fun a E=>?_)
 rcases sp H with ⟨c12,H⟩ | ⟨c12,H⟩
 ·
  replace E:=E.kt 40 c12
  refine plc E (.r 36 10 .nil) (fun a E=>pld ?_)
  exact J21 _ (by omega) _ true _ _ E .of S H
 replace E:=E.kf 40 c12
 refine plc E (.r 36 1<|.b 37 3 hb2<|.r 38 3<|.nil) (fun a E=>?_)
 rcases sp H with ⟨c13,H⟩ | ⟨c13,H⟩
 ·
  replace E:=E.kt 45 c13
  refine plc E (.r 41 5 .nil) (fun a E=>pld ?_)
  exact J21 _ (by omega) _ true _ _ E .of S H
 replace E:=E.kf 45 c13
 refine plc E (.r 41 1<|.b 42 4 hb2<|.nil) (fun a E=>?_)
 obtain ⟨t15,h16,H⟩:=bd H
 refine ple E (.cl en67 (qh.calls k x.f4 _ _ _ _ _ S.own.sub g0_4 h16)) ?_
 rintro _ u14 a ⟨_,rfl,hC⟩ E
 replace S:=S.lent hC
 refine plc E (.r 44 2 .nil) (fun a E=>pld ?_)
 exact J21 _ (by omega) _ (!t15) _ _ E .of S H
end Go.Proofs.YtpohepinmjmbkaaGreat.MM
