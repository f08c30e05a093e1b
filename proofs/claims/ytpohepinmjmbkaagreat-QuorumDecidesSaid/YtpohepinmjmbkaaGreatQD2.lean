import Derived.Test.YtpohepinmjmbkaaGreatQD1
namespace Go.Proofs.YtpohepinmjmbkaaGreat.QD
open Go Go.RowKit Go.Proofs.YtpohepinmjmbkaaGreat.Sl
set_option linter.unusedVariables false
set_option linter.unusedSimpArgs false
set_option maxHeartbeats 4000000
set_option maxRecDepth 100000
mutual
def qAx.l30:Nat→qJ→List qA→List qM→List qM→Int→Option qJ
 | 0,_,_,_,_,_=>none
 | k+1,x0_,t8,t16,l27,x28=>if x28<(t16.length:Int) then (if 0≤x28∧x28<(t16.length:Int) then ((qAW.f ((nth qM.z l27 x28).f1)).bind fun t53=>(qAx.l30 k x0_ t8 t16 (l27.set (x28).toNat (⟨(nth qM.z l27 x28).f0,t53⟩:qM)) (w64 (x28+1)))) else (none)) else ((qAX.f x0_.f6).bind fun t78=>(qAx.l91 k x0_ t8 l27 t78 t78 0))
def qAx.l91:Nat→qJ→List qA→List qM→List qF→List qF→Int→Option qJ
 | 0,_,_,_,_,_,_=>none
 | k+1,x0_,t8,l27,t78,l88,x89=>if x89<(t78.length:Int) then (if 0≤x89∧x89<(t78.length:Int) then ((qBN.f k ((nth qF.z l88 x89).f1)).bind fun t114=>(qAx.l91 k x0_ t8 l27 t78 (l88.set (x89).toNat (⟨(nth qF.z l88 x89).f0,t114⟩:qF)) (w64 (x89+1)))) else (none)) else (some (⟨x0_.f0,x0_.f1,x0_.f2,x0_.f3,t8,l27,l88⟩:qJ))
end
theorem qAx.l30_s k x0_ t8 t16 l27 x28:type_of% (qAx.l30.eq_2 x0_ t8 t16 l27 x28 k):=qAx.l30.eq_2 x0_ t8 t16 l27 x28 k
theorem qAx.l91_s k x0_ t8 l27 t78 l88 x89:type_of% (qAx.l91.eq_2 x0_ t8 l27 t78 l88 x89 k):=qAx.l91.eq_2 x0_ t8 l27 t78 l88 x89 k
def qAx.f(k:Nat)(x0_:qJ):Option qJ:=(qAg.f x0_.f4).bind fun t8=>((qAh.f x0_.f5).bind fun t16=>(qAx.l30 k x0_ t8 t16 t16 0))
def qAx.Post(W F:World)(r:qJ)(v:Value)(w':World):Prop:=∃(F':World)(RA0_4:Option Addr)(rc0_4:Nat)(RA0_5:Option Addr)(rc0_5:Nat)(RA0_6:Option Addr)(rc0_6:Nat),v = .agg #[iv r.f0,iv r.f1,iv r.f2,iv r.f3,.slice RA0_4 r.f4.length rc0_4,.slice RA0_5 r.f5.length rc0_5,.slice RA0_6 r.f6.length rc0_6]∧St W (mine W []) F w' F' [row qA.k 104 (.slice RA0_4 r.f4.length rc0_4) r.f4,row qM.k 97 (.slice RA0_5 r.f5.length rc0_5) r.f5,row qF.k 49 (.slice RA0_6 r.f6.length rc0_6) r.f6]
theorem qAx.calls(k:Nat)(x0_:qJ)(A0_4:Option Addr)(c0_4:Nat)(A0_5:Option Addr)(c0_5:Nat)(A0_6:Option Addr)(c0_6:Nat)(r:qJ)(W F:World)(hown:Sub F W)(g0_4:Rd qA.k F A0_4 c0_4 x0_.f4)(g0_5:Rd qM.k F A0_5 c0_5 x0_.f5)(g0_6:Rd qF.k F A0_6 c0_6 x0_.f6)(H:qAx.f k x0_=some r):
    Calls Tryz.prog 77 #[.agg #[iv x0_.f0,iv x0_.f1,iv x0_.f2,iv x0_.f3,.slice A0_4 x0_.f4.length c0_4,.slice A0_5 x0_.f5.length c0_5,.slice A0_6 x0_.f6.length c0_6]] W fun e w'=>∃ v,e = .returned v∧qAx.Post W F r v w':=by
 have hS:=St.start (Own.nil hown)
 unfold qAx.f at H
 refine enter (n:=54) rfl rfl rfl (Nat.le_of_ble_eq_true rfl) (fun a hE=>?_)
 refine sq fun K1 hK1=>pl0 (ple hE (.bx (t:=26) hS [iv x0_.f0,iv x0_.f1,iv x0_.f2,iv x0_.f3,.slice A0_4 x0_.f4.length c0_4,.slice A0_5 x0_.f5.length c0_5,.slice A0_6 x0_.f6.length c0_6]) ?_)
 rintro _ u3 a ⟨b2,rfl,hb2,hS,hg⟩ hE
 refine ple hE (.al (t:=26) hS [iv 0,iv 0,iv 0,iv 0,.slice none 0 0,.slice none 0 0,.slice none 0 0]) ?_
 rintro _ u5 a ⟨b4,rfl,hb4,hS,hg⟩ hE
 refine pld (hK1 _ _ (sq fun K6 hK6=>?_))
 refine drawn 10 ⟨[7,9],[],fun q=>False⟩ mixed rfl (by kernel_rfl) (fun hst=>?_)
 replace hS:=hS.drew
 have hb2:=hS.ba 1
 refine mny 6 hst hE (.r 0 1<|.b 1 4 hb2<|.r 3 1<|.b 4 5 hb2<|.nil) (fun a hE=>?_)
 obtain ⟨t8,h9,H⟩:=bd H
 refine on1 2 hE (.cl en128 (qAg.calls x0_.f4 _ _ _ _ _ hS.own.sub g0_4 h9)) ?_
 rintro _ u7 a ⟨F10,A11,c12,rfl,hC⟩ hE
 refine ⟨.of hC.agr,?_⟩
 have hs:=hC.sub
 replace hS:=hS.called (X:=[]) hC
 replace g0_4:=g0_4.mono hs
 replace g0_5:=g0_5.mono hs
 replace g0_6:=g0_6.mono hs
 refine mny 4 hst hE (.r 6 1 .nil) (fun a hE=>?_)
 obtain ⟨t16,h17,H⟩:=bd H
 refine on1 5 hE (.cl en129 (qAh.calls x0_.f5 _ _ _ _ _ hS.own.sub g0_5 h17)) ?_
 rintro _ u15 a ⟨F18,A19,c20,rfl,hC⟩ hE
 refine ⟨.of hC.agr,?_⟩
 have hs:=hC.sub
 replace hS:=hS.called (X:=[]) hC
 replace g0_4:=g0_4.mono hs
 replace g0_5:=g0_5.mono hs
 replace g0_6:=g0_6.mono hs
 replace hS:=hS.front 3 rfl
 refine on1 7 hE (.sto hS [iv x0_.f0,iv x0_.f1,iv x0_.f2,iv x0_.f3,.slice A11 t8.length c12,.slice A0_5 x0_.f5.length c0_5,.slice A0_6 x0_.f6.length c0_6]) ?_
 rintro _ u23 a ⟨rfl,hb2,hS,hz⟩ hE
 refine ⟨.d,?_⟩
 refine mny 1 hst hE (.r 8 1 .nil) (fun a hE=>?_)
 refine on1 9 hE (.sto hS [iv x0_.f0,iv x0_.f1,iv x0_.f2,iv x0_.f3,.slice A11 t8.length c12,.slice A19 t16.length c20,.slice A0_6 x0_.f6.length c0_6]) ?_
 rintro _ u24 a ⟨rfl,hb2,hS,hz⟩ hE
 refine ⟨.d,?_⟩
 refine dn ?_
 refine hK6 _ _ (sq fun K25 hK25=>rg hE (.r 0 1<|.b 1 5 hb2<|.r 2 2<|.nil) fun a hE=>(wp_block ?_))
 replace hS:=hS.pm [0,3,2,1] 4
 refine wp_loop_ghost (fun kq31 a w'=>∃(G:Nat→Value)(l27:List qM)(x28:Int)(F29:World),kq31≤k∧Env 54 G a∧At G [(1,.pointer (pb b2)),(2,.pointer (pb b4)),(16,.slice A19 t16.length c20),(17,iv (t16.length:Int)),(18,iv x28)]∧St W (mine W []) F w' F29 [box b2 #[iv x0_.f0,iv x0_.f1,iv x0_.f2,iv x0_.f3,.slice A11 t8.length c12,.slice A19 t16.length c20,.slice A0_6 x0_.f6.length c0_6] 26,box b4 #[iv 0,iv 0,iv 0,iv 0,.slice none 0 0,.slice none 0 0,.slice none 0 0] 26,row qA.k 104 (.slice A11 t8.length c12) t8,row qM.k 97 (.slice A19 t16.length c20) l27]∧Rd qF.k F29 A0_6 c0_6 x0_.f6∧qAx.l30 kq31 x0_ t8 t16 l27 x28=some r) k ⟨_,t16,0,F18,Nat.le_refl _,hE,.of,hS,g0_6,H⟩ ?_
 rintro kq31 a u33 ⟨G,l27,x28,F29,hkq,hE,hA,hS,g0_6,H⟩
 obtain _ | k32:=kq31
 ·
  exact zz H
 rw [qAx.l30_s]at H
 obtain ⟨J,hE⟩:=hE.at hA
 refine rr hE fun a hE=>(sq fun K35 hK35=>?_)
 refine hE.ik 19 H (fun c36 hE H=>?_) fun c36 hE H=>?_
 ·
  refine wp_skip (hK35 _ _ (sq fun K37 hK37=>wp_block (sq fun K38 hK38=>pl0 ?_)))
  obtain ⟨c39,H⟩:=gd H
  have hr40:=hS.ra 3
  have c41:0≤x28∧x28<(l27.length:Int):=by rw [← (qCH hr40).1]; exact c39
  have hE_:=hE
  obtain ⟨b42,rfl⟩:=qCK hr40 c41.1 c41.2
  replace hE:=hE_
  have hr_:=hS.ra 3
  obtain ⟨cs44,⟨A46,c47,rfl,g48⟩,hc45⟩:=qCI hr_ qM.z x28 c41.1 c41.2
  refine plc hE (.r 0 1<|.x 1 c39<|.cs 2 hc45<|.nil) (fun a hE=>ple hE (.al (t:=97) hS [iv 0,.slice none 0 0]) ?_)
  rintro _ u50 a ⟨b49,rfl,hb49,hS,hg⟩ hE
  refine plc hE (.r 4 1 .nil) (fun a hE=>ple hE (.sto hS [iv ((nth qM.z l27 x28).f0),.slice A46 (((nth qM.z l27 x28).f1).length) c47]) ?_)
  rintro _ u51 a ⟨rfl,hb49,hS,hz⟩ hE
  refine pld (hK38 _ _ ?_)
  refine drawn 9 ⟨[8],[],fun q=>False⟩ mixed rfl (by kernel_rfl) (fun hst=>?_)
  replace hS:=hS.drew
  have hb2:=hS.ba 1
  have hb49:=hS.ba 0
  refine mny 4 hst hE (.r 0 1<|.b 1 5 hb2<|.r 2 2<|.b 4 1 hb49<|.nil) (fun a hE=>?_)
  obtain ⟨t53,h54,H⟩:=bd H
  refine on1 5 hE (.cl en112 (qAW.calls ((nth qM.z l27 x28).f1) _ _ _ _ _ hS.own.sub g48 h54)) ?_
  rintro _ u52 a ⟨F55,A56,c57,rfl,hC⟩ hE
  refine ⟨.of hC.agr,?_⟩
  have hs:=hC.sub
  replace hS:=hS.called (X:=[]) hC
  replace g48:=g48.mono hs
  replace g0_6:=g0_6.mono hs
  have hr60:=hS.ra 5
  have c61:0≤x28∧x28<(l27.length:Int):=by rw [← (qCH hr60).1]; exact c39
  have hr_:=hS.ra 5
  obtain ⟨cs63,⟨A65,c66,rfl,g67⟩,hc64⟩:=qCI hr_ qM.z x28 c61.1 c61.2
  refine mny 1 hst hE (.x 6 c39<|.r 7 1<|.nil) (fun a hE=>?_)
  obtain ⟨F69,hs,g70,hS⟩:=hS.give
  replace g48:=g48.mono hs
  replace g0_6:=g0_6.mono hs
  replace hS:=hS.front 4 rfl
  obtain ⟨cs74,⟨A71,c72,rfl,g73⟩,hc75⟩:=qCI (hS.row_at (i:=0) rfl) qM.z x28 c61.1 c61.2
  refine on1 8 hE (.set (d:=qM.k) (n:=t16.length) (i:=x28) (⟨(nth qM.z l27 x28).f0,t53⟩:qM) 1 (ea1 _ _ _) hS c61 [iv ((nth qM.z l27 x28).f0),.slice A71 (((nth qM.z l27 x28).f1).length) c72] hc75 [iv ((nth qM.z l27 x28).f0),.slice A56 t53.length c57] ⟨_,_,rfl,g70⟩) ?_
  rintro _ u68 a ⟨rfl,hS,hz⟩ hE
  refine ⟨.d,?_⟩
  refine dn ?_
  refine qCF ?_
  refine hK37 _ _ (pl0 (plc hE (.r 0 2 .nil) (fun a hE=>pld ?_)))
  replace hS:=hS.pm [2,3,4,0] 5
  exact qCG ⟨k32,by omega,_,(l27.set (x28).toNat (⟨(nth qM.z l27 x28).f0,t53⟩:qM)),(w64 (x28+1)),F69,by omega,hE,.of,hS,g0_6,H⟩
 refine wp_exit ?_
 refine hK25 _ _ (sq fun K76 hK76=>pl0 ?_)
 have hb2:=hS.ba 0
 refine plc hE (.r 0 1<|.b 1 6 hb2<|.nil) (fun a hE=>?_)
 obtain ⟨t78,h79,H⟩:=bd H
 refine ple hE (.cl en130 (qAX.calls x0_.f6 _ _ _ _ _ hS.own.sub g0_6 h79)) ?_
 rintro _ u77 a ⟨F80,A81,c82,rfl,hC⟩ hE
 have hs:=hC.sub
 replace hS:=hS.called (X:=[]) hC
 replace g0_6:=g0_6.mono hs
 refine plc hE (.r 3 1 .nil) (fun a hE=>?_)
 replace hS:=hS.front 1 rfl
 refine ple hE (.sto hS [iv x0_.f0,iv x0_.f1,iv x0_.f2,iv x0_.f3,.slice A11 t8.length c12,.slice A19 t16.length c20,.slice A81 t78.length c82]) ?_
 rintro _ u85 a ⟨rfl,hb2,hS,hz⟩ hE
 refine pld (hK76 _ _ (sq fun K86 hK86=>rg hE (.r 0 1<|.b 1 6 hb2<|.r 2 2<|.nil) fun a hE=>(wp_block ?_)))
 replace hS:=hS.pm [0,2,3,4,1] 5
 refine wp_loop_ghost (fun kq92 a w'=>∃(G:Nat→Value)(l88:List qF)(x89:Int)(F90:World),kq92≤k32∧Env 54 G a∧At G [(1,.pointer (pb b2)),(2,.pointer (pb b4)),(37,.slice A81 t78.length c82),(38,iv (t78.length:Int)),(39,iv x89)]∧St W (mine W []) F w' F90 [box b2 #[iv x0_.f0,iv x0_.f1,iv x0_.f2,iv x0_.f3,.slice A11 t8.length c12,.slice A19 t16.length c20,.slice A81 t78.length c82] 26,box b4 #[iv 0,iv 0,iv 0,iv 0,.slice none 0 0,.slice none 0 0,.slice none 0 0] 26,row qA.k 104 (.slice A11 t8.length c12) t8,row qM.k 97 (.slice A19 t16.length c20) l27,row qF.k 49 (.slice A81 t78.length c82) l88]∧qAx.l91 kq92 x0_ t8 l27 t78 l88 x89=some r) k32 ⟨_,t78,0,F80,Nat.le_refl _,hE,.of,hS,H⟩ ?_
 rintro kq92 a u94 ⟨G,l88,x89,F90,hkq,hE,hA,hS,H⟩
 obtain _ | k93:=kq92
 ·
  exact zz H
 rw [qAx.l91_s]at H
 obtain ⟨J,hE⟩:=hE.at hA
 refine rr hE fun a hE=>(sq fun K96 hK96=>?_)
 refine hE.ik 40 H (fun c97 hE H=>?_) fun c97 hE H=>?_
 ·
  refine wp_skip (hK96 _ _ (sq fun K98 hK98=>wp_block (sq fun K99 hK99=>pl0 ?_)))
  obtain ⟨c100,H⟩:=gd H
  have hr101:=hS.ra 4
  have c102:0≤x89∧x89<(l88.length:Int):=by rw [← (qCH hr101).1]; exact c100
  have hE_:=hE
  obtain ⟨b103,rfl⟩:=qCK hr101 c102.1 c102.2
  replace hE:=hE_
  have hr_:=hS.ra 4
  obtain ⟨cs105,⟨A107,c108,rfl,g109⟩,hc106⟩:=qCI hr_ qF.z x89 c102.1 c102.2
  refine plc hE (.r 0 1<|.x 1 c100<|.cs 2 hc106<|.nil) (fun a hE=>ple hE (.al (t:=49) hS [iv 0,.slice none 0 0]) ?_)
  rintro _ u111 a ⟨b110,rfl,hb110,hS,hg⟩ hE
  refine plc hE (.r 4 1 .nil) (fun a hE=>ple hE (.sto hS [iv ((nth qF.z l88 x89).f0),.slice A107 (((nth qF.z l88 x89).f1).length) c108]) ?_)
  rintro _ u112 a ⟨rfl,hb110,hS,hz⟩ hE
  refine pld (hK99 _ _ ?_)
  refine drawn 9 ⟨[8],[],fun q=>False⟩ mixed rfl (by kernel_rfl) (fun hst=>?_)
  replace hS:=hS.drew
  have hb2:=hS.ba 1
  have hb110:=hS.ba 0
  refine mny 4 hst hE (.r 0 1<|.b 1 6 hb2<|.r 2 2<|.b 4 1 hb110<|.nil) (fun a hE=>?_)
  obtain ⟨t114,h115,H⟩:=bd H
  refine on1 5 hE (.cl en131 (qBN.calls k93 ((nth qF.z l88 x89).f1) _ _ _ _ _ hS.own.sub g109 h115)) ?_
  rintro _ u113 a ⟨F116,A117,c118,rfl,hC⟩ hE
  refine ⟨.of hC.agr,?_⟩
  have hs:=hC.sub
  replace hS:=hS.called (X:=[]) hC
  replace g109:=g109.mono hs
  have hr121:=hS.ra 6
  have c122:0≤x89∧x89<(l88.length:Int):=by rw [← (qCH hr121).1]; exact c100
  have hr_:=hS.ra 6
  obtain ⟨cs124,⟨A126,c127,rfl,g128⟩,hc125⟩:=qCI hr_ qF.z x89 c122.1 c122.2
  refine mny 1 hst hE (.x 6 c100<|.r 7 1<|.nil) (fun a hE=>?_)
  obtain ⟨F130,hs,g131,hS⟩:=hS.give
  replace g109:=g109.mono hs
  replace hS:=hS.front 5 rfl
  obtain ⟨cs135,⟨A132,c133,rfl,g134⟩,hc136⟩:=qCI (hS.row_at (i:=0) rfl) qF.z x89 c122.1 c122.2
  refine on1 8 hE (.set (d:=qF.k) (n:=t78.length) (i:=x89) (⟨(nth qF.z l88 x89).f0,t114⟩:qF) 1 (ea1 _ _ _) hS c122 [iv ((nth qF.z l88 x89).f0),.slice A132 (((nth qF.z l88 x89).f1).length) c133] hc136 [iv ((nth qF.z l88 x89).f0),.slice A117 t114.length c118] ⟨_,_,rfl,g131⟩) ?_
  rintro _ u129 a ⟨rfl,hS,hz⟩ hE
  refine ⟨.d,?_⟩
  refine dn ?_
  refine qCF ?_
  refine hK98 _ _ (pl0 (plc hE (.r 0 2 .nil) (fun a hE=>pld ?_)))
  replace hS:=hS.pm [2,3,4,5,0] 6
  exact qCG ⟨k93,by omega,_,(l88.set (x89).toNat (⟨(nth qF.z l88 x89).f0,t114⟩:qF)),(w64 (x89+1)),F130,by omega,hE,.of,hS,H⟩
 refine wp_exit ?_
 refine hK86 _ _ (sq fun K137 hK137=>pl0 ?_)
 have hb2:=hS.ba 0
 refine plc hE (.bn 0 0 7 hb2 .nil) (fun a hE=>?_)
 replace hS:=hS.front 1 rfl
 refine ple hE (.sto hS [iv x0_.f0,iv x0_.f1,iv x0_.f2,iv x0_.f3,.slice A11 t8.length c12,.slice A19 t16.length c20,.slice A81 t78.length c82]) ?_
 rintro _ u138 a ⟨rfl,hb4,hS,hz⟩ hE
 refine pld (hK137 _ _ (wp_ret ?_))
 have hn139:=(qCH (hS.row_at (i:=3) rfl)).1
 replace hS:St W (mine W []) F u138 F90 [box b4 #[iv x0_.f0,iv x0_.f1,iv x0_.f2,iv x0_.f3,.slice A11 t8.length c12,.slice A19 l27.length c20,.slice A81 t78.length c82] 26,box b2 #[iv x0_.f0,iv x0_.f1,iv x0_.f2,iv x0_.f3,.slice A11 t8.length c12,.slice A19 l27.length c20,.slice A81 t78.length c82] 26,row qA.k 104 (.slice A11 t8.length c12) t8,row qM.k 97 (.slice A19 l27.length c20) l27,row qF.k 49 (.slice A81 t78.length c82) l88]:=by rw [← hn139]; exact hS
 have hn140:=(qCH (hS.row_at (i:=4) rfl)).1
 replace hS:St W (mine W []) F u138 F90 [box b4 #[iv x0_.f0,iv x0_.f1,iv x0_.f2,iv x0_.f3,.slice A11 t8.length c12,.slice A19 l27.length c20,.slice A81 l88.length c82] 26,box b2 #[iv x0_.f0,iv x0_.f1,iv x0_.f2,iv x0_.f3,.slice A11 t8.length c12,.slice A19 l27.length c20,.slice A81 l88.length c82] 26,row qA.k 104 (.slice A11 t8.length c12) t8,row qM.k 97 (.slice A19 l27.length c20) l27,row qF.k 49 (.slice A81 l88.length c82) l88]:=by rw [← hn140]; exact hS
 have hb4:=hS.ba 0
 replace hS:=hS.pm [] 2
 obtain rfl:=si H
 exact ret1 hE rfl (.cell (by kernel_rfl) (qCJ [iv x0_.f0,iv x0_.f1,iv x0_.f2,iv x0_.f3,.slice A11 t8.length c12,.slice A19 l27.length c20,.slice A81 l88.length c82] ag26 sz26 hb4 rfl) .nil) ⟨_,rfl,_,_,_,_,_,_,_,rfl,hS⟩
def qBJ.f(x0_:Int):Option Bool:=some (!(x0_ == x0_))
def qBJ.Post(W F:World)(r:Bool)(v:Value)(w':World):Prop:=∃(F':World),v = .bool r∧St W (mine W []) F w' F' []
theorem qBJ.calls(x0_:Int)(r:Bool)(W F:World)(hown:Sub F W)(H:qBJ.f x0_=some r):
    Calls Tryz.prog 202 #[iv x0_] W fun e w'=>∃ v,e = .returned v∧qBJ.Post W F r v w':=by
 have hS:=St.start (Own.nil hown)
 unfold qBJ.f at H
 refine enter (n:=6) rfl rfl rfl (Nat.le_of_ble_eq_true rfl) (fun a hE=>?_)
 refine rr hE fun a hE=>(rr hE fun a hE=>(wp_ret ?_))
 obtain rfl:=si H
 exact rt1 hE ⟨_,rfl,_,rfl,hS⟩
def qAP.f(x0_:Int)(x1_:Int):Option Int:=(qBJ.f x0_).bind fun t4=>((qBJ.f x1_).bind fun t8=>(if t4=true then (if t8=true then (some 0) else (some (-1))) else (if t8=true then (some 1) else (if x0_<x1_ then (some (-1)) else (if x0_>x1_ then (some 1) else (some 0))))))
def qAP.Post(W F:World)(r:Int)(v:Value)(w':World):Prop:=∃(F':World),v=iv r∧St W (mine W []) F w' F' []
theorem qAP.calls(x0_:Int)(x1_:Int)(r:Int)(W F:World)(hown:Sub F W)(H:qAP.f x0_ x1_=some r):
    Calls Tryz.prog 161 #[iv x0_,iv x1_] W fun e w'=>∃ v,e = .returned v∧qAP.Post W F r v w':=by
 have hS:=St.start (Own.nil hown)
 unfold qAP.f at H
 refine enter (n:=20) rfl rfl rfl (Nat.le_of_ble_eq_true rfl) (fun a hE=>?_)
 refine rr hE fun a hE=>(sq fun K2 hK2=>pl0 (plc hE (.r 0 1 .nil) (fun a hE=>?_)))
 obtain ⟨t4,h5,H⟩:=bd H
 refine ple hE (.cl en202 (qBJ.calls x0_ _ _ _ hS.own.sub h5)) ?_
 rintro _ u3 a ⟨_,rfl,hC⟩ hE
 replace hS:=hS.lent hC
 refine plc hE (.r 2 1 .nil) (fun a hE=>pld (hK2 _ _ (sq fun K6 hK6=>pl0 (plc hE (.r 0 1 .nil) (fun a hE=>?_)))))
 obtain ⟨t8,h9,H⟩:=bd H
 refine ple hE (.cl en202 (qBJ.calls x1_ _ _ _ hS.own.sub h9)) ?_
 rintro _ u7 a ⟨_,rfl,hC⟩ hE
 replace hS:=hS.lent hC
 refine plc hE (.r 2 1 .nil) (fun a hE=>pld (hK6 _ _ (sq fun K10 hK10=>rr hE fun a hE=>?_)))
 refine hE.ib 11 H (fun c12 hE H=>?_) fun c12 hE H=>?_
 ·
  refine sq fun K13 hK13=>rr hE fun a hE=>?_
  refine hE.ib 12 H (fun c15 hE H=>?_) fun c15 hE H=>?_
  ·
   refine rr hE fun a hE=>(wp_ret (qCD (qCD ?_)))
   obtain rfl:=si H
   exact rt1 hE ⟨_,rfl,_,rfl,hS⟩
  refine wp_skip (hK13 _ _ (rr hE fun a hE=>(wp_ret (qCD ?_))))
  obtain rfl:=si H
  exact rt1 hE ⟨_,rfl,_,rfl,hS⟩
 refine wp_skip (hK10 _ _ (sq fun K18 hK18=>rr hE fun a hE=>?_))
 refine hE.ib 13 H (fun c20 hE H=>?_) fun c20 hE H=>?_
 ·
  refine rr hE fun a hE=>(wp_ret (qCD ?_))
  obtain rfl:=si H
  exact rt1 hE ⟨_,rfl,_,rfl,hS⟩
 refine wp_skip (hK18 _ _ (sq fun K22 hK22=>rr hE fun a hE=>?_))
 refine hE.ik 16 H (fun c24 hE H=>?_) fun c24 hE H=>?_
 ·
  refine rr hE fun a hE=>(wp_ret (qCD ?_))
  obtain rfl:=si H
  exact rt1 hE ⟨_,rfl,_,rfl,hS⟩
 refine wp_skip (hK22 _ _ (sq fun K26 hK26=>rr hE fun a hE=>?_))
 refine hE.ik 19 H (fun c28 hE H=>?_) fun c28 hE H=>?_
 ·
  refine rr hE fun a hE=>(wp_ret (qCD ?_))
  obtain rfl:=si H
  exact rt1 hE ⟨_,rfl,_,rfl,hS⟩
 refine wp_skip (hK26 _ _ (rr hE fun a hE=>(wp_ret ?_)))
 obtain rfl:=si H
 exact rt1 hE ⟨_,rfl,_,rfl,hS⟩
def qBt.f(x0_:qA)(x1_:Int):Option Int:=(qAP.f x0_.f0 x1_).bind fun t6=>(some t6)
def qBt.Post(W F:World)(r:Int)(v:Value)(w':World):Prop:=∃(F':World),v=iv r∧St W (mine W []) F w' F' []
theorem qBt.calls(x0_:qA)(x1_:Int)(r:Int)(W F:World)(hown:Sub F W)(H:qBt.f x0_ x1_=some r):
    Calls Tryz.prog 179 #[.agg #[iv x0_.f0,iv x0_.f1,iv x0_.f2,iv x0_.f3,.bool x0_.f4,.bool x0_.f5],iv x1_] W fun e w'=>∃ v,e = .returned v∧qBt.Post W F r v w':=by
 have hS:=St.start (Own.nil hown)
 unfold qBt.f at H
 refine enter (n:=9) rfl rfl rfl (Nat.le_of_ble_eq_true rfl) (fun a hE=>?_)
 refine sq fun K1 hK1=>pl0 (ple hE (.bx (t:=104) hS [iv x0_.f0,iv x0_.f1,iv x0_.f2,iv x0_.f3,.bool x0_.f4,.bool x0_.f5]) ?_)
 rintro _ u3 a ⟨b2,rfl,hb2,hS,hg⟩ hE
 refine plc hE (.r 1 1 .nil) (fun a hE=>pld (hK1 _ _ (sq fun K4 hK4=>pl0 (plc hE (.r 0 1<|.b 1 0 hb2<|.r 2 1<|.nil) (fun a hE=>?_)))))
 obtain ⟨t6,h7,H⟩:=bd H
 refine ple hE (.cl en161 (qAP.calls x0_.f0 x1_ _ _ _ hS.own.sub h7)) ?_
 rintro _ u5 a ⟨_,rfl,hC⟩ hE
 replace hS:=hS.lent hC
 refine plc hE (.r 4 1 .nil) (fun a hE=>pld (hK4 _ _ (wp_ret ?_)))
 replace hS:=hS.tail
 obtain rfl:=si H
 exact rt1 hE ⟨_,rfl,_,rfl,hS⟩
def qX.l7:Nat→List qA→Int→Int→Int→Option (Int × Bool)
 | 0,_,_,_,_=>none
 | k+1,x0_,x1_,x5,x6=>if x5<x6 then (if 0≤(w64 ((IntKind.u64.wrap (w64 (x5+x6))).fdiv 2))∧(w64 ((IntKind.u64.wrap (w64 (x5+x6))).fdiv 2))<(x0_.length:Int) then ((qBt.f (⟨(nth qA.z x0_ (w64 ((IntKind.u64.wrap (w64 (x5+x6))).fdiv 2))).f0,(nth qA.z x0_ (w64 ((IntKind.u64.wrap (w64 (x5+x6))).fdiv 2))).f1,(nth qA.z x0_ (w64 ((IntKind.u64.wrap (w64 (x5+x6))).fdiv 2))).f2,(nth qA.z x0_ (w64 ((IntKind.u64.wrap (w64 (x5+x6))).fdiv 2))).f3,(nth qA.z x0_ (w64 ((IntKind.u64.wrap (w64 (x5+x6))).fdiv 2))).f4,(nth qA.z x0_ (w64 ((IntKind.u64.wrap (w64 (x5+x6))).fdiv 2))).f5⟩:qA) x1_).bind fun t22=>(if t22<0 then (qX.l7 k x0_ x1_ (w64 ((w64 ((IntKind.u64.wrap (w64 (x5+x6))).fdiv 2))+1)) x6) else (qX.l7 k x0_ x1_ x5 (w64 ((IntKind.u64.wrap (w64 (x5+x6))).fdiv 2))))) else (none)) else (if x5<(x0_.length:Int) then (if 0≤x5∧x5<(x0_.length:Int) then ((qBt.f (⟨(nth qA.z x0_ x5).f0,(nth qA.z x0_ x5).f1,(nth qA.z x0_ x5).f2,(nth qA.z x0_ x5).f3,(nth qA.z x0_ x5).f4,(nth qA.z x0_ x5).f5⟩:qA) x1_).bind fun t33=>(some (x5,(t33 == 0)))) else (none)) else (some (x5,false)))
theorem qX.l7_s k x0_ x1_ x5 x6:type_of% (qX.l7.eq_2 x0_ x1_ x5 x6 k):=qX.l7.eq_2 x0_ x1_ x5 x6 k
def qX.f(k:Nat)(x0_:List qA)(x1_:Int):Option (Int × Bool):=qX.l7 k x0_ x1_ 0 (x0_.length:Int)
def qX.Post(W F:World)(r:Int × Bool)(v:Value)(w':World):Prop:=∃(F':World),v = .tuple #[iv r.1,.bool r.2]∧St W (mine W []) F w' F' []
theorem qX.calls(k:Nat)(x0_:List qA)(x1_:Int)(A0_0:Option Addr)(c0_0:Nat)(r:Int × Bool)(W F:World)(hown:Sub F W)(g0_0:Rd qA.k F A0_0 c0_0 x0_)(H:qX.f k x0_ x1_=some r):
    Calls Tryz.prog 173 #[.slice A0_0 x0_.length c0_0,iv x1_,.func (.func 179) #[] #[]] W fun e w'=>∃ v,e = .returned v∧qX.Post W F r v w':=by
 have hS:=St.start (Own.nil hown)
 unfold qX.f at H
 refine enter (n:=49) rfl rfl rfl (Nat.le_of_ble_eq_true rfl) (fun a hE=>?_)
 refine rr hE fun a hE=>(rr hE fun a hE=>(rr hE fun a hE=>(sq fun K4 hK4=>wp_block ?_)))
 refine wp_loop_ghost (fun kq8 a w'=>∃(G:Nat→Value)(x5:Int)(x6:Int),kq8≤k∧Env 49 G a∧At G [(0,.slice A0_0 x0_.length c0_0),(1,iv x1_),(2,.func (.func 179) #[] #[]),(8,iv (x0_.length:Int)),(9,iv x5),(10,iv x6)]∧St W (mine W []) F w' F []∧qX.l7 kq8 x0_ x1_ x5 x6=some r) k ⟨_,0,(x0_.length:Int),Nat.le_refl _,hE,.of,hS,H⟩ ?_
 rintro kq8 a u10 ⟨G,x5,x6,hkq,hE,hA,hS,H⟩
 obtain _ | k9:=kq8
 ·
  exact zz H
 rw [qX.l7_s]at H
 obtain ⟨J,hE⟩:=hE.at hA
 refine sq fun K11 hK11=>rr hE fun a hE=>?_
 refine hE.ik 17 H (fun c13 hE H=>?_) fun c13 hE H=>?_
 ·
  refine wp_skip (hK11 _ _ (wp_block (rr hE fun a hE=>(sq fun K15 hK15=>pl0 ?_))))
  obtain ⟨c16,H⟩:=gd H
  have hE_:=hE
  obtain ⟨ad17,rfl⟩:=g0_0.addr c16.1 c16.2
  replace hE:=hE_
  obtain ⟨cs19,rfl,hc20⟩:=g0_0.el qA.z (w64 ((IntKind.u64.wrap (w64 (x5+x6))).fdiv 2)) c16.1 c16.2
  refine plc hE (.r 0 3<|.x 3 c16<|.cs 4 (hS.fcs hc20)<|.r 5 1<|.nil) (fun a hE=>?_)
  obtain ⟨t22,h23,H⟩:=bd H
  refine ple hE (.cl en179 (qBt.calls (⟨(nth qA.z x0_ (w64 ((IntKind.u64.wrap (w64 (x5+x6))).fdiv 2))).f0,(nth qA.z x0_ (w64 ((IntKind.u64.wrap (w64 (x5+x6))).fdiv 2))).f1,(nth qA.z x0_ (w64 ((IntKind.u64.wrap (w64 (x5+x6))).fdiv 2))).f2,(nth qA.z x0_ (w64 ((IntKind.u64.wrap (w64 (x5+x6))).fdiv 2))).f3,(nth qA.z x0_ (w64 ((IntKind.u64.wrap (w64 (x5+x6))).fdiv 2))).f4,(nth qA.z x0_ (w64 ((IntKind.u64.wrap (w64 (x5+x6))).fdiv 2))).f5⟩:qA) x1_ _ _ _ hS.own.sub h23)) ?_
  rintro _ u21 a ⟨_,rfl,hC⟩ hE
  replace hS:=hS.lent hC
  refine plc hE (.r 7 1 .nil) (fun a hE=>pld (hK15 _ _ ?_))
  refine hE.ik 31 H (fun c24 hE H=>?_) fun c24 hE H=>?_
  ·
   refine pl0 (plc hE (.r 0 3 .nil) (fun a hE=>pld ?_))
   refine qCF ?_
   exact qCG ⟨k9,by omega,_,(w64 ((w64 ((IntKind.u64.wrap (w64 (x5+x6))).fdiv 2))+1)),x6,by omega,hE,.of,hS,H⟩
  refine pl0 (plc hE (.r 0 2 .nil) (fun a hE=>pld ?_))
  refine qCF ?_
  exact qCG ⟨k9,by omega,_,x5,(w64 ((IntKind.u64.wrap (w64 (x5+x6))).fdiv 2)),by omega,hE,.of,hS,H⟩
 refine wp_exit ?_
 refine hK4 _ _ (sq fun K25 hK25=>pl0 (plc hE (.r 0 5 .nil) (fun a hE=>?_)))
 rcases sp H with ⟨c26,H⟩ | ⟨c26,H⟩
 ·
  replace hE:=hE.kt 39 c26
  obtain ⟨c27,H⟩:=gd H
  have hE_:=hE
  obtain ⟨ad28,rfl⟩:=g0_0.addr c27.1 c27.2
  replace hE:=hE_
  obtain ⟨cs30,rfl,hc31⟩:=g0_0.el qA.z x5 c27.1 c27.2
  refine plc hE (.r 5 3<|.x 8 c27<|.cs 9 (hS.fcs hc31)<|.r 10 1<|.nil) (fun a hE=>?_)
  obtain ⟨t33,h34,H⟩:=bd H
  refine ple hE (.cl en179 (qBt.calls (⟨(nth qA.z x0_ x5).f0,(nth qA.z x0_ x5).f1,(nth qA.z x0_ x5).f2,(nth qA.z x0_ x5).f3,(nth qA.z x0_ x5).f4,(nth qA.z x0_ x5).f5⟩:qA) x1_ _ _ _ hS.own.sub h34)) ?_
  rintro _ u32 a ⟨_,rfl,hC⟩ hE
  replace hS:=hS.lent hC
  refine plc hE (.r 12 4 .nil) (fun a hE=>pld (hK25 _ _ (wp_ret ?_)))
  obtain rfl:=si H
  exact rtN hE ⟨_,rfl,_,rfl,hS⟩
 replace hE:=hE.kf 39 c26
 refine plc hE (.r 5 11 .nil) (fun a hE=>pld (hK25 _ _ (wp_ret ?_)))
 obtain rfl:=si H
 exact rtN hE ⟨_,rfl,_,rfl,hS⟩
def qBy.f(k:Nat)(x0_:qJ)(x1_:Int):Option (Int × Bool):=(qX.f k x0_.f4 x1_).bind fun t6=>(some (t6.1,t6.2))
def qBy.Post(W F:World)(r:Int × Bool)(v:Value)(w':World):Prop:=∃(F':World),v = .tuple #[iv r.1,.bool r.2]∧St W (mine W []) F w' F' []
theorem qBy.calls(k:Nat)(x0_:qJ)(x1_:Int)(A0_4:Option Addr)(c0_4:Nat)(A0_5:Option Addr)(c0_5:Nat)(A0_6:Option Addr)(c0_6:Nat)(r:Int × Bool)(W F:World)(hown:Sub F W)(g0_4:Rd qA.k F A0_4 c0_4 x0_.f4)(g0_5:Rd qM.k F A0_5 c0_5 x0_.f5)(g0_6:Rd qF.k F A0_6 c0_6 x0_.f6)(H:qBy.f k x0_ x1_=some r):
    Calls Tryz.prog 135 #[.agg #[iv x0_.f0,iv x0_.f1,iv x0_.f2,iv x0_.f3,.slice A0_4 x0_.f4.length c0_4,.slice A0_5 x0_.f5.length c0_5,.slice A0_6 x0_.f6.length c0_6],iv x1_] W fun e w'=>∃ v,e = .returned v∧qBy.Post W F r v w':=by
 have hS:=St.start (Own.nil hown)
 unfold qBy.f at H
 refine enter (n:=12) rfl rfl rfl (Nat.le_of_ble_eq_true rfl) (fun a hE=>?_)
 refine sq fun K1 hK1=>pl0 (ple hE (.bx (t:=26) hS [iv x0_.f0,iv x0_.f1,iv x0_.f2,iv x0_.f3,.slice A0_4 x0_.f4.length c0_4,.slice A0_5 x0_.f5.length c0_5,.slice A0_6 x0_.f6.length c0_6]) ?_)
 rintro _ u3 a ⟨b2,rfl,hb2,hS,hg⟩ hE
 refine plc hE (.r 1 2 .nil) (fun a hE=>pld (hK1 _ _ (sq fun K4 hK4=>pl0 (plc hE (.r 0 1<|.b 1 4 hb2<|.r 2 1<|.nil) (fun a hE=>?_)))))
 obtain ⟨t6,h7,H⟩:=bd H
 refine ple hE (.cl en173 (qX.calls k x0_.f4 x1_ _ _ _ _ _ hS.own.sub g0_4 h7)) ?_
 rintro _ u5 a ⟨_,rfl,hC⟩ hE
 replace hS:=hS.lent hC
 refine plc hE (.r 4 4 .nil) (fun a hE=>pld (hK4 _ _ (wp_ret ?_)))
 replace hS:=hS.tail
 obtain rfl:=si H
 exact rtN hE ⟨_,rfl,_,rfl,hS⟩
def qAf.f(x0_:List qA)(x1_:Int)(x2_:List qA):Option (List qA):=match x2_ with
 | [x]=>if 0≤x1_∧x1_≤(x0_.length:Int)∧x0_.length≤1000000 then some (x0_.take x1_.toNat++x :: x0_.drop x1_.toNat) else none
 | _=>none
def qAf.Post(x0_:List qA)(x1_:Int)(x2_:List qA)(A0_0:Option Addr)(c0_0:Nat)(A2_0:Option Addr)(c2_0:Nat)(W F:World)(r:List qA)(v:Value)(w':World):Prop:=∃(F':World)(RA0_0:Option Addr)(rc0_0:Nat),v = .slice RA0_0 r.length rc0_0∧St W (mine W [row qA.k 104 (.slice A0_0 x0_.length c0_0) x0_,row qA.k 104 (.slice A2_0 x2_.length c2_0) x2_]) F w' F' [row qA.k 104 (.slice RA0_0 r.length rc0_0) r]
set_option maxHeartbeats 4000000 in
set_option maxRecDepth 100000 in
theorem qAf.calls(x0_:List qA)(x1_:Int)(x2_:List qA)(A0_0:Option Addr)(c0_0:Nat)(A2_0:Option Addr)(c2_0:Nat)(r:List qA)(W F:World)(hown:Own W F [row qA.k 104 (.slice A0_0 x0_.length c0_0) x0_,row qA.k 104 (.slice A2_0 x2_.length c2_0) x2_])(H:qAf.f x0_ x1_ x2_=some r):
  Calls Tryz.prog 176 #[.slice A0_0 x0_.length c0_0,iv x1_,.slice A2_0 x2_.length c2_0] W fun e w'=>∃ v,e = .returned v∧qAf.Post x0_ x1_ x2_ A0_0 c0_0 A2_0 c2_0 W F r v w':=by
 have hS:=St.start hown
 unfold qAf.f at H
 rcases x2_ with _ | ⟨x,_ | ⟨y,l⟩⟩
 ·cases H
 rotate_left
 ·cases H
 replace H:(if 0≤x1_∧x1_≤(x0_.length:Int)∧x0_.length≤1000000 then some (x0_.take x1_.toNat++x :: x0_.drop x1_.toNat) else none)=some r:=H
 by_cases hc:0≤x1_∧x1_≤(x0_.length:Int)∧x0_.length≤1000000
 rotate_left
 ·rw [if_neg hc]at H; cases H
 rw [if_pos hc]at H
 have hr:=Option.some.inj H
 clear H
 obtain ⟨h0,h1,hm⟩:=hc
 obtain ⟨j,rfl⟩:∃ j:Nat,x1_=j:=⟨x1_.toNat,by omega⟩
 simp only [Int.toNat_natCast]at hr
 refine enter (n:=95) rfl rfl rfl (Nat.le_of_ble_eq_true rfl) (fun a hE=>?_)
 obtain ⟨A12,c12,hA12,hv12⟩:=y_suf (P:=Tryz.prog) (k:=.i64) (hS.row_at (i:=0) rfl) ⟨h0,h1⟩
 refine sq fun K0 hK0=>?_
 refine pl0 ?_
 refine plc hE (.r 0 1 .nil) (fun a hE=>?_)
 refine pld ?_
 refine hK0 _ _ ?_
 refine sq fun K1 hK1=>?_
 refine pl0 ?_
 refine plc hE (.r 0 2<|.y 2 (hv12 (by kernel_rfl)) .nil) (fun a hE=>?_)
 refine pld ?_
 refine hK1 _ _ ?_
 refine sq fun K2 hK2=>?_
 refine pl0 ?_
 refine plc hE (.r 0 3 .nil) (fun a hE=>?_)
 refine pld ?_
 refine hK2 _ _ ?_
 refine sq fun K3 hK3=>?_
 refine sq fun K4 hK4=>?_
 refine pl0 ?_
 refine plc hE (.r 0 2 .nil) (fun a hE=>?_)
 refine pld ?_
 refine hK4 _ _ ?_
 refine cf hE ?_
 refine wp_skip ?_
 refine hK3 _ _ ?_
 refine sq fun K5 hK5=>?_
 refine pl0 ?_
 refine plc hE (.r 0 3 .nil) (fun a hE=>?_)
 refine pld ?_
 refine hK5 _ _ ?_
 refine sq fun K6 hK6=>?_
 refine sq fun K7 hK7=>?_
 refine pl0 ?_
 refine plc hE (.r 0 3 .nil) (fun a hE=>?_)
 refine pld ?_
 refine hK7 _ _ ?_
 by_cases hi:(j:Int)=(x0_.length:Int)
 ·replace hE:=hE.kt 22 hi
  refine ct hE ?_
  obtain rfl:j=x0_.length:=by omega
  obtain rfl:x0_++[x]=r:=by rw [← hr]; simp
  refine sq fun K8 hK8=>?_
  refine pl0 ?_
  refine plc hE (.r 0 2 .nil) (fun a hE=>?_)
  refine ple hE (.ap (d:=qA.k) 40 hS (qCO (hS.row_at (i:=1) rfl)) (by simp only [List.length_cons,List.length_nil]; omega) c2_0) ?_
  rintro _ w1 a ⟨A1,c1,rfl,hS,hz⟩ hE
  refine plc hE (.r 3 1 .nil) (fun a hE=>?_)
  refine pld ?_
  refine hK8 _ _ ?_
  refine wp_ret (qCD ?_)
  replace hS:=hS.front 1 rfl
  replace hS:=hS.tail
  exact rt1 hE ⟨_,rfl,F,_,_,rfl,hS⟩
 replace hE:=hE.kf 22 hi
 refine cf hE ?_
 refine wp_skip ?_
 refine hK6 _ _ ?_
 have hlt:j<x0_.length:=by omega
 have hxc:x0_.length≤c0_0∧c0_0≤maxLen:=by
  obtain ⟨_,q1,q2,_⟩:=qCH (hS.row_at (i:=0) rfl)
  exact ⟨q1,q2⟩
 have hxc2:[x].length≤c2_0:=(qCH (hS.row_at (i:=1) rfl)).2.1
 have hE_:=hE
 obtain ⟨g,cur,rfl,hsz,hrep,hS⟩:=hS.unrow (by omega)
 replace hS:=hS.front 1 rfl
 obtain ⟨g2,cur2,rfl,hsz2,hrep2,hS⟩:=hS.unrow (by simp)
 replace hE:=hE_
 have hne:g2≠g:=hS.ne (i:=0) (j:=1) rfl rfl (by decide)
 obtain ⟨cs,hcs⟩:∃ cs,cs=cur2.toList.take 6:=⟨_,rfl⟩
 have hx:(qA.k).K F x cs:=by
  have h5:=hrep2.2 0 x rfl
  rw [Nat.zero_mul,List.drop_zero,List.take_take]at h5
  rw [hcs]
  exact h5
 have hcl:cs.length=6:=(qA.k).len hx
 have hcget:∀ q u,cs[q]? = some u→cur2[q]? = some u:=fun q u hq=>by
  rw [hcs,List.getElem?_take]at hq
  split at hq
  ·rwa [Array.getElem?_toList]at hq
  ·cases hq
 have hcone:∀ u ∈ cs,u.oneCell'=true:=(qA.k).one hx
 obtain ⟨inner,hin⟩:∃ inner,inner=cur.toList.take (x0_.length * 6):=⟨_,rfl⟩
 replace hrep:RepsK qA.k F x0_ inner:=by rw [hin]; exact hrep
 have hil:inner.length=x0_.length * 6:=hrep.1
 have hione:∀ u ∈ inner.drop (j * 6),u.oneCell'=true:=fun u hu=>hrep.one u (List.mem_of_mem_drop hu)
 have hidl:(inner.drop (j * 6)).length=(x0_.length - j) * 6:=by rw [List.length_drop,hil,Nat.sub_mul]
 have higet:∀ q u,(inner.drop (j * 6))[q]? = some u→cur[j * 6+q]? = some u:=fun q u hq=>by
  rw [List.getElem?_drop,hin,List.getElem?_take]at hq
  split at hq
  ·rwa [Array.getElem?_toList]at hq
  ·cases hq
 replace hsz:cur.size=c0_0 * 6:=hsz
 have hw1:w64 ((x0_.length:Int)+(([x].length:Nat):Int))=((x0_.length+1:Nat):Int):=by
  simp only [List.length_cons,List.length_nil]
  rw [qCN (by omega) (by omega)]
  omega
 have hw2:w64 ((j:Int)+(([x].length:Nat):Int))=((j+1:Nat):Int):=by
  simp only [List.length_cons,List.length_nil]
  rw [qCN (by omega) (by omega)]
  omega
 refine sq fun K9 hK9=>?_
 refine sq fun K10 hK10=>?_
 refine pl0 ?_
 refine plc hE (.r 0 4<|.y 4 (y_cap (A:=some ⟨g,0,none⟩) (n:=x0_.length) (c:=c0_0))<|.r 5 1 .nil) (fun a hE=>?_)
 refine pld ?_
 refine hK10 _ _ ?_
 by_cases hroom:w64 ((x0_.length:Int)+(([x].length:Nat):Int))>(c0_0:Int)
 ·replace hE:=hE.kt 31 hroom
  rw [hw1]at hroom
  refine ct hE ?_
  have hw3:w64 (w64 ((x0_.length:Int)+(([x].length:Nat):Int)) - (j:Int))=((x0_.length+1 - j:Nat):Int):=by
   rw [hw1,qCN (by omega) (by omega)]
   omega
  refine sq fun K11 hK11=>?_
  refine pl0 ?_
  refine plc hE (.r 0 2<|.y 2 (y_hi (e:=104) (z:=6) (g:=g) (n:=x0_.length) (c:=c0_0) (k:=.i64) (hi:=(j:Int)) ⟨by omega,by omega⟩)<|.r 3 5 .nil) (fun a hE=>?_)
  refine ple hE (.gro (e:=104) (g:=g) (c:=c0_0) (j:=j) (z:=6) (bytes:=40) (k:=w64 (w64 ((x0_.length:Int)+(([x].length:Nat):Int)) - (j:Int))) hS (hS.ba 1) (by omega) (by omega) (by rw [hsz]; exact Nat.mul_le_mul_right _ (by omega)) (by rw [hw3]; omega) (by kernel_rfl)) ?_
  rintro _ w1 a ⟨b,arr,cc,rfl,has,hc1,hc2,hpre,hS,hag⟩ hE
  rw [hw3]at hc1 hE
  have hnb:g2≠b:=hS.ne (i:=1) (j:=0) rfl rfl (by decide)
  have hgb:g≠b:=hS.ne (i:=2) (j:=0) rfl rfl (by decide)
  have hk3:j+((x0_.length+1 - j:Nat):Int).toNat=x0_.length+1:=by rw [Int.toNat_natCast]; omega
  rw [hk3]at hc1 hE
  have hpi:arr.toList.take (j * 6)=inner.take (j * 6):=by
   rw [hpre,hin,List.take_take,Nat.min_eq_left (Nat.mul_le_mul_right _ (by omega))]
  obtain ⟨s1,s2,s3⟩:=qDk (sz:=6) (n:=x0_.length) (i:=j) (cap:=cc) (c0:=arr.toList) (inner:=inner) (cs:=cs) hpi hil hcl (by omega) hc1 (by rw [Array.length_toList]; exact has)
  obtain ⟨C1,hC1⟩:∃ C1,C1=arr.toList.take (j * 6)++cs++arr.toList.drop (j * 6+cs.length):=⟨_,rfl⟩
  rw [← hC1]at s1 s2 s3
  obtain ⟨C2,hC2⟩:∃ C2,C2=C1.take ((j+1) * 6)++inner.drop (j * 6)++C1.drop ((j+1) * 6+(inner.drop (j * 6)).length):=⟨_,rfl⟩
  rw [← hC2]at s1 s2
  refine plc hE (.r 9 1 .nil) (fun a hE=>?_)
  refine pld ?_
  refine hK11 _ _ ?_
  refine sq fun K12 hK12=>?_
  refine pl0 ?_
  refine plc hE (.r 0 2<|.y 2 (y_lo (e:=104) (z:=6) (g:=b) (n:=x0_.length+1) (c:=cc) (k:=.i64) (lo:=(j:Int)) ⟨by omega,by omega⟩ (by omega))<|.r 3 1 .nil) (fun a hE=>?_)
  have hb2:=hS.ba 1
  have hbg:=hS.ba 2
  have hmin1:Nat.min [x].length (x0_.length+1 - (j:Int).toNat)=1:=by
   rw [Int.toNat_natCast]
   simp only [List.length_cons,List.length_nil]
   exact Nat.min_eq_left (by omega)
  refine ple hE (.cpy (e:=104) (z:=6) (off:=(j:Int).toNat * 6) (dn:=x0_.length+1 - (j:Int).toNat) (dc:=cc - (j:Int).toNat) (sn:=[x].length) (sc:=c2_0) (sa:=⟨g2,0,none⟩) hS cs (by rw [hmin1,hcl]) (fun q u hq=>by rw [qCT,Nat.zero_add]; exact qCP hb2 (hcget q u hq)) hcone (by
   rw [Int.toNat_natCast,has,hcl]
   have:=Nat.mul_le_mul_right 6 (show j+1≤cc by omega)
   omega) (by kernel_rfl)) ?_
  rintro _ w2 a ⟨rfl,hS,hz,hnew,hoth⟩ hE
  simp only [Int.toNat_natCast]at hS hnew
  rw [← hC1]at hS hnew
  refine pld ?_
  refine hK12 _ _ ?_
  refine sq fun K13 hK13=>?_
  refine drawn 9 ⟨[8],[],fun q=>False⟩ mixed rfl (by kernel_rfl) (fun hst=>?_)
  replace hS:=hS.drew
  have hbg2:=hS.ba 2
  refine mny 1 hst hE (.r 0 4<|.y 4 (y_lo (e:=104) (z:=6) (g:=b) (n:=x0_.length+1) (c:=cc) (k:=.i64) (lo:=w64 ((j:Int)+(([x].length:Nat):Int))) ⟨by omega,by omega⟩ (by omega))<|.r 5 2<|.y 7 (y_lo (e:=104) (z:=6) (g:=g) (n:=x0_.length) (c:=c0_0) (k:=.i64) (lo:=(j:Int)) ⟨by omega,by omega⟩ (by omega)) .nil) (fun a hE=>?_)
  refine on1 8 hE (.cpy (e:=104) (z:=6) (off:=(w64 ((j:Int)+(([x].length:Nat):Int))).toNat * 6) (dn:=x0_.length+1 - (w64 ((j:Int)+(([x].length:Nat):Int))).toNat) (dc:=cc - (w64 ((j:Int)+(([x].length:Nat):Int))).toNat) (sn:=x0_.length - (j:Int).toNat) (sc:=c0_0 - (j:Int).toNat) (sa:=⟨g,(j:Int).toNat * 6,none⟩) hS (inner.drop (j * 6)) (by
   rw [hw2,Int.toNat_natCast,Int.toNat_natCast,hidl,show x0_.length+1 - (j+1)=x0_.length - j by omega]
   congr 1
   exact (Nat.min_self _).symm) (fun q u hq=>by rw [qCT,Int.toNat_natCast]; exact qCP hbg2 (higet q u hq)) hione (by
   rw [hw2,Int.toNat_natCast,hidl,List.size_toArray,s3,← Nat.add_mul]
   exact Nat.mul_le_mul_right _ (by omega)) (by kernel_rfl)) ?_
  rintro _ w3 a ⟨rfl,hS,hz,hnew,hoth⟩ hE
  refine ⟨.d,?_⟩
  refine dn ?_
  rw [hw2,Int.toNat_natCast]at hS
  simp only [List.toList_toArray]at hS
  rw [← hC2]at hS
  refine hK13 _ _ ?_
  refine sq fun K14 hK14=>?_
  refine pl0 ?_
  refine plc hE (.r 0 2 .nil) (fun a hE=>?_)
  refine pld ?_
  refine hK14 _ _ ?_
  refine wp_ret (qCD ?_)
  have hrl:r.length=x0_.length+1:=by rw [← hr]; simp; omega
  have hrr:RepsK qA.k F r (C2.toArray.toList.take (r.length * (qA.k).sz)):=by
   rw [hrl]
   show RepsK qA.k F r (C2.take ((x0_.length+1) * 6))
   rw [s1,← hr]
   exact qCh hrep hx (by omega) rfl
  have hS2:=hS.rerow (c:=cc) r (show C2.toArray.size=cc * 6 by simpa using s2) (by omega) hc2 hrr
  replace hS2:=hS2.front 1 rfl
  replace hS2:=hS2.tail
  replace hS2:=hS2.front 1 rfl
  replace hS2:=hS2.tail
  rw [← hrl]at hE
  exact rt1 hE ⟨_,rfl,F,_,_,rfl,hS2⟩
 replace hE:=hE.kf 31 hroom
 rw [hw1]at hroom
 have hrm:x0_.length+1≤c0_0:=by omega
 refine cf hE ?_
 refine wp_skip ?_
 refine hK9 _ _ ?_
 obtain ⟨s1,s2,s3⟩:=qEK (sz:=6) (n:=x0_.length) (i:=j) (cap:=c0_0) (cur:=cur.toList) (inner:=inner) (cs:=cs) hin.symm hcl (by omega) hrm (by rw [Array.length_toList]; exact hsz)
 obtain ⟨C1,hC1⟩:∃ C1,C1=cur.toList.take ((j+1) * 6)++inner.drop (j * 6)++cur.toList.drop ((j+1) * 6+(inner.drop (j * 6)).length):=⟨_,rfl⟩
 rw [← hC1]at s1 s2 s3
 obtain ⟨C2,hC2⟩:∃ C2,C2=C1.take (j * 6)++cs++C1.drop (j * 6+cs.length):=⟨_,rfl⟩
 rw [← hC2]at s1 s2
 refine sq fun K15 hK15=>?_
 refine pl0 ?_
 refine plc hE (.r 0 4<|.y 4 (y_hi (e:=104) (z:=6) (g:=g) (n:=x0_.length) (c:=c0_0) (k:=.i64) (hi:=w64 ((x0_.length:Int)+(([x].length:Nat):Int))) ⟨by omega,by omega⟩)<|.r 5 1 .nil) (fun a hE=>?_)
 refine pld ?_
 refine hK15 _ _ ?_
 have hn1:(w64 ((x0_.length:Int)+(([x].length:Nat):Int))).toNat=x0_.length+1:=by rw [hw1,Int.toNat_natCast]
 rw [hn1]at hE
 refine sq fun K16 hK16=>?_
 refine sq fun K17 hK17=>?_
 refine pl0 ?_
 refine plc hE (.r 0 5<|.y 5 (y_lo (e:=104) (z:=6) (g:=g) (n:=x0_.length+1) (c:=c0_0) (k:=.i64) (lo:=w64 ((j:Int)+(([x].length:Nat):Int))) ⟨by omega,by omega⟩ (by omega)) .nil) (fun a hE=>?_)
 have hb2:=hS.ba 0
 have hbg:=hS.ba 1
 have hcz:cur.size≠0:=by rw [hsz]; exact Nat.mul_ne_zero (by omega) (by decide)
 refine ple hE (.ext (f:=210) (args:=[.slice (pb g2) [x].length c2_0,.slice (some ⟨g,(w64 ((j:Int)+(([x].length:Nat):Int))).toNat * 6,none⟩) (x0_.length+1 - (w64 ((j:Int)+(([x].length:Nat):Int))).toNat) (c0_0 - (w64 ((j:Int)+(([x].length:Nat):Int))).toNat)]) (v:=.bool false) (R:=fun v w'=>v = .bool false∧w'=_) (by
  rw [run_callFunc_extern Tryz.func210 (by kernel_rfl) (by kernel_rfl) (by kernel_rfl) (e:=Extern.SlicesOverlaps.overlaps #[22,22] #[4]) (by kernel_rfl)]
  refine (congrArg (fun r:Result Value=>r.andThen fun v w'=>Result.ok (Next.value v) w') (Lib.run_overlaps_apart _ 22 4 104 Tryz.underlying22 6 (fun _=>by kernel_rfl) ⟨g2,0,none⟩ ⟨g,(w64 ((j:Int)+(([x].length:Nat):Int))).toNat * 6,none⟩ [x].length c2_0 _ _ hne 104 104 cur2.size cur.size (by simp [World.shape?,hb2]) (by simp [World.shape?,hbg]) hcz (by simp [World.frozen?,hb2]) (by simp [World.frozen?,hb2]))).trans rfl) ⟨rfl,rfl⟩) ?_
 rintro _ _ a ⟨rfl,rfl⟩ hE
 refine plc hE (.r 7 1 .nil) (fun a hE=>?_)
 refine pld ?_
 refine hK17 _ _ ?_
 refine ct hE ?_
 refine sq fun K18 hK18=>?_
 refine drawn 9 ⟨[8],[],fun q=>False⟩ mixed rfl (by kernel_rfl) (fun hst=>?_)
 replace hS:=hS.drew
 replace hS:=hS.front 1 rfl
 have hbg2:=hS.ba 0
 refine mny 1 hst hE (.r 0 4<|.y 4 (y_lo (e:=104) (z:=6) (g:=g) (n:=x0_.length+1) (c:=c0_0) (k:=.i64) (lo:=w64 ((j:Int)+(([x].length:Nat):Int))) ⟨by omega,by omega⟩ (by omega))<|.r 5 2<|.y 7 (y_lo (e:=104) (z:=6) (g:=g) (n:=x0_.length+1) (c:=c0_0) (k:=.i64) (lo:=(j:Int)) ⟨by omega,by omega⟩ (by omega)) .nil) (fun a hE=>?_)
 refine on1 8 hE (.cpy (e:=104) (z:=6) (off:=(w64 ((j:Int)+(([x].length:Nat):Int))).toNat * 6) (dn:=x0_.length+1 - (w64 ((j:Int)+(([x].length:Nat):Int))).toNat) (dc:=c0_0 - (w64 ((j:Int)+(([x].length:Nat):Int))).toNat) (sn:=x0_.length+1 - (j:Int).toNat) (sc:=c0_0 - (j:Int).toNat) (sa:=⟨g,(j:Int).toNat * 6,none⟩) hS (inner.drop (j * 6)) (by
  rw [hw2,Int.toNat_natCast,Int.toNat_natCast,hidl,show x0_.length+1 - (j+1)=x0_.length - j by omega]
  congr 1
  exact (Nat.min_eq_right (by omega)).symm) (fun q u hq=>by rw [qCT,Int.toNat_natCast]; exact qCP hbg2 (higet q u hq)) hione (by
  rw [hw2,Int.toNat_natCast,hidl,hsz,← Nat.add_mul]
  exact Nat.mul_le_mul_right _ (by omega)) (by kernel_rfl)) ?_
 rintro _ w2 a ⟨rfl,hS,hz,hnew,hoth⟩ hE
 refine ⟨.d,?_⟩
 refine dn ?_
 rw [hw2,Int.toNat_natCast,← hC1]at hS
 refine hK18 _ _ ?_
 refine sq fun K19 hK19=>?_
 refine pl0 ?_
 have hb3:=hS.ba 1
 refine plc hE (.r 0 2<|.y 2 (y_lo (e:=104) (z:=6) (g:=g) (n:=x0_.length+1) (c:=c0_0) (k:=.i64) (lo:=(j:Int)) ⟨by omega,by omega⟩ (by omega))<|.r 3 1 .nil) (fun a hE=>?_)
 have hmin1:Nat.min [x].length (x0_.length+1 - (j:Int).toNat)=1:=by
  rw [Int.toNat_natCast]
  simp only [List.length_cons,List.length_nil]
  exact Nat.min_eq_left (by omega)
 refine ple hE (.cpy (e:=104) (z:=6) (off:=(j:Int).toNat * 6) (dn:=x0_.length+1 - (j:Int).toNat) (dc:=c0_0 - (j:Int).toNat) (sn:=[x].length) (sc:=c2_0) (sa:=⟨g2,0,none⟩) hS cs (by rw [hmin1,hcl]) (fun q u hq=>by rw [qCT,Nat.zero_add]; exact qCP hb3 (hcget q u hq)) hcone (by
  rw [Int.toNat_natCast,List.size_toArray,s3,hcl]
  have:=Nat.mul_le_mul_right 6 (show j+1≤c0_0 by omega)
  omega) (by kernel_rfl)) ?_
 rintro _ w3 a ⟨rfl,hS,hz,hnew,hoth⟩ hE
 simp only [Int.toNat_natCast,List.toList_toArray]at hS
 rw [← hC2]at hS
 refine pld ?_
 refine hK19 _ _ ?_
 refine sq fun K20 hK20=>?_
 refine pl0 ?_
 refine plc hE (.r 0 2 .nil) (fun a hE=>?_)
 refine pld ?_
 refine hK20 _ _ ?_
 refine wp_ret (qCD ?_)
 have hrl:r.length=x0_.length+1:=by rw [← hr]; simp; omega
 have hrr:RepsK qA.k F r (C2.toArray.toList.take (r.length * (qA.k).sz)):=by
  rw [hrl]
  show RepsK qA.k F r (C2.take ((x0_.length+1) * 6))
  rw [s1,← hr]
  exact qCh hrep hx (by omega) rfl
 have hS2:=hS.rerow (c:=c0_0) r (show C2.toArray.size=c0_0 * 6 by simpa using s2) (by omega) hxc.2 hrr
 replace hS2:=hS2.front 1 rfl
 replace hS2:=hS2.tail
 rw [← hrl]at hE
 exact rt1 hE ⟨_,rfl,F,_,_,rfl,hS2⟩
def qBz.f(k:Nat)(x0_:qJ)(x1_:qAm):Option (qJ × Int):=(qBy.f k x0_ x1_.f1).bind fun t10=>(if t10.2=true then (some (x0_,7)) else (if (x0_.f4.length:Int)=12 then (some (x0_,6)) else ((qAf.f x0_.f4 t10.1 [(⟨x1_.f1,x1_.f2,x1_.f3,x1_.f4,false,true⟩:qA)]).bind fun t27=>((qAM.f k t27).bind fun t37=>(some ((⟨x0_.f0,x0_.f1,x0_.f2,x0_.f3,t27,x0_.f5,x0_.f6⟩:qJ),t37))))))
def qBz.Post(x0_:qJ)(x1_:qAm)(A0_4:Option Addr)(c0_4:Nat)(A0_5:Option Addr)(c0_5:Nat)(A0_6:Option Addr)(c0_6:Nat)(A1_6:Option Addr)(c1_6:Nat)(W F:World)(r:qJ × Int)(v:Value)(w':World):Prop:=∃(F':World)(RA0_4:Option Addr)(rc0_4:Nat)(RA0_5:Option Addr)(rc0_5:Nat)(RA0_6:Option Addr)(rc0_6:Nat),v = .tuple #[.agg #[iv r.1.f0,iv r.1.f1,iv r.1.f2,iv r.1.f3,.slice RA0_4 r.1.f4.length rc0_4,.slice RA0_5 r.1.f5.length rc0_5,.slice RA0_6 r.1.f6.length rc0_6],iv r.2]∧St W (mine W [row qA.k 104 (.slice A0_4 x0_.f4.length c0_4) x0_.f4]) F w' F' [row qA.k 104 (.slice RA0_4 r.1.f4.length rc0_4) r.1.f4]∧Rd qM.k F' RA0_5 rc0_5 r.1.f5∧Rd qF.k F' RA0_6 rc0_6 r.1.f6
theorem qBz.calls(k:Nat)(x0_:qJ)(x1_:qAm)(A0_4:Option Addr)(c0_4:Nat)(A0_5:Option Addr)(c0_5:Nat)(A0_6:Option Addr)(c0_6:Nat)(A1_6:Option Addr)(c1_6:Nat)(r:qJ × Int)(W F:World)(hown:Own W F [row qA.k 104 (.slice A0_4 x0_.f4.length c0_4) x0_.f4])(g0_5:Rd qM.k F A0_5 c0_5 x0_.f5)(g0_6:Rd qF.k F A0_6 c0_6 x0_.f6)(g1_6:Rd ki F A1_6 c1_6 x1_.f6)(H:qBz.f k x0_ x1_=some r):
    Calls Tryz.prog 132 #[.agg #[iv x0_.f0,iv x0_.f1,iv x0_.f2,iv x0_.f3,.slice A0_4 x0_.f4.length c0_4,.slice A0_5 x0_.f5.length c0_5,.slice A0_6 x0_.f6.length c0_6],.agg #[iv x1_.f0,iv x1_.f1,iv x1_.f2,iv x1_.f3,iv x1_.f4,iv x1_.f5,.slice A1_6 x1_.f6.length c1_6]] W fun e w'=>∃ v,e = .returned v∧qBz.Post x0_ x1_ A0_4 c0_4 A0_5 c0_5 A0_6 c0_6 A1_6 c1_6 W F r v w':=by
 have hS:=St.start hown
 obtain ⟨N,hN⟩:∃ N,N=mine W [row qA.k 104 (.slice A0_4 x0_.f4.length c0_4) x0_.f4]:=⟨_,rfl⟩
 rw [← hN]at hS
 unfold qBz.f at H
 refine enter (n:=43) rfl rfl rfl (Nat.le_of_ble_eq_true rfl) (fun a hE=>?_)
 refine sq fun K1 hK1=>pl0 (ple hE (.bx (t:=26) hS [iv x0_.f0,iv x0_.f1,iv x0_.f2,iv x0_.f3,.slice A0_4 x0_.f4.length c0_4,.slice A0_5 x0_.f5.length c0_5,.slice A0_6 x0_.f6.length c0_6]) ?_)
 rintro _ u3 a ⟨b2,rfl,hb2,hS,hg⟩ hE
 refine ple hE (.bx (t:=40) hS [iv x1_.f0,iv x1_.f1,iv x1_.f2,iv x1_.f3,iv x1_.f4,iv x1_.f5,.slice A1_6 x1_.f6.length c1_6]) ?_
 rintro _ u5 a ⟨b4,rfl,hb4,hS,hg⟩ hE
 refine ple hE (.al (t:=26) hS [iv 0,iv 0,iv 0,iv 0,.slice none 0 0,.slice none 0 0,.slice none 0 0]) ?_
 rintro _ u7 a ⟨b6,rfl,hb6,hS,hg⟩ hE
 refine plc hE (.r 3 1 .nil) (fun a hE=>pld (hK1 _ _ (sq fun K8 hK8=>pl0 ?_)))
 have hb2:=hS.ba 2
 have hb4:=hS.ba 1
 refine plc hE (.bn 0 0 7 hb2<|.r 1 1<|.b 2 1 hb4<|.nil) (fun a hE=>?_)
 obtain ⟨t10,h11,H⟩:=bd H
 refine ple hE (.cl en135 (qBy.calls k x0_ x1_.f1 _ _ _ _ _ _ _ _ _ (Sub.refl _) (hS.rd_at (i:=3) rfl) (g0_5.mono hS.own.sub) (g0_6.mono hS.own.sub) h11)) ?_
 rintro _ u9 a ⟨_,rfl,hC⟩ hE
 replace hS:=hS.lent hC
 refine plc hE (.r 4 5 .nil) (fun a hE=>pld (hK8 _ _ (sq fun K12 hK12=>wp_block (rr hE fun a hE=>?_))))
 refine hE.ib 15 H (fun c14 hE H=>?_) fun c14 hE H=>?_
 ·
  refine sq fun K15 hK15=>pl0 ?_
  have hb2:=hS.ba 2
  refine plc hE (.bn 0 0 7 hb2 .nil) (fun a hE=>ple hE (.sto hS [iv x0_.f0,iv x0_.f1,iv x0_.f2,iv x0_.f3,.slice A0_4 x0_.f4.length c0_4,.slice A0_5 x0_.f5.length c0_5,.slice A0_6 x0_.f6.length c0_6]) ?_)
  rintro _ u16 a ⟨rfl,hb6,hS,hz⟩ hE
  refine plc hE (.r 2 1 .nil) (fun a hE=>pld (hK15 _ _ (wp_ret (qCE (qCD ?_)))))
  replace hS:=hS.pm [] 3
  rw [hN]at hS
  obtain rfl:=si H
  exact retN hE rfl (of_decide_eq_true rfl) (.cell (by kernel_rfl) (qCJ [iv x0_.f0,iv x0_.f1,iv x0_.f2,iv x0_.f3,.slice A0_4 x0_.f4.length c0_4,.slice A0_5 x0_.f5.length c0_5,.slice A0_6 x0_.f6.length c0_6] ag26 sz26 hb6 rfl) (.tmp (by kernel_rfl) .nil)) ⟨_,rfl,_,_,_,_,_,_,_,rfl,hS,g0_5,g0_6⟩
 refine sq fun K17 hK17=>pl0 ?_
 have hb2:=hS.ba 2
 refine plc hE (.r 0 1<|.b 1 4 hb2<|.r 2 3<|.nil) (fun a hE=>pld (hK17 _ _ ?_))
 refine hE.ik 18 H (fun c18 hE H=>?_) fun c18 hE H=>?_
 ·
  refine sq fun K19 hK19=>pl0 (plc hE (.bn 0 0 7 hb2 .nil) (fun a hE=>ple hE (.sto hS [iv x0_.f0,iv x0_.f1,iv x0_.f2,iv x0_.f3,.slice A0_4 x0_.f4.length c0_4,.slice A0_5 x0_.f5.length c0_5,.slice A0_6 x0_.f6.length c0_6]) ?_))
  rintro _ u20 a ⟨rfl,hb6,hS,hz⟩ hE
  refine plc hE (.r 2 1 .nil) (fun a hE=>pld (hK19 _ _ (wp_ret (qCE (qCD ?_)))))
  replace hS:=hS.pm [] 3
  rw [hN]at hS
  obtain rfl:=si H
  exact retN hE rfl (of_decide_eq_true rfl) (.cell (by kernel_rfl) (qCJ [iv x0_.f0,iv x0_.f1,iv x0_.f2,iv x0_.f3,.slice A0_4 x0_.f4.length c0_4,.slice A0_5 x0_.f5.length c0_5,.slice A0_6 x0_.f6.length c0_6] ag26 sz26 hb6 rfl) (.tmp (by kernel_rfl) .nil)) ⟨_,rfl,_,_,_,_,_,_,_,rfl,hS,g0_5,g0_6⟩
 refine wp_skip ?_
 refine qCF ?_
 refine hK12 _ _ (sq fun K21 hK21=>pl0 ?_)
 have hb4:=hS.ba 1
 refine plc hE (.r 0 1<|.b 1 4 hb2<|.r 2 2<|.b 4 1 hb4<|.r 5 1<|.b 6 2 hb4<|.r 7 1<|.b 8 3 hb4<|.r 9 1<|.b 10 4 hb4<|.r 11 1<|.nil) (fun a hE=>ple hE (.lit (d:=qA.k) (e:=104) hS [(⟨x1_.f1,x1_.f2,x1_.f3,x1_.f4,false,true⟩:qA)] (.cons rfl .nil)) ?_)
 rintro _ u22 a ⟨A23,c24,rfl,hS,hg⟩ hE
 replace hS:=hS.front 4 rfl
 obtain ⟨t27,h28,H⟩:=bd H
 refine ple hE (.cl en176 (qAf.calls x0_.f4 t10.1 [(⟨x1_.f1,x1_.f2,x1_.f3,x1_.f4,false,true⟩:qA)] _ _ _ _ _ _ _ (Own.left (X:=[row qA.k 104 (.slice A0_4 x0_.f4.length c0_4) x0_.f4,row qA.k 104 (.slice A23 ([(⟨x1_.f1,x1_.f2,x1_.f3,x1_.f4,false,true⟩:qA)].length) c24) [(⟨x1_.f1,x1_.f2,x1_.f3,x1_.f4,false,true⟩:qA)]]) hS.own) h28)) ?_
 rintro _ u26 a ⟨F29,A30,c31,rfl,hC⟩ hE
 have hs:=hC.sub
 replace hS:=hS.called (X:=[row qA.k 104 (.slice A0_4 x0_.f4.length c0_4) x0_.f4,row qA.k 104 (.slice A23 ([(⟨x1_.f1,x1_.f2,x1_.f3,x1_.f4,false,true⟩:qA)].length) c24) [(⟨x1_.f1,x1_.f2,x1_.f3,x1_.f4,false,true⟩:qA)]]) hC
 replace g0_5:=g0_5.mono hs
 replace g0_6:=g0_6.mono hs
 replace g1_6:=g1_6.mono hs
 refine plc hE (.r 14 1 .nil) (fun a hE=>?_)
 replace hS:=hS.front 3 rfl
 refine ple hE (.sto hS [iv x0_.f0,iv x0_.f1,iv x0_.f2,iv x0_.f3,.slice A30 t27.length c31,.slice A0_5 x0_.f5.length c0_5,.slice A0_6 x0_.f6.length c0_6]) ?_
 rintro _ u34 a ⟨rfl,hb2,hS,hz⟩ hE
 refine pld (hK21 _ _ (sq fun K35 hK35=>?_))
 refine drawn 6 ⟨[4],[],fun q=>False⟩ mixed rfl (by kernel_rfl) (fun hst=>?_)
 replace hS:=hS.drew
 have hb2:=hS.ba 0
 refine mny 3 hst hE (.bn 0 0 7 hb2<|.r 1 1<|.b 2 4 hb2<|.nil) (fun a hE=>?_)
 obtain ⟨t37,h38,H⟩:=bd H
 refine on1 3 hE (.cl en80 (qAM.calls k t27 _ _ _ _ _ (Sub.refl _) (hS.rd_at (i:=1) rfl) h38)) ?_
 rintro _ u36 a ⟨_,rfl,hC⟩ hE
 refine ⟨.of hC.agr,?_⟩
 replace hS:=hS.lent hC
 replace hS:=hS.front 2 rfl
 refine on1 4 hE (.sto hS [iv x0_.f0,iv x0_.f1,iv x0_.f2,iv x0_.f3,.slice A30 t27.length c31,.slice A0_5 x0_.f5.length c0_5,.slice A0_6 x0_.f6.length c0_6]) ?_
 rintro _ u39 a ⟨rfl,hb6,hS,hz⟩ hE
 refine ⟨.d,?_⟩
 refine mny 0 hst hE (.r 5 1 .nil) (fun a hE=>?_)
 refine dn ?_
 refine hK35 _ _ (wp_ret ?_)
 replace hS:=hS.pm [2] 4
 rw [hN]at hS
 obtain rfl:=si H
 exact retN hE rfl (of_decide_eq_true rfl) (.cell (by kernel_rfl) (qCJ [iv x0_.f0,iv x0_.f1,iv x0_.f2,iv x0_.f3,.slice A30 t27.length c31,.slice A0_5 x0_.f5.length c0_5,.slice A0_6 x0_.f6.length c0_6] ag26 sz26 hb6 rfl) (.tmp (by kernel_rfl) .nil)) ⟨_,rfl,_,_,_,_,_,_,_,rfl,hS,g0_5,g0_6⟩
set_option maxRecDepth 100000 in
theorem qCA.same(b:Bool){c:Bool}(p:Addr)(W:World)(h:W.cell? p=some (.bool c))(hc:c=b):Calls Tryz.prog 180 #[.pointer (some p),.bool b] W fun e w'=>∃ v,e = .returned v∧(v=iv 7∧w'=W):=by
 subst hc
 refine enter (n:=13) rfl rfl rfl (Nat.le_of_ble_eq_true rfl) (fun a hE=>?_)
 refine sq fun K0 hK0=>?_
 refine pl0 ?_
 refine plc hE (.r 0 1 .nil) (fun a hE=>?_)
 refine pld ?_
 refine hK0 _ _ ?_
 refine sq fun K1 hK1=>?_
 refine sq fun K2 hK2=>?_
 refine pl0 ?_
 refine plc hE (.r 0 2<|.c 2 h<|.r 3 2 .nil) (fun a hE=>?_)
 refine pld ?_
 refine hK2 _ _ ?_
 replace hE:=hE.et 9 (rfl:c=c)
 refine ct hE ?_
 refine sq fun K3 hK3=>?_
 refine pl0 ?_
 refine plc hE (.r 0 1 .nil) (fun a hE=>?_)
 refine pld ?_
 refine hK3 _ _ ?_
 refine wp_ret (qCD ?_)
 exact rt1 hE ⟨_,rfl,rfl,rfl⟩
set_option maxRecDepth 100000 in
theorem qCA.turn {W0:World} {N:Nat→Prop} {F0 W F:World} {L:List Asrt} {xs:List qA} {g n c:Nat} {i:Int} {p:Addr} (hS:St W0 N F0 W F (row qA.k 104 (.slice (pb g) n c) xs :: L)) (yv:qA) (off:Nat) (h01:0≤i∧i<(xs.length:Int)) (cs:List Value) (hcs:∀(j:Nat)(u:Value),cs[j]? = some u→W.cell? (((⟨g,0,none⟩:Addr).add (i.toNat * (qA.k).sz)).add j)=some u) (cur to:Bool) (cs':List Value) (hcur:cs[off]? = some (.bool cur)) (hK:(qA.k).K F yv cs') (hne:¬ cur=to) (hp:p=((⟨g,0,none⟩:Addr).add (i.toNat * (qA.k).sz)).add off:=by rfl)
  (hk:cs'=cs.take off++[.bool to]++cs.drop (off+1):=by rfl) (hl:Nat.beq cs.length (qA.k).sz=true:=by kernel_rfl) (ho:Nat.ble (off+1) (qA.k).sz=true:=by kernel_rfl):Calls Tryz.prog 180 #[.pointer (some p),.bool to] W fun e w'=>∃ v,e = .returned v∧(v=iv 0∧St W0 N F0 w' F (row qA.k 104 (.slice (pb g) n c) (xs.set i.toNat yv) :: L)∧AgrX (fun q=>q=g) W w'):=by
 subst hp
 subst hk
 have h:=hcs off _ hcur
 refine enter (n:=13) rfl rfl rfl (Nat.le_of_ble_eq_true rfl) (fun a hE=>?_)
 refine sq fun K0 hK0=>?_
 refine pl0 ?_
 refine plc hE (.r 0 1 .nil) (fun a hE=>?_)
 refine pld ?_
 refine hK0 _ _ ?_
 refine sq fun K1 hK1=>?_
 refine sq fun K2 hK2=>?_
 refine pl0 ?_
 refine plc hE (.r 0 2<|.c 2 h<|.r 3 2 .nil) (fun a hE=>?_)
 refine pld ?_
 refine hK2 _ _ ?_
 replace hE:=hE.ef 9 hne
 refine cf hE ?_
 refine wp_skip ?_
 refine hK1 _ _ ?_
 refine sq fun K3 hK3=>?_
 refine pl0 ?_
 refine plc hE (.r 0 3 .nil) (fun a hE=>?_)
 refine ple hE (.setx (d:=qA.k) (n:=n) (i:=i) yv off (ea1 _ _ _) hS h01 cs hcs _ hK ?_) ?_
 ·unfold setK
  show (match (Nat.beq [Value.bool to].length 1&&Nat.ble (off+1) (qA.k).sz)&&(true&&Nat.beq cs.length (qA.k).sz) with
   | true=>some (((⟨g,0,none⟩:Addr).add (i.toNat * (qA.k).sz)).add off,cs.take off++[.bool to]++cs.drop (off+1))
   | false=>none)=some _
  rw [hl,ho]
  rfl
 rintro _ w1 a ⟨rfl,hS,hz,hX⟩ hE
 refine pld ?_
 refine hK3 _ _ ?_
 refine sq fun K4 hK4=>?_
 refine pl0 ?_
 refine plc hE (.r 0 1 .nil) (fun a hE=>?_)
 refine pld ?_
 refine hK4 _ _ ?_
 refine wp_ret ?_
 exact rt1 hE ⟨_,rfl,rfl,hS,hX⟩
mutual
def qBD.j45:Nat→qJ→Int→qAm→Bool→Option (qJ × Int)
 | 0,_,_,_,_=>none
 | k+1,x0_,x1_,x2_,y44=>if y44=true then (if ((nth qA.z x0_.f4 x1_).f4)=(x2_.f0 == 3) then (some (x0_,7)) else (some ((⟨x0_.f0,x0_.f1,x0_.f2,x0_.f3,(x0_.f4.set (x1_).toNat (⟨(nth qA.z x0_.f4 x1_).f0,(nth qA.z x0_.f4 x1_).f1,(nth qA.z x0_.f4 x1_).f2,(nth qA.z x0_.f4 x1_).f3,(x2_.f0 == 3),(nth qA.z x0_.f4 x1_).f5⟩:qA)),x0_.f5,x0_.f6⟩:qJ),0))) else (if x2_.f0=5 then (qBD.j64 k x0_ x1_ x2_ true) else (qBD.j64 k x0_ x1_ x2_ (x2_.f0 == 6)))
def qBD.j64:Nat→qJ→Int→qAm→Bool→Option (qJ × Int)
 | 0,_,_,_,_=>none
 | k+1,x0_,x1_,x2_,y63=>if y63=true then (if ((nth qA.z x0_.f4 x1_).f5)=(x2_.f0 == 6) then (some (x0_,7)) else (some ((⟨x0_.f0,x0_.f1,x0_.f2,x0_.f3,(x0_.f4.set (x1_).toNat (⟨(nth qA.z x0_.f4 x1_).f0,(nth qA.z x0_.f4 x1_).f1,(nth qA.z x0_.f4 x1_).f2,(nth qA.z x0_.f4 x1_).f3,(nth qA.z x0_.f4 x1_).f4,(x2_.f0 == 6)⟩:qA)),x0_.f5,x0_.f6⟩:qJ),0))) else (none)
end
theorem qBD.j45_s k x0_ x1_ x2_ y44:type_of% (qBD.j45.eq_2 x0_ x1_ x2_ y44 k):=qBD.j45.eq_2 x0_ x1_ x2_ y44 k
theorem qBD.j64_s k x0_ x1_ x2_ y63:type_of% (qBD.j64.eq_2 x0_ x1_ x2_ y63 k):=qBD.j64.eq_2 x0_ x1_ x2_ y63 k
def qBD.f(k:Nat)(x0_:qJ)(x1_:Int)(x2_:qAm):Option (qJ × Int):=if 0≤x1_∧x1_<(x0_.f4.length:Int) then (if x2_.f0=2 then ((qBC.f x2_.f4 0 65536).bind fun t22=>(if t22=true then (if (nth qA.z x0_.f4 x1_).f3=x2_.f4 then (some (x0_,7)) else (some ((⟨x0_.f0,x0_.f1,x0_.f2,x0_.f3,(x0_.f4.set (x1_).toNat (⟨(nth qA.z x0_.f4 x1_).f0,(nth qA.z x0_.f4 x1_).f1,(nth qA.z x0_.f4 x1_).f2,x2_.f4,(nth qA.z x0_.f4 x1_).f4,(nth qA.z x0_.f4 x1_).f5⟩:qA)),x0_.f5,x0_.f6⟩:qJ),0))) else (some (x0_,1)))) else (if x2_.f0=3 then (qBD.j45 k x0_ x1_ x2_ true) else (qBD.j45 k x0_ x1_ x2_ (x2_.f0 == 4)))) else (none)
def qBD.Post(x0_:qJ)(x1_:Int)(x2_:qAm)(A0_4:Option Addr)(c0_4:Nat)(A0_5:Option Addr)(c0_5:Nat)(A0_6:Option Addr)(c0_6:Nat)(A2_6:Option Addr)(c2_6:Nat)(W F:World)(r:qJ × Int)(v:Value)(w':World):Prop:=∃(F':World)(RA0_4:Option Addr)(rc0_4:Nat)(RA0_5:Option Addr)(rc0_5:Nat)(RA0_6:Option Addr)(rc0_6:Nat),v = .tuple #[.agg #[iv r.1.f0,iv r.1.f1,iv r.1.f2,iv r.1.f3,.slice RA0_4 r.1.f4.length rc0_4,.slice RA0_5 r.1.f5.length rc0_5,.slice RA0_6 r.1.f6.length rc0_6],iv r.2]∧St W (mine W [row qA.k 104 (.slice A0_4 x0_.f4.length c0_4) x0_.f4]) F w' F' [row qA.k 104 (.slice RA0_4 r.1.f4.length rc0_4) r.1.f4]∧Rd qM.k F' RA0_5 rc0_5 r.1.f5∧Rd qF.k F' RA0_6 rc0_6 r.1.f6
theorem qBD.calls(k:Nat)(x0_:qJ)(x1_:Int)(x2_:qAm)(A0_4:Option Addr)(c0_4:Nat)(A0_5:Option Addr)(c0_5:Nat)(A0_6:Option Addr)(c0_6:Nat)(A2_6:Option Addr)(c2_6:Nat)(r:qJ × Int)(W F:World)(hown:Own W F [row qA.k 104 (.slice A0_4 x0_.f4.length c0_4) x0_.f4])(g0_5:Rd qM.k F A0_5 c0_5 x0_.f5)(g0_6:Rd qF.k F A0_6 c0_6 x0_.f6)(g2_6:Rd ki F A2_6 c2_6 x2_.f6)(H:qBD.f k x0_ x1_ x2_=some r):
    Calls Tryz.prog 136 #[.agg #[iv x0_.f0,iv x0_.f1,iv x0_.f2,iv x0_.f3,.slice A0_4 x0_.f4.length c0_4,.slice A0_5 x0_.f5.length c0_5,.slice A0_6 x0_.f6.length c0_6],iv x1_,.agg #[iv x2_.f0,iv x2_.f1,iv x2_.f2,iv x2_.f3,iv x2_.f4,iv x2_.f5,.slice A2_6 x2_.f6.length c2_6]] W fun e w'=>∃ v,e = .returned v∧qBD.Post x0_ x1_ x2_ A0_4 c0_4 A0_5 c0_5 A0_6 c0_6 A2_6 c2_6 W F r v w':=by
 have hS:=St.start hown
 obtain ⟨N,hN⟩:∃ N,N=mine W [row qA.k 104 (.slice A0_4 x0_.f4.length c0_4) x0_.f4]:=⟨_,rfl⟩
 rw [← hN]at hS
 unfold qBD.f at H
 refine enter (n:=98) rfl rfl rfl (Nat.le_of_ble_eq_true rfl) (fun a hE=>?_)
 refine sq fun K1 hK1=>pl0 (ple hE (.bx (t:=26) hS [iv x0_.f0,iv x0_.f1,iv x0_.f2,iv x0_.f3,.slice A0_4 x0_.f4.length c0_4,.slice A0_5 x0_.f5.length c0_5,.slice A0_6 x0_.f6.length c0_6]) ?_)
 rintro _ u3 a ⟨b2,rfl,hb2,hS,hg⟩ hE
 refine ple hE (.bx (t:=40) hS [iv x2_.f0,iv x2_.f1,iv x2_.f2,iv x2_.f3,iv x2_.f4,iv x2_.f5,.slice A2_6 x2_.f6.length c2_6]) ?_
 rintro _ u5 a ⟨b4,rfl,hb4,hS,hg⟩ hE
 refine ple hE (.al (t:=26) hS [iv 0,iv 0,iv 0,iv 0,.slice none 0 0,.slice none 0 0,.slice none 0 0]) ?_
 rintro _ u7 a ⟨b6,rfl,hb6,hS,hg⟩ hE
 refine plc hE (.r 3 1 .nil) (fun a hE=>pld (hK1 _ _ (sq fun K8 hK8=>pl0 ?_)))
 have hb2:=hS.ba 2
 obtain ⟨c9,H⟩:=gd H
 have hr10:=hS.ra 3
 have hE_:=hE
 obtain ⟨b11,rfl⟩:=qCK hr10 c9.1 c9.2
 replace hE:=hE_
 have hr_:=hS.ra 3
 obtain ⟨cs13,rfl,hc14⟩:=qCI hr_ qA.z x1_ c9.1 c9.2
 refine plc hE (.r 0 1<|.b 1 4 hb2<|.r 2 1<|.x 3 c9<|.r 4 1<|.nil) (fun a hE=>pld (hK8 _ _ (sq fun K15 hK15=>sq fun K16 hK16=>pl0 ?_)))
 have hb4:=hS.ba 1
 refine plc hE (.r 0 1<|.b 1 0 hb4<|.nil) (fun a hE=>pld (hK16 _ _ (wp_block (rr hE fun a hE=>?_))))
 refine hE.ik 16 H (fun c18 hE H=>?_) fun c18 hE H=>?_
 ·
  refine sq fun K19 hK19=>sq fun K20 hK20=>pl0 (plc hE (.r 0 1<|.b 1 4 hb4<|.nil) (fun a hE=>?_))
  obtain ⟨t22,h23,H⟩:=bd H
  refine ple hE (.cl en70 (qBC.calls x2_.f4 0 65536 _ _ _ hS.own.sub h23)) ?_
  rintro _ u21 a ⟨_,rfl,hC⟩ hE
  replace hS:=hS.lent hC
  refine plc hE (.r 3 1 .nil) (fun a hE=>pld (hK20 _ _ ?_))
  refine hE.ibn 21 H (fun c24 hE H=>?_) fun c24 hE H=>?_
  ·
   refine wp_skip (hK19 _ _ (sq fun K27 hK27=>sq fun K28 hK28=>?_))
   refine drawn 7 ⟨[],[],fun q=>False⟩ mixed rfl (by kernel_rfl) (fun hst=>?_)
   replace hS:=hS.drew
   obtain ⟨cs29,rfl,hc30⟩:=qCI (hS.row_at (i:=3) rfl) qA.z x1_ c9.1 c9.2
   have hb4:=hS.ba 1
   refine mny 0 hst hE (.r 0 3<|.c 3 (hc30 3 _ rfl)<|.r 4 1<|.b 5 4 hb4<|.r 6 1<|.nil) (fun a hE=>?_)
   refine dn ?_
   refine hK28 _ _ ?_
   refine hE.ik 29 H (fun c31 hE H=>?_) fun c31 hE H=>?_
   ·
    refine sq fun K32 hK32=>pl0 ?_
    have hb2:=hS.ba 2
    refine plc hE (.bn 0 0 7 hb2 .nil) (fun a hE=>ple hE (.sto hS [iv x0_.f0,iv x0_.f1,iv x0_.f2,iv x0_.f3,.slice (pb b11) x0_.f4.length c0_4,.slice A0_5 x0_.f5.length c0_5,.slice A0_6 x0_.f6.length c0_6]) ?_)
    rintro _ u33 a ⟨rfl,hb6,hS,hz⟩ hE
    refine plc hE (.r 2 1 .nil) (fun a hE=>pld (hK32 _ _ (wp_ret (qCD (qCE (qCD ?_))))))
    replace hS:=hS.pm [] 3
    rw [hN]at hS
    obtain rfl:=si H
    exact retN hE rfl (of_decide_eq_true rfl) (.cell (by kernel_rfl) (qCJ [iv x0_.f0,iv x0_.f1,iv x0_.f2,iv x0_.f3,.slice (pb b11) x0_.f4.length c0_4,.slice A0_5 x0_.f5.length c0_5,.slice A0_6 x0_.f6.length c0_6] ag26 sz26 hb6 rfl) (.tmp (by kernel_rfl) .nil)) ⟨_,rfl,_,_,_,_,_,_,_,rfl,hS,g0_5,g0_6⟩
   refine wp_skip (hK27 _ _ (sq fun K34 hK34=>pl0 (plc hE (.r 0 2<|.b 2 4 hb4<|.r 3 2<|.nil) (fun a hE=>?_))))
   replace hS:=hS.front 3 rfl
   obtain ⟨cs36,rfl,hc37⟩:=qCI (hS.row_at (i:=0) rfl) qA.z x1_ c9.1 c9.2
   refine ple hE (.set (d:=qA.k) (n:=x0_.f4.length) (i:=x1_) (⟨(nth qA.z x0_.f4 x1_).f0,(nth qA.z x0_.f4 x1_).f1,(nth qA.z x0_.f4 x1_).f2,x2_.f4,(nth qA.z x0_.f4 x1_).f4,(nth qA.z x0_.f4 x1_).f5⟩:qA) 3 (ea1 _ _ _) hS c9 [iv ((nth qA.z x0_.f4 x1_).f0),iv ((nth qA.z x0_.f4 x1_).f1),iv ((nth qA.z x0_.f4 x1_).f2),iv ((nth qA.z x0_.f4 x1_).f3),.bool ((nth qA.z x0_.f4 x1_).f4),.bool ((nth qA.z x0_.f4 x1_).f5)] hc37 [iv ((nth qA.z x0_.f4 x1_).f0),iv ((nth qA.z x0_.f4 x1_).f1),iv ((nth qA.z x0_.f4 x1_).f2),iv x2_.f4,.bool ((nth qA.z x0_.f4 x1_).f4),.bool ((nth qA.z x0_.f4 x1_).f5)] rfl) ?_
   rintro _ u35 a ⟨rfl,hS,hz⟩ hE
   refine pld (hK34 _ _ (sq fun K38 hK38=>pl0 ?_))
   have hb2:=hS.ba 3
   refine plc hE (.bn 0 0 7 hb2 .nil) (fun a hE=>?_)
   replace hS:=hS.front 1 rfl
   refine ple hE (.sto hS [iv x0_.f0,iv x0_.f1,iv x0_.f2,iv x0_.f3,.slice (pb b11) x0_.f4.length c0_4,.slice A0_5 x0_.f5.length c0_5,.slice A0_6 x0_.f6.length c0_6]) ?_
   rintro _ u39 a ⟨rfl,hb6,hS,hz⟩ hE
   refine plc hE (.r 2 1 .nil) (fun a hE=>pld (hK38 _ _ (wp_ret (qCE (qCD ?_)))))
   have hn40:=(qCH (hS.row_at (i:=1) rfl)).1
   replace hS:St W N F u39 F [box b6 #[iv x0_.f0,iv x0_.f1,iv x0_.f2,iv x0_.f3,.slice (pb b11) ((x0_.f4.set (x1_).toNat (⟨(nth qA.z x0_.f4 x1_).f0,(nth qA.z x0_.f4 x1_).f1,(nth qA.z x0_.f4 x1_).f2,x2_.f4,(nth qA.z x0_.f4 x1_).f4,(nth qA.z x0_.f4 x1_).f5⟩:qA)).length) c0_4,.slice A0_5 x0_.f5.length c0_5,.slice A0_6 x0_.f6.length c0_6] 26,row qA.k 104 (.slice (pb b11) ((x0_.f4.set (x1_).toNat (⟨(nth qA.z x0_.f4 x1_).f0,(nth qA.z x0_.f4 x1_).f1,(nth qA.z x0_.f4 x1_).f2,x2_.f4,(nth qA.z x0_.f4 x1_).f4,(nth qA.z x0_.f4 x1_).f5⟩:qA)).length) c0_4) (x0_.f4.set (x1_).toNat (⟨(nth qA.z x0_.f4 x1_).f0,(nth qA.z x0_.f4 x1_).f1,(nth qA.z x0_.f4 x1_).f2,x2_.f4,(nth qA.z x0_.f4 x1_).f4,(nth qA.z x0_.f4 x1_).f5⟩:qA)),box b4 #[iv x2_.f0,iv x2_.f1,iv x2_.f2,iv x2_.f3,iv x2_.f4,iv x2_.f5,.slice A2_6 x2_.f6.length c2_6] 40,box b2 #[iv x0_.f0,iv x0_.f1,iv x0_.f2,iv x0_.f3,.slice (pb b11) ((x0_.f4.set (x1_).toNat (⟨(nth qA.z x0_.f4 x1_).f0,(nth qA.z x0_.f4 x1_).f1,(nth qA.z x0_.f4 x1_).f2,x2_.f4,(nth qA.z x0_.f4 x1_).f4,(nth qA.z x0_.f4 x1_).f5⟩:qA)).length) c0_4,.slice A0_5 x0_.f5.length c0_5,.slice A0_6 x0_.f6.length c0_6] 26]:=by rw [← hn40]; exact hS
   have hb6:=hS.ba 0
   replace hS:=hS.pm [1] 4
   rw [hN]at hS
   obtain rfl:=si H
   exact retN hE rfl (of_decide_eq_true rfl) (.cell (by kernel_rfl) (qCJ [iv x0_.f0,iv x0_.f1,iv x0_.f2,iv x0_.f3,.slice (pb b11) ((x0_.f4.set (x1_).toNat (⟨(nth qA.z x0_.f4 x1_).f0,(nth qA.z x0_.f4 x1_).f1,(nth qA.z x0_.f4 x1_).f2,x2_.f4,(nth qA.z x0_.f4 x1_).f4,(nth qA.z x0_.f4 x1_).f5⟩:qA)).length) c0_4,.slice A0_5 x0_.f5.length c0_5,.slice A0_6 x0_.f6.length c0_6] ag26 sz26 hb6 rfl) (.tmp (by kernel_rfl) .nil)) ⟨_,rfl,_,_,_,_,_,_,_,rfl,hS,g0_5,g0_6⟩
  refine sq fun K25 hK25=>pl0 ?_
  have hb2:=hS.ba 2
  refine plc hE (.bn 0 0 7 hb2 .nil) (fun a hE=>ple hE (.sto hS [iv x0_.f0,iv x0_.f1,iv x0_.f2,iv x0_.f3,.slice (pb b11) x0_.f4.length c0_4,.slice A0_5 x0_.f5.length c0_5,.slice A0_6 x0_.f6.length c0_6]) ?_)
  rintro _ u26 a ⟨rfl,hb6,hS,hz⟩ hE
  refine plc hE (.r 2 1 .nil) (fun a hE=>pld (hK25 _ _ (wp_ret (qCD (qCE (qCD ?_))))))
  replace hS:=hS.pm [] 3
  rw [hN]at hS
  obtain rfl:=si H
  exact retN hE rfl (of_decide_eq_true rfl) (.cell (by kernel_rfl) (qCJ [iv x0_.f0,iv x0_.f1,iv x0_.f2,iv x0_.f3,.slice (pb b11) x0_.f4.length c0_4,.slice A0_5 x0_.f5.length c0_5,.slice A0_6 x0_.f6.length c0_6] ag26 sz26 hb6 rfl) (.tmp (by kernel_rfl) .nil)) ⟨_,rfl,_,_,_,_,_,_,_,rfl,hS,g0_5,g0_6⟩
 refine sq fun K41 hK41=>?_
 have J48:∀ kq46,kq46≤k→∀(G:Nat→Value)(y44:Bool)(a:Act)(w':World),Env 98 G a→At G [(1,iv x1_),(3,.pointer (pb b2)),(5,.pointer (pb b4)),(6,.pointer (pb b6)),(8,.pointer (some ((⟨b11,0,none⟩:Addr).add (x1_.toNat * 6)))),(15,iv x2_.f0),(37,.bool y44)]→St W N F w' F [box b6 #[iv 0,iv 0,iv 0,iv 0,.slice none 0 0,.slice none 0 0,.slice none 0 0] 26,box b4 #[iv x2_.f0,iv x2_.f1,iv x2_.f2,iv x2_.f3,iv x2_.f4,iv x2_.f5,.slice A2_6 x2_.f6.length c2_6] 40,box b2 #[iv x0_.f0,iv x0_.f1,iv x0_.f2,iv x0_.f3,.slice (pb b11) x0_.f4.length c0_4,.slice A0_5 x0_.f5.length c0_5,.slice A0_6 x0_.f6.length c0_6] 26,row qA.k 104 (.slice (pb b11) x0_.f4.length c0_4) x0_.f4]→qBD.j45 kq46 x0_ x1_ x2_ y44=some r→K41 a w':=by
  intro kq46 hkq G y44 a u49 hE hA hS H
  obtain _ | k47:=kq46
  ·
   exact zz H
  rw [qBD.j45_s]at H
  obtain ⟨J,hE⟩:=hE.at hA
  refine hK41 _ _ ?_
  refine hE.ib 37 H (fun c50 hE H=>?_) fun c50 hE H=>?_
  ·
   refine sq fun K51 hK51=>?_
   refine drawn 10 ⟨[7,8],[7],fun q=>q=b11⟩ mixed rfl (by kernel_rfl) (fun hst=>?_)
   replace hS:=hS.drew
   have ne52:¬ (b2=b11):=by intro h; exact hS.ne_row (i:=2) (j:=3) rfl rfl (by decide) h
   have hb2:=hS.ba 2
   have hb4:=hS.ba 1
   refine mny 3 hst hE (.bnX 0 0 7 hb2 ne52<|.r 1 4<|.b 5 0 hb4<|.r 6 1<|.nil) (fun a hE=>?_)
   replace hS:=hS.front 3 rfl
   obtain ⟨cs53,rfl,hc54⟩:=qCI (hS.row_at (i:=0) rfl) qA.z x1_ c9.1 c9.2
   rcases sp H with ⟨c56,H⟩ | ⟨c56,H⟩
   ·
    refine on1 7 hE (.cl en180 (qCA.same (x2_.f0 == 3) _ _ (hc54 4 _ rfl) c56)) ?_
    rintro _ _ a ⟨rfl,rfl⟩ hE
    refine ⟨.of (Agr.refl _),?_⟩
    replace hS:=hS.front 1 rfl
    refine on1 8 hE (.sto hS [iv x0_.f0,iv x0_.f1,iv x0_.f2,iv x0_.f3,.slice (pb b11) x0_.f4.length c0_4,.slice A0_5 x0_.f5.length c0_5,.slice A0_6 x0_.f6.length c0_6]) ?_
    rintro _ u57 a ⟨rfl,hb6,hS,hz⟩ hE
    refine ⟨.d,?_⟩
    refine mny 0 hst hE (.r 9 1 .nil) (fun a hE=>?_)
    refine dn ?_
    refine hK51 _ _ (wp_ret (qCE (qCD ?_)))
    replace hS:=hS.pm [1] 4
    rw [hN]at hS
    obtain rfl:=si H
    exact retN hE rfl (of_decide_eq_true rfl) (.cell (by kernel_rfl) (qCJ [iv x0_.f0,iv x0_.f1,iv x0_.f2,iv x0_.f3,.slice (pb b11) x0_.f4.length c0_4,.slice A0_5 x0_.f5.length c0_5,.slice A0_6 x0_.f6.length c0_6] ag26 sz26 hb6 rfl) (.tmp (by kernel_rfl) .nil)) ⟨_,rfl,_,_,_,_,_,_,_,rfl,hS,g0_5,g0_6⟩
   refine on1 7 hE (.cl en180 (qCA.turn (n:=x0_.f4.length) (i:=x1_) hS (⟨(nth qA.z x0_.f4 x1_).f0,(nth qA.z x0_.f4 x1_).f1,(nth qA.z x0_.f4 x1_).f2,(nth qA.z x0_.f4 x1_).f3,(x2_.f0 == 3),(nth qA.z x0_.f4 x1_).f5⟩:qA) 4 c9 [iv ((nth qA.z x0_.f4 x1_).f0),iv ((nth qA.z x0_.f4 x1_).f1),iv ((nth qA.z x0_.f4 x1_).f2),iv ((nth qA.z x0_.f4 x1_).f3),.bool ((nth qA.z x0_.f4 x1_).f4),.bool ((nth qA.z x0_.f4 x1_).f5)] hc54 ((nth qA.z x0_.f4 x1_).f4) (x2_.f0 == 3) [iv ((nth qA.z x0_.f4 x1_).f0),iv ((nth qA.z x0_.f4 x1_).f1),iv ((nth qA.z x0_.f4 x1_).f2),iv ((nth qA.z x0_.f4 x1_).f3),.bool (x2_.f0 == 3),.bool ((nth qA.z x0_.f4 x1_).f5)] rfl rfl c56)) ?_
   rintro _ u55 a ⟨rfl,hS,hX⟩ hE
   refine ⟨.c hX,?_⟩
   replace hS:=hS.front 1 rfl
   refine on1 8 hE (.sto hS [iv x0_.f0,iv x0_.f1,iv x0_.f2,iv x0_.f3,.slice (pb b11) x0_.f4.length c0_4,.slice A0_5 x0_.f5.length c0_5,.slice A0_6 x0_.f6.length c0_6]) ?_
   rintro _ u58 a ⟨rfl,hb6,hS,hz⟩ hE
   refine ⟨.d,?_⟩
   refine mny 0 hst hE (.r 9 1 .nil) (fun a hE=>?_)
   refine dn ?_
   refine hK51 _ _ (wp_ret (qCE (qCD ?_)))
   have hn59:=(qCH (hS.row_at (i:=1) rfl)).1
   replace hS:St W N F u58 F [box b6 #[iv x0_.f0,iv x0_.f1,iv x0_.f2,iv x0_.f3,.slice (pb b11) ((x0_.f4.set (x1_).toNat (⟨(nth qA.z x0_.f4 x1_).f0,(nth qA.z x0_.f4 x1_).f1,(nth qA.z x0_.f4 x1_).f2,(nth qA.z x0_.f4 x1_).f3,(x2_.f0 == 3),(nth qA.z x0_.f4 x1_).f5⟩:qA)).length) c0_4,.slice A0_5 x0_.f5.length c0_5,.slice A0_6 x0_.f6.length c0_6] 26,row qA.k 104 (.slice (pb b11) ((x0_.f4.set (x1_).toNat (⟨(nth qA.z x0_.f4 x1_).f0,(nth qA.z x0_.f4 x1_).f1,(nth qA.z x0_.f4 x1_).f2,(nth qA.z x0_.f4 x1_).f3,(x2_.f0 == 3),(nth qA.z x0_.f4 x1_).f5⟩:qA)).length) c0_4) (x0_.f4.set (x1_).toNat (⟨(nth qA.z x0_.f4 x1_).f0,(nth qA.z x0_.f4 x1_).f1,(nth qA.z x0_.f4 x1_).f2,(nth qA.z x0_.f4 x1_).f3,(x2_.f0 == 3),(nth qA.z x0_.f4 x1_).f5⟩:qA)),box b4 #[iv x2_.f0,iv x2_.f1,iv x2_.f2,iv x2_.f3,iv x2_.f4,iv x2_.f5,.slice A2_6 x2_.f6.length c2_6] 40,box b2 #[iv x0_.f0,iv x0_.f1,iv x0_.f2,iv x0_.f3,.slice (pb b11) ((x0_.f4.set (x1_).toNat (⟨(nth qA.z x0_.f4 x1_).f0,(nth qA.z x0_.f4 x1_).f1,(nth qA.z x0_.f4 x1_).f2,(nth qA.z x0_.f4 x1_).f3,(x2_.f0 == 3),(nth qA.z x0_.f4 x1_).f5⟩:qA)).length) c0_4,.slice A0_5 x0_.f5.length c0_5,.slice A0_6 x0_.f6.length c0_6] 26]:=by rw [← hn59]; exact hS
   have hb6:=hS.ba 0
   replace hS:=hS.pm [1] 4
   rw [hN]at hS
   obtain rfl:=si H
   exact retN hE rfl (of_decide_eq_true rfl) (.cell (by kernel_rfl) (qCJ [iv x0_.f0,iv x0_.f1,iv x0_.f2,iv x0_.f3,.slice (pb b11) ((x0_.f4.set (x1_).toNat (⟨(nth qA.z x0_.f4 x1_).f0,(nth qA.z x0_.f4 x1_).f1,(nth qA.z x0_.f4 x1_).f2,(nth qA.z x0_.f4 x1_).f3,(x2_.f0 == 3),(nth qA.z x0_.f4 x1_).f5⟩:qA)).length) c0_4,.slice A0_5 x0_.f5.length c0_5,.slice A0_6 x0_.f6.length c0_6] ag26 sz26 hb6 rfl) (.tmp (by kernel_rfl) .nil)) ⟨_,rfl,_,_,_,_,_,_,_,rfl,hS,g0_5,g0_6⟩
  refine sq fun K60 hK60=>?_
  have J67:∀ kq65,kq65≤k47→∀(G:Nat→Value)(y63:Bool)(a:Act)(w':World),Env 98 G a→At G [(1,iv x1_),(3,.pointer (pb b2)),(5,.pointer (pb b4)),(6,.pointer (pb b6)),(8,.pointer (some ((⟨b11,0,none⟩:Addr).add (x1_.toNat * 6)))),(48,.bool y63)]→St W N F w' F [box b6 #[iv 0,iv 0,iv 0,iv 0,.slice none 0 0,.slice none 0 0,.slice none 0 0] 26,box b4 #[iv x2_.f0,iv x2_.f1,iv x2_.f2,iv x2_.f3,iv x2_.f4,iv x2_.f5,.slice A2_6 x2_.f6.length c2_6] 40,box b2 #[iv x0_.f0,iv x0_.f1,iv x0_.f2,iv x0_.f3,.slice (pb b11) x0_.f4.length c0_4,.slice A0_5 x0_.f5.length c0_5,.slice A0_6 x0_.f6.length c0_6] 26,row qA.k 104 (.slice (pb b11) x0_.f4.length c0_4) x0_.f4]→qBD.j64 kq65 x0_ x1_ x2_ y63=some r→K60 a w':=by
   intro kq65 hkq G y63 a u68 hE hA hS H
   obtain _ | k66:=kq65
   ·
    exact zz H
   rw [qBD.j64_s]at H
   obtain ⟨J,hE⟩:=hE.at hA
   refine hK60 _ _ ?_
   refine hE.ib 48 H (fun c69 hE H=>?_) fun c69 hE H=>?_
   ·
    refine sq fun K70 hK70=>?_
    refine drawn 10 ⟨[7,8],[7],fun q=>q=b11⟩ mixed rfl (by kernel_rfl) (fun hst=>?_)
    replace hS:=hS.drew
    have ne71:¬ (b2=b11):=by intro h; exact hS.ne_row (i:=2) (j:=3) rfl rfl (by decide) h
    have hb2:=hS.ba 2
    have hb4:=hS.ba 1
    refine mny 3 hst hE (.bnX 0 0 7 hb2 ne71<|.r 1 4<|.b 5 0 hb4<|.r 6 1<|.nil) (fun a hE=>?_)
    replace hS:=hS.front 3 rfl
    obtain ⟨cs72,rfl,hc73⟩:=qCI (hS.row_at (i:=0) rfl) qA.z x1_ c9.1 c9.2
    rcases sp H with ⟨c75,H⟩ | ⟨c75,H⟩
    ·
     refine on1 7 hE (.cl en180 (qCA.same (x2_.f0 == 6) _ _ (hc73 5 _ rfl) c75)) ?_
     rintro _ _ a ⟨rfl,rfl⟩ hE
     refine ⟨.of (Agr.refl _),?_⟩
     replace hS:=hS.front 1 rfl
     refine on1 8 hE (.sto hS [iv x0_.f0,iv x0_.f1,iv x0_.f2,iv x0_.f3,.slice (pb b11) x0_.f4.length c0_4,.slice A0_5 x0_.f5.length c0_5,.slice A0_6 x0_.f6.length c0_6]) ?_
     rintro _ u76 a ⟨rfl,hb6,hS,hz⟩ hE
     refine ⟨.d,?_⟩
     refine mny 0 hst hE (.r 9 1 .nil) (fun a hE=>?_)
     refine dn ?_
     refine hK70 _ _ (wp_ret (qCE (qCD ?_)))
     replace hS:=hS.pm [1] 4
     rw [hN]at hS
     obtain rfl:=si H
     exact retN hE rfl (of_decide_eq_true rfl) (.cell (by kernel_rfl) (qCJ [iv x0_.f0,iv x0_.f1,iv x0_.f2,iv x0_.f3,.slice (pb b11) x0_.f4.length c0_4,.slice A0_5 x0_.f5.length c0_5,.slice A0_6 x0_.f6.length c0_6] ag26 sz26 hb6 rfl) (.tmp (by kernel_rfl) .nil)) ⟨_,rfl,_,_,_,_,_,_,_,rfl,hS,g0_5,g0_6⟩
    refine on1 7 hE (.cl en180 (qCA.turn (n:=x0_.f4.length) (i:=x1_) hS (⟨(nth qA.z x0_.f4 x1_).f0,(nth qA.z x0_.f4 x1_).f1,(nth qA.z x0_.f4 x1_).f2,(nth qA.z x0_.f4 x1_).f3,(nth qA.z x0_.f4 x1_).f4,(x2_.f0 == 6)⟩:qA) 5 c9 [iv ((nth qA.z x0_.f4 x1_).f0),iv ((nth qA.z x0_.f4 x1_).f1),iv ((nth qA.z x0_.f4 x1_).f2),iv ((nth qA.z x0_.f4 x1_).f3),.bool ((nth qA.z x0_.f4 x1_).f4),.bool ((nth qA.z x0_.f4 x1_).f5)] hc73 ((nth qA.z x0_.f4 x1_).f5) (x2_.f0 == 6) [iv ((nth qA.z x0_.f4 x1_).f0),iv ((nth qA.z x0_.f4 x1_).f1),iv ((nth qA.z x0_.f4 x1_).f2),iv ((nth qA.z x0_.f4 x1_).f3),.bool ((nth qA.z x0_.f4 x1_).f4),.bool (x2_.f0 == 6)] rfl rfl c75)) ?_
    rintro _ u74 a ⟨rfl,hS,hX⟩ hE
    refine ⟨.c hX,?_⟩
    replace hS:=hS.front 1 rfl
    refine on1 8 hE (.sto hS [iv x0_.f0,iv x0_.f1,iv x0_.f2,iv x0_.f3,.slice (pb b11) x0_.f4.length c0_4,.slice A0_5 x0_.f5.length c0_5,.slice A0_6 x0_.f6.length c0_6]) ?_
    rintro _ u77 a ⟨rfl,hb6,hS,hz⟩ hE
    refine ⟨.d,?_⟩
    refine mny 0 hst hE (.r 9 1 .nil) (fun a hE=>?_)
    refine dn ?_
    refine hK70 _ _ (wp_ret (qCE (qCD ?_)))
    have hn78:=(qCH (hS.row_at (i:=1) rfl)).1
    replace hS:St W N F u77 F [box b6 #[iv x0_.f0,iv x0_.f1,iv x0_.f2,iv x0_.f3,.slice (pb b11) ((x0_.f4.set (x1_).toNat (⟨(nth qA.z x0_.f4 x1_).f0,(nth qA.z x0_.f4 x1_).f1,(nth qA.z x0_.f4 x1_).f2,(nth qA.z x0_.f4 x1_).f3,(nth qA.z x0_.f4 x1_).f4,(x2_.f0 == 6)⟩:qA)).length) c0_4,.slice A0_5 x0_.f5.length c0_5,.slice A0_6 x0_.f6.length c0_6] 26,row qA.k 104 (.slice (pb b11) ((x0_.f4.set (x1_).toNat (⟨(nth qA.z x0_.f4 x1_).f0,(nth qA.z x0_.f4 x1_).f1,(nth qA.z x0_.f4 x1_).f2,(nth qA.z x0_.f4 x1_).f3,(nth qA.z x0_.f4 x1_).f4,(x2_.f0 == 6)⟩:qA)).length) c0_4) (x0_.f4.set (x1_).toNat (⟨(nth qA.z x0_.f4 x1_).f0,(nth qA.z x0_.f4 x1_).f1,(nth qA.z x0_.f4 x1_).f2,(nth qA.z x0_.f4 x1_).f3,(nth qA.z x0_.f4 x1_).f4,(x2_.f0 == 6)⟩:qA)),box b4 #[iv x2_.f0,iv x2_.f1,iv x2_.f2,iv x2_.f3,iv x2_.f4,iv x2_.f5,.slice A2_6 x2_.f6.length c2_6] 40,box b2 #[iv x0_.f0,iv x0_.f1,iv x0_.f2,iv x0_.f3,.slice (pb b11) ((x0_.f4.set (x1_).toNat (⟨(nth qA.z x0_.f4 x1_).f0,(nth qA.z x0_.f4 x1_).f1,(nth qA.z x0_.f4 x1_).f2,(nth qA.z x0_.f4 x1_).f3,(nth qA.z x0_.f4 x1_).f4,(x2_.f0 == 6)⟩:qA)).length) c0_4,.slice A0_5 x0_.f5.length c0_5,.slice A0_6 x0_.f6.length c0_6] 26]:=by rw [← hn78]; exact hS
    have hb6:=hS.ba 0
    replace hS:=hS.pm [1] 4
    rw [hN]at hS
    obtain rfl:=si H
    exact retN hE rfl (of_decide_eq_true rfl) (.cell (by kernel_rfl) (qCJ [iv x0_.f0,iv x0_.f1,iv x0_.f2,iv x0_.f3,.slice (pb b11) ((x0_.f4.set (x1_).toNat (⟨(nth qA.z x0_.f4 x1_).f0,(nth qA.z x0_.f4 x1_).f1,(nth qA.z x0_.f4 x1_).f2,(nth qA.z x0_.f4 x1_).f3,(nth qA.z x0_.f4 x1_).f4,(x2_.f0 == 6)⟩:qA)).length) c0_4,.slice A0_5 x0_.f5.length c0_5,.slice A0_6 x0_.f6.length c0_6] ag26 sz26 hb6 rfl) (.tmp (by kernel_rfl) .nil)) ⟨_,rfl,_,_,_,_,_,_,_,rfl,hS,g0_5,g0_6⟩
   refine wp_skip ?_
   refine qCF ?_
   refine hK15 _ _ (sq fun K79 hK79=>pl0 ?_)
   have hb2:=hS.ba 2
   refine plc hE (.r 0 1<|.b 1 5 hb2<|.r 2 1<|.nil) (fun a hE=>?_)
   exact zz H
  refine rr hE fun a hE=>?_
  refine hE.ik 48 H (fun c62 hE H=>?_) fun c62 hE H=>?_
  ·
   refine wp_skip ?_
   exact J67 _ (by omega) _ true _ _ hE .of hS H
  refine pl0 (plc hE (.r 0 2 .nil) (fun a hE=>pld ?_))
  exact J67 _ (by omega) _ (x2_.f0 == 6) _ _ hE .of hS H
 refine rr hE fun a hE=>?_
 refine hE.ik 37 H (fun c43 hE H=>?_) fun c43 hE H=>?_
 ·
  refine wp_skip ?_
  exact J48 _ (by omega) _ true _ _ hE .of hS H
 refine pl0 (plc hE (.r 0 2 .nil) (fun a hE=>pld ?_))
 exact J48 _ (by omega) _ (x2_.f0 == 4) _ _ hE .of hS H
def qBk.f(k:Nat)(x0_:qJ)(x1_:qAm):Option (qJ × Int):=if x1_.f0=1 then ((qBz.f k x0_ x1_).bind fun t14=>(some (t14.1,t14.2))) else (if x1_.f0=8 then (none) else (if x1_.f0=9 then (some (x0_,0)) else (if x1_.f0=10 then (none) else ((qBy.f k x0_ x1_.f1).bind fun t40=>(if t40.2=true then ((qBD.f k x0_ t40.1 x1_).bind fun t49=>(some (t49.1,t49.2))) else (some (x0_,5)))))))
def qBk.Post(x0_:qJ)(x1_:qAm)(A0_4:Option Addr)(c0_4:Nat)(A0_5:Option Addr)(c0_5:Nat)(A0_6:Option Addr)(c0_6:Nat)(A1_6:Option Addr)(c1_6:Nat)(W F:World)(r:qJ × Int)(v:Value)(w':World):Prop:=∃(F':World)(RA0_4:Option Addr)(rc0_4:Nat)(RA0_5:Option Addr)(rc0_5:Nat)(RA0_6:Option Addr)(rc0_6:Nat),v = .tuple #[.agg #[iv r.1.f0,iv r.1.f1,iv r.1.f2,iv r.1.f3,.slice RA0_4 r.1.f4.length rc0_4,.slice RA0_5 r.1.f5.length rc0_5,.slice RA0_6 r.1.f6.length rc0_6],iv r.2]∧St W (mine W [row qA.k 104 (.slice A0_4 x0_.f4.length c0_4) x0_.f4]) F w' F' [row qA.k 104 (.slice RA0_4 r.1.f4.length rc0_4) r.1.f4]∧Rd qM.k F' RA0_5 rc0_5 r.1.f5∧Rd qF.k F' RA0_6 rc0_6 r.1.f6
theorem qBk.calls(k:Nat)(x0_:qJ)(x1_:qAm)(A0_4:Option Addr)(c0_4:Nat)(A0_5:Option Addr)(c0_5:Nat)(A0_6:Option Addr)(c0_6:Nat)(A1_6:Option Addr)(c1_6:Nat)(r:qJ × Int)(W F:World)(hown:Own W F [row qA.k 104 (.slice A0_4 x0_.f4.length c0_4) x0_.f4])(g0_5:Rd qM.k F A0_5 c0_5 x0_.f5)(g0_6:Rd qF.k F A0_6 c0_6 x0_.f6)(g1_6:Rd ki F A1_6 c1_6 x1_.f6)(H:qBk.f k x0_ x1_=some r):
    Calls Tryz.prog 78 #[.agg #[iv x0_.f0,iv x0_.f1,iv x0_.f2,iv x0_.f3,.slice A0_4 x0_.f4.length c0_4,.slice A0_5 x0_.f5.length c0_5,.slice A0_6 x0_.f6.length c0_6],.agg #[iv x1_.f0,iv x1_.f1,iv x1_.f2,iv x1_.f3,iv x1_.f4,iv x1_.f5,.slice A1_6 x1_.f6.length c1_6]] W fun e w'=>∃ v,e = .returned v∧qBk.Post x0_ x1_ A0_4 c0_4 A0_5 c0_5 A0_6 c0_6 A1_6 c1_6 W F r v w':=by
 have hS:=St.start hown
 obtain ⟨N,hN⟩:∃ N,N=mine W [row qA.k 104 (.slice A0_4 x0_.f4.length c0_4) x0_.f4]:=⟨_,rfl⟩
 rw [← hN]at hS
 unfold qBk.f at H
 refine enter (n:=50) rfl rfl rfl (Nat.le_of_ble_eq_true rfl) (fun a hE=>?_)
 refine sq fun K1 hK1=>pl0 (ple hE (.bx (t:=26) hS [iv x0_.f0,iv x0_.f1,iv x0_.f2,iv x0_.f3,.slice A0_4 x0_.f4.length c0_4,.slice A0_5 x0_.f5.length c0_5,.slice A0_6 x0_.f6.length c0_6]) ?_)
 rintro _ u3 a ⟨b2,rfl,hb2,hS,hg⟩ hE
 refine ple hE (.bx (t:=40) hS [iv x1_.f0,iv x1_.f1,iv x1_.f2,iv x1_.f3,iv x1_.f4,iv x1_.f5,.slice A1_6 x1_.f6.length c1_6]) ?_
 rintro _ u5 a ⟨b4,rfl,hb4,hS,hg⟩ hE
 refine ple hE (.al (t:=26) hS [iv 0,iv 0,iv 0,iv 0,.slice none 0 0,.slice none 0 0,.slice none 0 0]) ?_
 rintro _ u7 a ⟨b6,rfl,hb6,hS,hg⟩ hE
 refine plc hE (.r 3 1 .nil) (fun a hE=>pld (hK1 _ _ (sq fun K8 hK8=>sq fun K9 hK9=>pl0 ?_)))
 have hb4:=hS.ba 1
 refine plc hE (.r 0 1<|.b 1 0 hb4<|.nil) (fun a hE=>pld (hK9 _ _ (wp_block (rr hE fun a hE=>?_))))
 refine hE.ik 10 H (fun c11 hE H=>?_) fun c11 hE H=>?_
 ·
  refine sq fun K12 hK12=>pl0 ?_
  have hb2:=hS.ba 2
  refine plc hE (.bn 0 0 7 hb2<|.bn 1 0 7 hb4<|.nil) (fun a hE=>?_)
  replace hS:=hS.front 3 rfl
  obtain ⟨t14,h15,H⟩:=bd H
  refine ple hE (.cl en132 (qBz.calls k x0_ x1_ _ _ _ _ _ _ _ _ _ _ _ (Own.left (X:=[row qA.k 104 (.slice A0_4 x0_.f4.length c0_4) x0_.f4]) hS.own) g0_5 g0_6 g1_6 h15)) ?_
  rintro _ u13 a ⟨F16,A17,c18,A21,c22,A24,c25,rfl,hC,g23,g26⟩ hE
  have hs:=hC.sub
  replace hS:=hS.called (X:=[row qA.k 104 (.slice A0_4 x0_.f4.length c0_4) x0_.f4]) hC
  replace g0_5:=g0_5.mono hs
  replace g0_6:=g0_6.mono hs
  replace g1_6:=g1_6.mono hs
  refine plc hE (.r 3 2 .nil) (fun a hE=>?_)
  replace hS:=hS.front 1 rfl
  refine ple hE (.sto hS [iv t14.1.f0,iv t14.1.f1,iv t14.1.f2,iv t14.1.f3,.slice A17 t14.1.f4.length c18,.slice A21 t14.1.f5.length c22,.slice A24 t14.1.f6.length c25]) ?_
  rintro _ u27 a ⟨rfl,hb6,hS,hz⟩ hE
  refine plc hE (.r 6 1 .nil) (fun a hE=>pld (hK12 _ _ (wp_ret (qCE (qCD ?_)))))
  replace hS:=hS.pm [1] 4
  rw [hN]at hS
  obtain rfl:=si H
  exact retN hE rfl (of_decide_eq_true rfl) (.cell (by kernel_rfl) (qCJ [iv t14.1.f0,iv t14.1.f1,iv t14.1.f2,iv t14.1.f3,.slice A17 t14.1.f4.length c18,.slice A21 t14.1.f5.length c22,.slice A24 t14.1.f6.length c25] ag26 sz26 hb6 rfl) (.tmp (by kernel_rfl) .nil)) ⟨_,rfl,_,_,_,_,_,_,_,rfl,hS,g23,g26⟩
 refine rr hE fun a hE=>?_
 refine hE.ik 17 H (fun c29 hE H=>?_) fun c29 hE H=>?_
 ·
  refine sq fun K30 hK30=>pl0 ?_
  have hb2:=hS.ba 2
  refine plc hE (.bn 0 0 7 hb2<|.bn 1 0 7 hb4<|.nil) (fun a hE=>?_)
  exact zz H
 refine rr hE fun a hE=>?_
 refine hE.ik 24 H (fun c32 hE H=>?_) fun c32 hE H=>?_
 ·
  refine sq fun K33 hK33=>pl0 ?_
  have hb2:=hS.ba 2
  refine plc hE (.bn 0 0 7 hb2 .nil) (fun a hE=>ple hE (.sto hS [iv x0_.f0,iv x0_.f1,iv x0_.f2,iv x0_.f3,.slice A0_4 x0_.f4.length c0_4,.slice A0_5 x0_.f5.length c0_5,.slice A0_6 x0_.f6.length c0_6]) ?_)
  rintro _ u34 a ⟨rfl,hb6,hS,hz⟩ hE
  refine plc hE (.r 2 1 .nil) (fun a hE=>pld (hK33 _ _ (wp_ret (qCE (qCD ?_)))))
  replace hS:=hS.pm [] 3
  rw [hN]at hS
  obtain rfl:=si H
  exact retN hE rfl (of_decide_eq_true rfl) (.cell (by kernel_rfl) (qCJ [iv x0_.f0,iv x0_.f1,iv x0_.f2,iv x0_.f3,.slice A0_4 x0_.f4.length c0_4,.slice A0_5 x0_.f5.length c0_5,.slice A0_6 x0_.f6.length c0_6] ag26 sz26 hb6 rfl) (.tmp (by kernel_rfl) .nil)) ⟨_,rfl,_,_,_,_,_,_,_,rfl,hS,g0_5,g0_6⟩
 refine rr hE fun a hE=>?_
 refine hE.ik 27 H (fun c36 hE H=>?_) fun c36 hE H=>?_
 ·
  refine sq fun K37 hK37=>pl0 ?_
  have hb2:=hS.ba 2
  refine plc hE (.bn 0 0 7 hb2<|.bn 1 0 7 hb4<|.nil) (fun a hE=>?_)
  exact zz H
 refine wp_skip ?_
 refine qCF ?_
 refine hK8 _ _ (sq fun K38 hK38=>pl0 ?_)
 have hb2:=hS.ba 2
 refine plc hE (.bn 0 0 7 hb2<|.r 1 1<|.b 2 1 hb4<|.nil) (fun a hE=>?_)
 obtain ⟨t40,h41,H⟩:=bd H
 refine ple hE (.cl en135 (qBy.calls k x0_ x1_.f1 _ _ _ _ _ _ _ _ _ (Sub.refl _) (hS.rd_at (i:=3) rfl) (g0_5.mono hS.own.sub) (g0_6.mono hS.own.sub) h41)) ?_
 rintro _ u39 a ⟨_,rfl,hC⟩ hE
 replace hS:=hS.lent hC
 refine plc hE (.r 4 5 .nil) (fun a hE=>pld (hK38 _ _ (sq fun K42 hK42=>rr hE fun a hE=>?_)))
 refine hE.ibn 42 H (fun c44 hE H=>?_) fun c44 hE H=>?_
 ·
  refine wp_skip (hK42 _ _ (sq fun K47 hK47=>pl0 ?_))
  have hb2:=hS.ba 2
  have hb4:=hS.ba 1
  refine plc hE (.bn 0 0 7 hb2<|.r 1 1<|.bn 2 0 7 hb4<|.nil) (fun a hE=>?_)
  replace hS:=hS.front 3 rfl
  obtain ⟨t49,h50,H⟩:=bd H
  refine ple hE (.cl en136 (qBD.calls k x0_ t40.1 x1_ _ _ _ _ _ _ _ _ _ _ _ (Own.left (X:=[row qA.k 104 (.slice A0_4 x0_.f4.length c0_4) x0_.f4]) hS.own) g0_5 g0_6 g1_6 h50)) ?_
  rintro _ u48 a ⟨F51,A52,c53,A56,c57,A59,c60,rfl,hC,g58,g61⟩ hE
  have hs:=hC.sub
  replace hS:=hS.called (X:=[row qA.k 104 (.slice A0_4 x0_.f4.length c0_4) x0_.f4]) hC
  replace g0_5:=g0_5.mono hs
  replace g0_6:=g0_6.mono hs
  replace g1_6:=g1_6.mono hs
  refine plc hE (.r 4 2 .nil) (fun a hE=>?_)
  replace hS:=hS.front 1 rfl
  refine ple hE (.sto hS [iv t49.1.f0,iv t49.1.f1,iv t49.1.f2,iv t49.1.f3,.slice A52 t49.1.f4.length c53,.slice A56 t49.1.f5.length c57,.slice A59 t49.1.f6.length c60]) ?_
  rintro _ u62 a ⟨rfl,hb6,hS,hz⟩ hE
  refine plc hE (.r 7 1 .nil) (fun a hE=>pld (hK47 _ _ (wp_ret ?_)))
  replace hS:=hS.pm [1] 4
  rw [hN]at hS
  obtain rfl:=si H
  exact retN hE rfl (of_decide_eq_true rfl) (.cell (by kernel_rfl) (qCJ [iv t49.1.f0,iv t49.1.f1,iv t49.1.f2,iv t49.1.f3,.slice A52 t49.1.f4.length c53,.slice A56 t49.1.f5.length c57,.slice A59 t49.1.f6.length c60] ag26 sz26 hb6 rfl) (.tmp (by kernel_rfl) .nil)) ⟨_,rfl,_,_,_,_,_,_,_,rfl,hS,g58,g61⟩
 refine sq fun K45 hK45=>pl0 ?_
 have hb2:=hS.ba 2
 refine plc hE (.bn 0 0 7 hb2 .nil) (fun a hE=>ple hE (.sto hS [iv x0_.f0,iv x0_.f1,iv x0_.f2,iv x0_.f3,.slice A0_4 x0_.f4.length c0_4,.slice A0_5 x0_.f5.length c0_5,.slice A0_6 x0_.f6.length c0_6]) ?_)
 rintro _ u46 a ⟨rfl,hb6,hS,hz⟩ hE
 refine plc hE (.r 2 1 .nil) (fun a hE=>pld (hK45 _ _ (wp_ret (qCD ?_))))
 replace hS:=hS.pm [] 3
 rw [hN]at hS
 obtain rfl:=si H
 exact retN hE rfl (of_decide_eq_true rfl) (.cell (by kernel_rfl) (qCJ [iv x0_.f0,iv x0_.f1,iv x0_.f2,iv x0_.f3,.slice A0_4 x0_.f4.length c0_4,.slice A0_5 x0_.f5.length c0_5,.slice A0_6 x0_.f6.length c0_6] ag26 sz26 hb6 rfl) (.tmp (by kernel_rfl) .nil)) ⟨_,rfl,_,_,_,_,_,_,_,rfl,hS,g0_5,g0_6⟩
def qBW.f(x0_:qM)(x1_:Int):Option Int:=(qAP.f x0_.f0 x1_).bind fun t6=>(some t6)
def qBW.Post(W F:World)(r:Int)(v:Value)(w':World):Prop:=∃(F':World),v=iv r∧St W (mine W []) F w' F' []
theorem qBW.calls(x0_:qM)(x1_:Int)(A0_1:Option Addr)(c0_1:Nat)(r:Int)(W F:World)(hown:Sub F W)(g0_1:Rd ki F A0_1 c0_1 x0_.f1)(H:qBW.f x0_ x1_=some r):
    Calls Tryz.prog 165 #[.agg #[iv x0_.f0,.slice A0_1 x0_.f1.length c0_1],iv x1_] W fun e w'=>∃ v,e = .returned v∧qBW.Post W F r v w':=by
 have hS:=St.start (Own.nil hown)
 unfold qBW.f at H
 refine enter (n:=9) rfl rfl rfl (Nat.le_of_ble_eq_true rfl) (fun a hE=>?_)
 refine sq fun K1 hK1=>pl0 (ple hE (.bx (t:=97) hS [iv x0_.f0,.slice A0_1 x0_.f1.length c0_1]) ?_)
 rintro _ u3 a ⟨b2,rfl,hb2,hS,hg⟩ hE
 refine plc hE (.r 1 1 .nil) (fun a hE=>pld (hK1 _ _ (sq fun K4 hK4=>pl0 (plc hE (.r 0 1<|.b 1 0 hb2<|.r 2 1<|.nil) (fun a hE=>?_)))))
 obtain ⟨t6,h7,H⟩:=bd H
 refine ple hE (.cl en161 (qAP.calls x0_.f0 x1_ _ _ _ hS.own.sub h7)) ?_
 rintro _ u5 a ⟨_,rfl,hC⟩ hE
 replace hS:=hS.lent hC
 refine plc hE (.r 4 1 .nil) (fun a hE=>pld (hK4 _ _ (wp_ret ?_)))
 replace hS:=hS.tail
 obtain rfl:=si H
 exact rt1 hE ⟨_,rfl,_,rfl,hS⟩
def qP.l7:Nat→List qM→Int→Int→Int→Option (Int × Bool)
 | 0,_,_,_,_=>none
 | k+1,x0_,x1_,x5,x6=>if x5<x6 then (if 0≤(w64 ((IntKind.u64.wrap (w64 (x5+x6))).fdiv 2))∧(w64 ((IntKind.u64.wrap (w64 (x5+x6))).fdiv 2))<(x0_.length:Int) then ((qBW.f (⟨(nth qM.z x0_ (w64 ((IntKind.u64.wrap (w64 (x5+x6))).fdiv 2))).f0,(nth qM.z x0_ (w64 ((IntKind.u64.wrap (w64 (x5+x6))).fdiv 2))).f1⟩:qM) x1_).bind fun t25=>(if t25<0 then (qP.l7 k x0_ x1_ (w64 ((w64 ((IntKind.u64.wrap (w64 (x5+x6))).fdiv 2))+1)) x6) else (qP.l7 k x0_ x1_ x5 (w64 ((IntKind.u64.wrap (w64 (x5+x6))).fdiv 2))))) else (none)) else (if x5<(x0_.length:Int) then (if 0≤x5∧x5<(x0_.length:Int) then ((qBW.f (⟨(nth qM.z x0_ x5).f0,(nth qM.z x0_ x5).f1⟩:qM) x1_).bind fun t39=>(some (x5,(t39 == 0)))) else (none)) else (some (x5,false)))
theorem qP.l7_s k x0_ x1_ x5 x6:type_of% (qP.l7.eq_2 x0_ x1_ x5 x6 k):=qP.l7.eq_2 x0_ x1_ x5 x6 k
def qP.f(k:Nat)(x0_:List qM)(x1_:Int):Option (Int × Bool):=qP.l7 k x0_ x1_ 0 (x0_.length:Int)
def qP.Post(W F:World)(r:Int × Bool)(v:Value)(w':World):Prop:=∃(F':World),v = .tuple #[iv r.1,.bool r.2]∧St W (mine W []) F w' F' []
theorem qP.calls(k:Nat)(x0_:List qM)(x1_:Int)(A0_0:Option Addr)(c0_0:Nat)(r:Int × Bool)(W F:World)(hown:Sub F W)(g0_0:Rd qM.k F A0_0 c0_0 x0_)(H:qP.f k x0_ x1_=some r):
    Calls Tryz.prog 164 #[.slice A0_0 x0_.length c0_0,iv x1_,.func (.func 165) #[] #[]] W fun e w'=>∃ v,e = .returned v∧qP.Post W F r v w':=by
 have hS:=St.start (Own.nil hown)
 unfold qP.f at H
 refine enter (n:=49) rfl rfl rfl (Nat.le_of_ble_eq_true rfl) (fun a hE=>?_)
 refine rr hE fun a hE=>(rr hE fun a hE=>(rr hE fun a hE=>(sq fun K4 hK4=>wp_block ?_)))
 refine wp_loop_ghost (fun kq8 a w'=>∃(G:Nat→Value)(x5:Int)(x6:Int),kq8≤k∧Env 49 G a∧At G [(0,.slice A0_0 x0_.length c0_0),(1,iv x1_),(2,.func (.func 165) #[] #[]),(8,iv (x0_.length:Int)),(9,iv x5),(10,iv x6)]∧St W (mine W []) F w' F []∧qP.l7 kq8 x0_ x1_ x5 x6=some r) k ⟨_,0,(x0_.length:Int),Nat.le_refl _,hE,.of,hS,H⟩ ?_
 rintro kq8 a u10 ⟨G,x5,x6,hkq,hE,hA,hS,H⟩
 obtain _ | k9:=kq8
 ·
  exact zz H
 rw [qP.l7_s]at H
 obtain ⟨J,hE⟩:=hE.at hA
 refine sq fun K11 hK11=>rr hE fun a hE=>?_
 refine hE.ik 17 H (fun c13 hE H=>?_) fun c13 hE H=>?_
 ·
  refine wp_skip (hK11 _ _ (wp_block (rr hE fun a hE=>(sq fun K15 hK15=>pl0 ?_))))
  obtain ⟨c16,H⟩:=gd H
  have hE_:=hE
  obtain ⟨ad17,rfl⟩:=g0_0.addr c16.1 c16.2
  replace hE:=hE_
  obtain ⟨cs19,⟨A21,c22,rfl,g23⟩,hc20⟩:=g0_0.el qM.z (w64 ((IntKind.u64.wrap (w64 (x5+x6))).fdiv 2)) c16.1 c16.2
  refine plc hE (.r 0 3<|.x 3 c16<|.cs 4 (hS.fcs hc20)<|.r 5 1<|.nil) (fun a hE=>?_)
  obtain ⟨t25,h26,H⟩:=bd H
  refine ple hE (.cl en165 (qBW.calls (⟨(nth qM.z x0_ (w64 ((IntKind.u64.wrap (w64 (x5+x6))).fdiv 2))).f0,(nth qM.z x0_ (w64 ((IntKind.u64.wrap (w64 (x5+x6))).fdiv 2))).f1⟩:qM) x1_ _ _ _ _ _ hS.own.sub g23 h26)) ?_
  rintro _ u24 a ⟨_,rfl,hC⟩ hE
  replace hS:=hS.lent hC
  refine plc hE (.r 7 1 .nil) (fun a hE=>pld (hK15 _ _ ?_))
  refine hE.ik 31 H (fun c27 hE H=>?_) fun c27 hE H=>?_
  ·
   refine pl0 (plc hE (.r 0 3 .nil) (fun a hE=>pld ?_))
   refine qCF ?_
   exact qCG ⟨k9,by omega,_,(w64 ((w64 ((IntKind.u64.wrap (w64 (x5+x6))).fdiv 2))+1)),x6,by omega,hE,.of,hS,H⟩
  refine pl0 (plc hE (.r 0 2 .nil) (fun a hE=>pld ?_))
  refine qCF ?_
  exact qCG ⟨k9,by omega,_,x5,(w64 ((IntKind.u64.wrap (w64 (x5+x6))).fdiv 2)),by omega,hE,.of,hS,H⟩
 refine wp_exit ?_
 refine hK4 _ _ (sq fun K28 hK28=>pl0 (plc hE (.r 0 5 .nil) (fun a hE=>?_)))
 rcases sp H with ⟨c29,H⟩ | ⟨c29,H⟩
 ·
  replace hE:=hE.kt 39 c29
  obtain ⟨c30,H⟩:=gd H
  have hE_:=hE
  obtain ⟨ad31,rfl⟩:=g0_0.addr c30.1 c30.2
  replace hE:=hE_
  obtain ⟨cs33,⟨A35,c36,rfl,g37⟩,hc34⟩:=g0_0.el qM.z x5 c30.1 c30.2
  refine plc hE (.r 5 3<|.x 8 c30<|.cs 9 (hS.fcs hc34)<|.r 10 1<|.nil) (fun a hE=>?_)
  obtain ⟨t39,h40,H⟩:=bd H
  refine ple hE (.cl en165 (qBW.calls (⟨(nth qM.z x0_ x5).f0,(nth qM.z x0_ x5).f1⟩:qM) x1_ _ _ _ _ _ hS.own.sub g37 h40)) ?_
  rintro _ u38 a ⟨_,rfl,hC⟩ hE
  replace hS:=hS.lent hC
  refine plc hE (.r 12 4 .nil) (fun a hE=>pld (hK28 _ _ (wp_ret ?_)))
  obtain rfl:=si H
  exact rtN hE ⟨_,rfl,_,rfl,hS⟩
 replace hE:=hE.kf 39 c29
 refine plc hE (.r 5 11 .nil) (fun a hE=>pld (hK28 _ _ (wp_ret ?_)))
 obtain rfl:=si H
 exact rtN hE ⟨_,rfl,_,rfl,hS⟩
def qBu.f(k:Nat)(x0_:qJ)(x1_:Int):Option (Int × Bool):=(qP.f k x0_.f5 x1_).bind fun t6=>(some (t6.1,t6.2))
def qBu.Post(W F:World)(r:Int × Bool)(v:Value)(w':World):Prop:=∃(F':World),v = .tuple #[iv r.1,.bool r.2]∧St W (mine W []) F w' F' []
theorem qBu.calls(k:Nat)(x0_:qJ)(x1_:Int)(A0_4:Option Addr)(c0_4:Nat)(A0_5:Option Addr)(c0_5:Nat)(A0_6:Option Addr)(c0_6:Nat)(r:Int × Bool)(W F:World)(hown:Sub F W)(g0_4:Rd qA.k F A0_4 c0_4 x0_.f4)(g0_5:Rd qM.k F A0_5 c0_5 x0_.f5)(g0_6:Rd qF.k F A0_6 c0_6 x0_.f6)(H:qBu.f k x0_ x1_=some r):
    Calls Tryz.prog 121 #[.agg #[iv x0_.f0,iv x0_.f1,iv x0_.f2,iv x0_.f3,.slice A0_4 x0_.f4.length c0_4,.slice A0_5 x0_.f5.length c0_5,.slice A0_6 x0_.f6.length c0_6],iv x1_] W fun e w'=>∃ v,e = .returned v∧qBu.Post W F r v w':=by
 have hS:=St.start (Own.nil hown)
 unfold qBu.f at H
 refine enter (n:=12) rfl rfl rfl (Nat.le_of_ble_eq_true rfl) (fun a hE=>?_)
 refine sq fun K1 hK1=>pl0 (ple hE (.bx (t:=26) hS [iv x0_.f0,iv x0_.f1,iv x0_.f2,iv x0_.f3,.slice A0_4 x0_.f4.length c0_4,.slice A0_5 x0_.f5.length c0_5,.slice A0_6 x0_.f6.length c0_6]) ?_)
 rintro _ u3 a ⟨b2,rfl,hb2,hS,hg⟩ hE
 refine plc hE (.r 1 2 .nil) (fun a hE=>pld (hK1 _ _ (sq fun K4 hK4=>pl0 (plc hE (.r 0 1<|.b 1 5 hb2<|.r 2 1<|.nil) (fun a hE=>?_)))))
 obtain ⟨t6,h7,H⟩:=bd H
 refine ple hE (.cl en164 (qP.calls k x0_.f5 x1_ _ _ _ _ _ hS.own.sub g0_5 h7)) ?_
 rintro _ u5 a ⟨_,rfl,hC⟩ hE
 replace hS:=hS.lent hC
 refine plc hE (.r 4 4 .nil) (fun a hE=>pld (hK4 _ _ (wp_ret ?_)))
 replace hS:=hS.tail
 obtain rfl:=si H
 exact rtN hE ⟨_,rfl,_,rfl,hS⟩
def qAn.j6:Nat→Int→Bool→Option (List qK)
 | 0,_,_=>none
 | k+1,x0_,y5=>if y5=true then (some []) else (some [(⟨1,0,0⟩:qK),(⟨2,1,x0_⟩:qK),(⟨2,2,1⟩:qK),(⟨2,3,1⟩:qK),(⟨3,0,0⟩:qK)])
theorem qAn.j6_s k x0_ y5:type_of% (qAn.j6.eq_2 x0_ y5 k):=qAn.j6.eq_2 x0_ y5 k
def qAn.f(k:Nat)(x0_:Int):Option (List qK):=if x0_<1 then (qAn.j6 k x0_ true) else (qAn.j6 k x0_ (decide (x0_>3)))
def qAn.Post(W F:World)(r:List qK)(v:Value)(w':World):Prop:=∃(F':World)(RA0_0:Option Addr)(rc0_0:Nat),v = .slice RA0_0 r.length rc0_0∧St W (mine W []) F w' F' [row qK.k 175 (.slice RA0_0 r.length rc0_0) r]
theorem qAn.calls(k:Nat)(x0_:Int)(r:List qK)(W F:World)(hown:Sub F W)(H:qAn.f k x0_=some r):
    Calls Tryz.prog 167 #[iv x0_] W fun e w'=>∃ v,e = .returned v∧qAn.Post W F r v w':=by
 have hS:=St.start (Own.nil hown)
 unfold qAn.f at H
 refine enter (n:=16) rfl rfl rfl (Nat.le_of_ble_eq_true rfl) (fun a hE=>?_)
 refine rr hE fun a hE=>(sq fun K2 hK2=>sq fun K3 hK3=>?_)
 have J9:∀ kq7,kq7≤k→∀(G:Nat→Value)(y5:Bool)(a:Act)(w':World),Env 16 G a→At G [(0,iv x0_),(8,.bool y5)]→St W (mine W []) F w' F []→qAn.j6 kq7 x0_ y5=some r→K3 a w':=by
  intro kq7 hkq G y5 a u10 hE hA hS H
  obtain _ | k8:=kq7
  ·
   exact zz H
  rw [qAn.j6_s]at H
  obtain ⟨J,hE⟩:=hE.at hA
  refine hK3 _ _ ?_
  refine hE.ib 8 H (fun c11 hE H=>?_) fun c11 hE H=>?_
  ·
   refine rr hE fun a hE=>(wp_ret (qCD ?_))
   replace hS:=hS.nilrow qK.k 175
   obtain rfl:=si H
   exact rt1 hE ⟨_,rfl,_,_,_,rfl,hS⟩
  refine wp_skip (hK2 _ _ (sq fun K14 hK14=>pl0 (plc hE (.r 0 6 .nil) (fun a hE=>ple hE (.lit (d:=qK.k) (e:=175) hS [(⟨1,0,0⟩:qK),(⟨2,1,x0_⟩:qK),(⟨2,2,1⟩:qK),(⟨2,3,1⟩:qK),(⟨3,0,0⟩:qK)] (.cons rfl<|.cons rfl<|.cons rfl<|.cons rfl<|.cons rfl .nil)) ?_))))
  rintro _ u15 a ⟨A16,c17,rfl,hS,hg⟩ hE
  refine plc hE (.r 7 1 .nil) (fun a hE=>pld (hK14 _ _ (wp_ret ?_)))
  obtain rfl:=si H
  exact rt1 hE ⟨_,rfl,_,_,_,rfl,hS⟩
 refine pl0 (plc hE (.r 0 3 .nil) (fun a hE=>?_))
 rcases sp H with ⟨c4,H⟩ | ⟨c4,H⟩
 ·
  replace hE:=hE.kt 5 c4
  refine plc hE (.r 3 3 .nil) (fun a hE=>pld ?_)
  exact J9 _ (by omega) _ true _ _ hE .of hS H
 replace hE:=hE.kf 5 c4
 refine plc hE (.r 3 3 .nil) (fun a hE=>pld ?_)
 exact J9 _ (by omega) _ (decide (x0_>3)) _ _ hE .of hS H
def qBA.j23:Nat→Int→qK→Bool→Option (Int × Bool)
 | 0,_,_,_=>none
 | k+1,x0_,x1_,y22=>if x0_=(-1) then (some (x1_.f1,false)) else (if y22=true then (if x1_.f2≥1 then (some (x1_.f1,(decide (x1_.f2≤12)))) else (some (x1_.f1,false))) else (some (x1_.f1,false)))
theorem qBA.j23_s k x0_ x1_ y22:type_of% (qBA.j23.eq_2 x0_ x1_ y22 k):=qBA.j23.eq_2 x0_ x1_ y22 k
def qBA.f(k:Nat)(x0_:Int)(x1_:qK):Option (Int × Bool):=if x1_.f0=1 then (if x0_=(-1) then (if x1_.f1=0 then (some (0,(x1_.f2 == 0))) else (some (0,false))) else (some (0,false))) else (if x1_.f0=3 then (if x0_=3 then (if x1_.f1=0 then (some ((-1),(x1_.f2 == 0))) else (some ((-1),false))) else (some ((-1),false))) else (if x1_.f0=2 then (if x1_.f1>x0_ then (if x1_.f1≤3 then (if x1_.f1=2 then (qBA.j23 k x0_ x1_ (x0_ == 1)) else (qBA.j23 k x0_ x1_ true)) else (qBA.j23 k x0_ x1_ false)) else (qBA.j23 k x0_ x1_ false)) else (some ((-1),false))))
def qBA.Post(W F:World)(r:Int × Bool)(v:Value)(w':World):Prop:=∃(F':World),v = .tuple #[iv r.1,.bool r.2]∧St W (mine W []) F w' F' []
theorem qBA.calls(k:Nat)(x0_:Int)(x1_:qK)(r:Int × Bool)(W F:World)(hown:Sub F W)(H:qBA.f k x0_ x1_=some r):
    Calls Tryz.prog 224 #[iv x0_,.agg #[iv x1_.f0,iv x1_.f1,iv x1_.f2]] W fun e w'=>∃ v,e = .returned v∧qBA.Post W F r v w':=by
 have hS:=St.start (Own.nil hown)
 unfold qBA.f at H
 refine enter (n:=74) rfl rfl rfl (Nat.le_of_ble_eq_true rfl) (fun a hE=>?_)
 refine sq fun K1 hK1=>pl0 (ple hE (.bx (t:=175) hS [iv x1_.f0,iv x1_.f1,iv x1_.f2]) ?_)
 rintro _ u3 a ⟨b2,rfl,hb2,hS,hg⟩ hE
 refine plc hE (.r 1 2 .nil) (fun a hE=>pld (hK1 _ _ (sq fun K4 hK4=>rg hE (.r 0 1<|.b 1 0 hb2<|.nil) fun a hE=>(wp_block (rr hE fun a hE=>?_)))))
 refine hE.ik 9 H (fun c7 hE H=>?_) fun c7 hE H=>?_
 ·
  refine sq fun K8 hK8=>?_
  refine drawn 14 ⟨[],[],fun q=>False⟩ mixed rfl (by kernel_rfl) (fun hst=>?_)
  replace hS:=hS.drew
  refine mny 11 hst hE (.r 0 3 .nil) (fun a hE=>?_)
  rcases sp H with ⟨c9,H⟩ | ⟨c9,H⟩
  ·
   replace hE:=hE.kt 13 c9
   have hb2:=hS.ba 0
   refine mny 5 hst hE (.r 3 1<|.b 4 1 hb2<|.r 5 3<|.r 12 1<|.nil) (fun a hE=>?_)
   rcases sp H with ⟨c10,H⟩ | ⟨c10,H⟩
   ·
    replace hE:=hE.kt 18 c10
    refine mny 0 hst hE (.r 8 1<|.b 9 2 hb2<|.r 10 2<|.r 13 1<|.nil) (fun a hE=>?_)
    refine dn ?_
    refine hK8 _ _ (wp_ret (qCE (qCD ?_)))
    replace hS:=hS.tail
    obtain rfl:=si H
    exact rtN hE ⟨_,rfl,_,rfl,hS⟩
   replace hE:=hE.kf 18 c10
   refine mny 0 hst hE (.r 8 4<|.r 13 1<|.nil) (fun a hE=>?_)
   refine dn ?_
   refine hK8 _ _ (wp_ret (qCE (qCD ?_)))
   replace hS:=hS.tail
   obtain rfl:=si H
   exact rtN hE ⟨_,rfl,_,rfl,hS⟩
  replace hE:=hE.kf 13 c9
  refine mny 0 hst hE (.r 3 11 .nil) (fun a hE=>?_)
  refine dn ?_
  refine hK8 _ _ (wp_ret (qCE (qCD ?_)))
  replace hS:=hS.tail
  obtain rfl:=si H
  exact rtN hE ⟨_,rfl,_,rfl,hS⟩
 refine rr hE fun a hE=>?_
 refine hE.ik 23 H (fun c12 hE H=>?_) fun c12 hE H=>?_
 ·
  refine sq fun K13 hK13=>?_
  refine drawn 14 ⟨[],[],fun q=>False⟩ mixed rfl (by kernel_rfl) (fun hst=>?_)
  replace hS:=hS.drew
  refine mny 11 hst hE (.r 0 3 .nil) (fun a hE=>?_)
  rcases sp H with ⟨c14,H⟩ | ⟨c14,H⟩
  ·
   replace hE:=hE.kt 27 c14
   have hb2:=hS.ba 0
   refine mny 5 hst hE (.r 3 1<|.b 4 1 hb2<|.r 5 3<|.r 12 1<|.nil) (fun a hE=>?_)
   rcases sp H with ⟨c15,H⟩ | ⟨c15,H⟩
   ·
    replace hE:=hE.kt 32 c15
    refine mny 0 hst hE (.r 8 1<|.b 9 2 hb2<|.r 10 2<|.r 13 1<|.nil) (fun a hE=>?_)
    refine dn ?_
    refine hK13 _ _ (wp_ret (qCE (qCD ?_)))
    replace hS:=hS.tail
    obtain rfl:=si H
    exact rtN hE ⟨_,rfl,_,rfl,hS⟩
   replace hE:=hE.kf 32 c15
   refine mny 0 hst hE (.r 8 4<|.r 13 1<|.nil) (fun a hE=>?_)
   refine dn ?_
   refine hK13 _ _ (wp_ret (qCE (qCD ?_)))
   replace hS:=hS.tail
   obtain rfl:=si H
   exact rtN hE ⟨_,rfl,_,rfl,hS⟩
  replace hE:=hE.kf 27 c14
  refine mny 0 hst hE (.r 3 11 .nil) (fun a hE=>?_)
  refine dn ?_
  refine hK13 _ _ (wp_ret (qCE (qCD ?_)))
  replace hS:=hS.tail
  obtain rfl:=si H
  exact rtN hE ⟨_,rfl,_,rfl,hS⟩
 refine rr hE fun a hE=>?_
 refine hE.ik 37 H (fun c17 hE H=>?_) fun c17 hE H=>?_
 ·
  refine sq fun K18 hK18=>?_
  have J26:∀ kq24,kq24≤k→∀(G:Nat→Value)(y22:Bool)(a:Act)(w':World),Env 74 G a→At G [(0,iv x0_),(3,.pointer (pb b2)),(6,.bool y22)]→St W (mine W []) F w' F [box b2 #[iv x1_.f0,iv x1_.f1,iv x1_.f2] 175]→qBA.j23 kq24 x0_ x1_ y22=some r→K18 a w':=by
   intro kq24 hkq G y22 a u27 hE hA hS H
   obtain _ | k25:=kq24
   ·
    exact zz H
   rw [qBA.j23_s]at H
   obtain ⟨J,hE⟩:=hE.at hA
   refine hK18 _ _ (sq fun K28 hK28=>?_)
   refine drawn 19 ⟨[],[],fun q=>False⟩ mixed rfl (by kernel_rfl) (fun hst=>?_)
   replace hS:=hS.drew
   have hb2:=hS.ba 0
   refine mny 14 hst hE (.r 0 1<|.b 1 1 hb2<|.r 2 3<|.nil) (fun a hE=>?_)
   rcases sp H with ⟨c29,H⟩ | ⟨c29,H⟩
   ·
    replace hE:=hE.ktn 61 c29
    refine mny 0 hst hE (.r 5 14 .nil) (fun a hE=>?_)
    refine dn ?_
    refine hK28 _ _ (wp_ret (qCE (qCD ?_)))
    replace hS:=hS.tail
    obtain rfl:=si H
    exact rtN hE ⟨_,rfl,_,rfl,hS⟩
   replace hE:=hE.kfn 61 c29
   refine mny 11 hst hE (.r 5 3 .nil) (fun a hE=>?_)
   rcases sp H with ⟨c30,H⟩ | ⟨c30,H⟩
   ·
    replace hE:=hE.bt 64 c30
    refine mny 5 hst hE (.r 8 1<|.b 9 2 hb2<|.r 10 3<|.r 17 1<|.nil) (fun a hE=>?_)
    rcases sp H with ⟨c31,H⟩ | ⟨c31,H⟩
    ·
     replace hE:=hE.kt 69 c31
     refine mny 0 hst hE (.r 13 1<|.b 14 2 hb2<|.r 15 2<|.r 18 1<|.nil) (fun a hE=>?_)
     refine dn ?_
     refine hK28 _ _ (wp_ret (qCE (qCD ?_)))
     replace hS:=hS.tail
     obtain rfl:=si H
     exact rtN hE ⟨_,rfl,_,rfl,hS⟩
    replace hE:=hE.kf 69 c31
    refine mny 0 hst hE (.r 13 4<|.r 18 1<|.nil) (fun a hE=>?_)
    refine dn ?_
    refine hK28 _ _ (wp_ret (qCE (qCD ?_)))
    replace hS:=hS.tail
    obtain rfl:=si H
    exact rtN hE ⟨_,rfl,_,rfl,hS⟩
   replace hE:=hE.bf 64 c30
   refine mny 0 hst hE (.r 8 11 .nil) (fun a hE=>?_)
   refine dn ?_
   refine hK28 _ _ (wp_ret (qCE (qCD ?_)))
   replace hS:=hS.tail
   obtain rfl:=si H
   exact rtN hE ⟨_,rfl,_,rfl,hS⟩
  refine pl0 (plc hE (.r 0 1<|.b 1 1 hb2<|.r 2 3<|.nil) (fun a hE=>?_))
  rcases sp H with ⟨c19,H⟩ | ⟨c19,H⟩
  ·
   replace hE:=hE.kt 43 c19
   refine plc hE (.r 5 1<|.b 6 1 hb2<|.r 7 3<|.nil) (fun a hE=>?_)
   rcases sp H with ⟨c20,H⟩ | ⟨c20,H⟩
   ·
    replace hE:=hE.kt 48 c20
    refine plc hE (.r 10 1<|.b 11 1 hb2<|.r 12 2<|.nil) (fun a hE=>?_)
    rcases sp H with ⟨c21,H⟩ | ⟨c21,H⟩
    ·
     replace hE:=hE.ktn 52 c21
     refine plc hE (.r 14 5 .nil) (fun a hE=>pld ?_)
     exact J26 _ (by omega) _ (x0_ == 1) _ _ hE .of hS H
    replace hE:=hE.kfn 52 c21
    refine plc hE (.r 14 5 .nil) (fun a hE=>pld ?_)
    exact J26 _ (by omega) _ true _ _ hE .of hS H
   replace hE:=hE.kf 48 c20
   refine plc hE (.r 10 9 .nil) (fun a hE=>pld ?_)
   exact J26 _ (by omega) _ false _ _ hE .of hS H
  replace hE:=hE.kf 43 c19
  refine plc hE (.r 5 14 .nil) (fun a hE=>pld ?_)
  exact J26 _ (by omega) _ false _ _ hE .of hS H
 refine wp_skip ?_
 refine qCF ?_
 refine hK4 _ _ (rr hE fun a hE=>(wp_ret ?_))
 replace hS:=hS.tail
 obtain rfl:=si H
 exact rtN hE ⟨_,rfl,_,rfl,hS⟩
mutual
def qAa.j6:Nat→List qK→Bool→Option Int
 | 0,_,_=>none
 | k+1,x0_,y5=>if y5=true then (some 1) else (qAa.l18 k x0_ (-1) 0)
def qAa.l18:Nat→List qK→Int→Int→Option Int
 | 0,_,_,_=>none
 | k+1,x0_,x16,x17=>if x17<(x0_.length:Int) then (if 0≤x17∧x17<(x0_.length:Int) then ((qBA.f k x16 (⟨(nth qK.z x0_ x17).f0,(nth qK.z x0_ x17).f1,(nth qK.z x0_ x17).f2⟩:qK)).bind fun t37=>(if t37.2=true then (qAa.l18 k x0_ t37.1 (w64 (x17+1))) else (some 1))) else (none)) else (some 0)
end
theorem qAa.j6_s k x0_ y5:type_of% (qAa.j6.eq_2 x0_ y5 k):=qAa.j6.eq_2 x0_ y5 k
theorem qAa.l18_s k x0_ x16 x17:type_of% (qAa.l18.eq_2 x0_ x16 x17 k):=qAa.l18.eq_2 x0_ x16 x17 k
def qAa.f(k:Nat)(x0_:List qK):Option Int:=if (x0_.length:Int)=0 then (qAa.j6 k x0_ true) else (qAa.j6 k x0_ (decide ((x0_.length:Int)>8)))
def qAa.Post(W F:World)(r:Int)(v:Value)(w':World):Prop:=∃(F':World),v=iv r∧St W (mine W []) F w' F' []
theorem qAa.calls(k:Nat)(x0_:List qK)(A0_0:Option Addr)(c0_0:Nat)(r:Int)(W F:World)(hown:Sub F W)(g0_0:Rd qK.k F A0_0 c0_0 x0_)(H:qAa.f k x0_=some r):
    Calls Tryz.prog 203 #[.slice A0_0 x0_.length c0_0] W fun e w'=>∃ v,e = .returned v∧qAa.Post W F r v w':=by
 have hS:=St.start (Own.nil hown)
 unfold qAa.f at H
 refine enter (n:=32) rfl rfl rfl (Nat.le_of_ble_eq_true rfl) (fun a hE=>?_)
 refine rr hE fun a hE=>(sq fun K2 hK2=>sq fun K3 hK3=>?_)
 have J9:∀ kq7,kq7≤k→∀(G:Nat→Value)(y5:Bool)(a:Act)(w':World),Env 32 G a→At G [(0,.slice A0_0 x0_.length c0_0),(15,.bool y5)]→St W (mine W []) F w' F []→qAa.j6 kq7 x0_ y5=some r→K3 a w':=by
  intro kq7 hkq G y5 a u10 hE hA hS H
  obtain _ | k8:=kq7
  ·
   exact zz H
  rw [qAa.j6_s]at H
  obtain ⟨J,hE⟩:=hE.at hA
  refine hK3 _ _ ?_
  refine hE.ib 15 H (fun c11 hE H=>?_) fun c11 hE H=>?_
  ·
   refine rr hE fun a hE=>(wp_ret (qCD ?_))
   obtain rfl:=si H
   exact rt1 hE ⟨_,rfl,_,rfl,hS⟩
  refine wp_skip (hK2 _ _ (rr hE fun a hE=>(sq fun K14 hK14=>rr hE fun a hE=>(wp_block ?_))))
  refine wp_loop_ghost (fun kq19 a w'=>∃(G:Nat→Value)(x16:Int)(x17:Int),kq19≤k8∧Env 32 G a∧At G [(3,iv x16),(16,.slice A0_0 x0_.length c0_0),(17,iv (x0_.length:Int)),(18,iv x17)]∧St W (mine W []) F w' F []∧qAa.l18 kq19 x0_ x16 x17=some r) k8 ⟨_,(-1),0,Nat.le_refl _,hE,.of,hS,H⟩ ?_
  rintro kq19 a u21 ⟨G,x16,x17,hkq,hE,hA,hS,H⟩
  obtain _ | k20:=kq19
  ·
   exact zz H
  rw [qAa.l18_s]at H
  obtain ⟨J,hE⟩:=hE.at hA
  refine rr hE fun a hE=>(sq fun K23 hK23=>?_)
  refine hE.ik 19 H (fun c24 hE H=>?_) fun c24 hE H=>?_
  ·
   refine wp_skip (hK23 _ _ (sq fun K25 hK25=>wp_block (sq fun K26 hK26=>pl0 ?_)))
   obtain ⟨c27,H⟩:=gd H
   have hE_:=hE
   obtain ⟨ad28,rfl⟩:=g0_0.addr c27.1 c27.2
   replace hE:=hE_
   obtain ⟨cs30,rfl,hc31⟩:=g0_0.el qK.z x17 c27.1 c27.2
   refine plc hE (.x 0 c27<|.cs 1 (hS.fcs hc31)<|.nil) (fun a hE=>ple hE (.al (t:=175) hS [iv 0,iv 0,iv 0]) ?_)
   rintro _ u33 a ⟨b32,rfl,hb32,hS,hg⟩ hE
   refine ple hE (.sto hS [iv ((nth qK.z x0_ x17).f0),iv ((nth qK.z x0_ x17).f1),iv ((nth qK.z x0_ x17).f2)]) ?_
   rintro _ u34 a ⟨rfl,hb32,hS,hz⟩ hE
   refine pld (hK26 _ _ (sq fun K35 hK35=>pl0 (plc hE (.r 0 1<|.bn 1 0 3 hb32<|.nil) (fun a hE=>?_))))
   obtain ⟨t37,h38,H⟩:=bd H
   refine ple hE (.cl en224 (qBA.calls k20 x16 (⟨(nth qK.z x0_ x17).f0,(nth qK.z x0_ x17).f1,(nth qK.z x0_ x17).f2⟩:qK) _ _ _ hS.own.sub h38)) ?_
   rintro _ u36 a ⟨_,rfl,hC⟩ hE
   replace hS:=hS.lent hC
   refine plc hE (.r 3 5 .nil) (fun a hE=>pld (hK35 _ _ (sq fun K39 hK39=>rr hE fun a hE=>?_)))
   refine hE.ibn 29 H (fun c41 hE H=>?_) fun c41 hE H=>?_
   ·
    refine wp_skip (hK39 _ _ (pl0 (plc hE (.r 0 2 .nil) (fun a hE=>pld ?_))))
    refine qCF ?_
    refine hK25 _ _ (pl0 (plc hE (.r 0 2 .nil) (fun a hE=>pld ?_)))
    replace hS:=hS.tail
    exact qCG ⟨k20,by omega,_,t37.1,(w64 (x17+1)),by omega,hE,.of,hS,H⟩
   refine rr hE fun a hE=>(wp_ret (qCD (qCE (qCD (qCD (qCE (qCD ?_)))))))
   replace hS:=hS.tail
   obtain rfl:=si H
   exact rt1 hE ⟨_,rfl,_,rfl,hS⟩
  refine wp_exit ?_
  refine hK14 _ _ (rr hE fun a hE=>(wp_ret ?_))
  obtain rfl:=si H
  exact rt1 hE ⟨_,rfl,_,rfl,hS⟩
 refine pl0 (plc hE (.r 0 4 .nil) (fun a hE=>?_))
 rcases sp H with ⟨c4,H⟩ | ⟨c4,H⟩
 ·
  replace hE:=hE.kt 11 c4
  refine plc hE (.r 4 4 .nil) (fun a hE=>pld ?_)
  exact J9 _ (by omega) _ true _ _ hE .of hS H
 replace hE:=hE.kf 11 c4
 refine plc hE (.r 4 4 .nil) (fun a hE=>pld ?_)
 exact J9 _ (by omega) _ (decide ((x0_.length:Int)>8)) _ _ hE .of hS H
end Go.Proofs.YtpohepinmjmbkaaGreat.QD
