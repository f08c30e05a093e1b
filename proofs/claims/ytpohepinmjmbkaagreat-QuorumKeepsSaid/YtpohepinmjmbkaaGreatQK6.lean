import Derived.Test.YtpohepinmjmbkaaGreatQK5
namespace Go.Proofs.YtpohepinmjmbkaaGreat.QK
open Go Go.RowKit Go.Proofs.YtpohepinmjmbkaaGreat.Sl
set_option linter.unusedVariables false
set_option linter.unusedSimpArgs false
set_option maxHeartbeats 4000000
set_option maxRecDepth 100000
def qAk.j21:Nat→qG→qd→Bool→Option (qG × Int)
 | 0,_,_,_=>none
 | k+1,x,y,y20=>if y20=true then ((qAj.f k x).bind fun t29=>(some (t29,1))) else (if x.f0=2147483647 then ((qAj.f k x).bind fun t53=>(some (t53,6))) else ((qAj.f k x).bind fun t77=>((qBW.f k t77 y).bind fun t95=>(if t95.2=0 then ((qAe.f k x t95.1).bind fun t142=>(some ((⟨(w64 (t95.1.f0+1)),t95.1.f1,t95.1.f2,t95.1.f3,t95.1.f4,t95.1.f5,t142⟩:qG),0))) else ((qAj.f k x).bind fun t120=>(some (t120,t95.2)))))))
theorem qAk.j21_s k x y y20:type_of% (qAk.j21.eq_2 x y y20 k):=qAk.j21.eq_2 x y y20 k
def qAk.f(k:Nat)(x:qG)(y:qd):Option (qG × Int):=(qAD.f k x).bind fun t11=>(if t11=0 then (if y.f0<1 then (qAk.j21 k x y true) else (if y.f0≥11 then (qAk.j21 k x y true) else ((qBq.f y).bind fun t18=>(qAk.j21 k x y (!t18))))) else (some ((⟨0,0,0,0,[],[],[]⟩:qG),1)))
def qAk.Post(W F:World)(r:qG × Int)(v:Value)(w':World):Prop:=∃(F':World)(RA0_4:OA)(rc0_4:Nat)(RA0_5:OA)(rc0_5:Nat)(RA0_6:OA)(rc0_6:Nat),v = .tuple #[.agg #[iv r.1.f0,iv r.1.f1,iv r.1.f2,iv r.1.f3,.slice RA0_4 r.1.f4.length rc0_4,.slice RA0_5 r.1.f5.length rc0_5,.slice RA0_6 r.1.f6.length rc0_6],iv r.2]∧Sm W F w' F' [row qC.k 49 (.slice RA0_6 r.1.f6.length rc0_6) r.1.f6]∧Rd qA.k F' RA0_4 rc0_4 r.1.f4∧Rd qE.k F' RA0_5 rc0_5 r.1.f5
theorem qAk.calls(k:Nat)(x:qG)(y:qd)(A0_4:OA)(c0_4:Nat)(A0_5:OA)(c0_5:Nat)(A0_6:OA)(c0_6:Nat)(A1_6:OA)(c1_6:Nat)(r:qG × Int)(W F:World)(hown:Sub F W)(g0_4:Rd qA.k F A0_4 c0_4 x.f4)(g0_5:Rd qE.k F A0_5 c0_5 x.f5)(g0_6:Rd qC.k F A0_6 c0_6 x.f6)(g1_6:Rd ki F A1_6 c1_6 y.f6)(H:qAk.f k x y=some r):
    Cr 26 #[.agg #[iv x.f0,iv x.f1,iv x.f2,iv x.f3,.slice A0_4 x.f4.length c0_4,.slice A0_5 x.f5.length c0_5,.slice A0_6 x.f6.length c0_6],.agg #[iv y.f0,iv y.f1,iv y.f2,iv y.f3,iv y.f4,iv y.f5,.slice A1_6 y.f6.length c1_6]] W (qAk.Post W F r):=by
 have S:=sT hown
 unfold qAk.f at H
 refine ent 56 rfl rfl rfl (fun a E=>?_)
 refine sq fun K1 hK1=>pl0 (plx (t:=26) E S [iv x.f0,iv x.f1,iv x.f2,iv x.f3,.slice A0_4 x.f4.length c0_4,.slice A0_5 x.f5.length c0_5,.slice A0_6 x.f6.length c0_6] fun b2 u3 hb2 S a E=>plx (t:=40) E S [iv y.f0,iv y.f1,iv y.f2,iv y.f3,iv y.f4,iv y.f5,.slice A1_6 y.f6.length c1_6] fun b4 u5 hb4 S a E=>pla (t:=26) E S [iv 0,iv 0,iv 0,iv 0,.slice none 0 0,.slice none 0 0,.slice none 0 0] fun b6 u7 hb6 S a E=>plc E (.r 3 1 .nil) (fun a E=>pld (hK1 _ _ (sq fun K8 hK8=>wp_block (sq fun K9 hK9=>pl0 ?_)))))
 have hb2:=S.ba 2
 refine plc E (.bn 0 0 7 hb2 .nil) (fun a E=>?_)
 obtain ⟨t11,h12,H⟩:=bd H
 refine plq E S en32 (qAD.calls k x _ _ _ _ _ _ _ _ _ S.own.sub g0_4 g0_5 g0_6 h12) fun u10 S a E=>plc E (.r 2 2 .nil) (fun a E=>pld (hK9 _ _ (E.ikn 8 H (fun c13 E H=>?_) fun c13 E H=>?_)))
 refine sq fun K14 hK14=>?_
 have J24:∀ kq22,kq22≤k→∀(G:NV)(y20:Bool)(a:Act)(w':World),Env 56 G a→At G [(2,.pointer (pb b2)),(3,.pointer (pb b4)),(4,.pointer (pb b6)),(13,.bool y20)]→Sm W F w' F [box b6 #[iv 0,iv 0,iv 0,iv 0,.slice none 0 0,.slice none 0 0,.slice none 0 0] 26,box b4 #[iv y.f0,iv y.f1,iv y.f2,iv y.f3,iv y.f4,iv y.f5,.slice A1_6 y.f6.length c1_6] 40,box b2 #[iv x.f0,iv x.f1,iv x.f2,iv x.f3,.slice A0_4 x.f4.length c0_4,.slice A0_5 x.f5.length c0_5,.slice A0_6 x.f6.length c0_6] 26]→qAk.j21 kq22 x y y20=some r→K14 a w':=by
  intro kq22 hkq G y20 a u25 E A S H
  obtain _ | k23:=kq22
  exact zz H
  rw [qAk.j21_s]at H
  obtain ⟨J,E⟩:=E.at A
  refine hK14 _ _ (E.ib 13 H (fun c26 E H=>?_) fun c26 E H=>?_)
  refine sq fun K27 hK27=>pl0 (plc E (.bn 0 0 7 (S.ba 2) .nil) (fun a E=>?_))
  obtain ⟨t29,h30,H⟩:=bd H
  refine ple E (.cl en77 (qAj.calls k23 x _ _ _ _ _ _ _ _ _ S.own.sub g0_4 g0_5 g0_6 h30)) ?_
  rintro _ u28 a ⟨F31,A32,c33,A36,c37,A40,c41,rfl,hC⟩ E
  have hs:=hC.sub
  replace S:=S.called (X:=[]) hC
  replace g0_4:=g0_4.mono hs
  replace g0_5:=g0_5.mono hs
  replace g0_6:=g0_6.mono hs
  replace g1_6:=g1_6.mono hs
  replace S:=S.front 3 rfl
  refine pls E S [iv t29.f0,iv t29.f1,iv t29.f2,iv t29.f3,.slice A32 t29.f4.length c33,.slice A36 t29.f5.length c37,.slice A40 t29.f6.length c41] fun u44 hb6 S a E=>plc E (.r 3 1 .nil) (fun a E=>pld (hK27 _ _ (wp_ret (qCB (qCA ?_)))))
  replace S:=S.front 1 rfl
  obtain ⟨F45,hs,g46,S⟩:=S.give
  replace g0_4:=g0_4.mono hs
  replace g0_5:=g0_5.mono hs
  replace g0_6:=g0_6.mono hs
  replace g1_6:=g1_6.mono hs
  replace S:=S.front 1 rfl
  obtain ⟨F47,hs,g48,S⟩:=S.give
  replace g0_4:=g0_4.mono hs
  replace g0_5:=g0_5.mono hs
  replace g0_6:=g0_6.mono hs
  replace g46:=g46.mono hs
  replace g1_6:=g1_6.mono hs
  replace S:=S.pm [1] 4
  obtain rfl:=si H
  exact rtm E (.b hb6 ag26 sz26 (.t .nil)) ⟨_,rfl,_,_,_,_,_,_,_,rfl,S,g46,g48⟩
  refine sq fun K49 hK49=>pl0 ?_
  have hb2:=S.ba 2
  refine plc E (.r 0 1<|.b 1 0 hb2<|.r 2 2<|.nil) (fun a E=>pld (hK49 _ _ (E.ik 29 H (fun c50 E H=>?_) fun c50 E H=>?_)))
  refine sq fun K51 hK51=>pl0 (plc E (.bn 0 0 7 hb2 .nil) (fun a E=>?_))
  obtain ⟨t53,h54,H⟩:=bd H
  refine ple E (.cl en77 (qAj.calls k23 x _ _ _ _ _ _ _ _ _ S.own.sub g0_4 g0_5 g0_6 h54)) ?_
  rintro _ u52 a ⟨F55,A56,c57,A60,c61,A64,c65,rfl,hC⟩ E
  have hs:=hC.sub
  replace S:=S.called (X:=[]) hC
  replace g0_4:=g0_4.mono hs
  replace g0_5:=g0_5.mono hs
  replace g0_6:=g0_6.mono hs
  replace g1_6:=g1_6.mono hs
  replace S:=S.front 3 rfl
  refine pls E S [iv t53.f0,iv t53.f1,iv t53.f2,iv t53.f3,.slice A56 t53.f4.length c57,.slice A60 t53.f5.length c61,.slice A64 t53.f6.length c65] fun u68 hb6 S a E=>plc E (.r 3 1 .nil) (fun a E=>pld (hK51 _ _ (wp_ret (qCB (qCA ?_)))))
  replace S:=S.front 1 rfl
  obtain ⟨F69,hs,g70,S⟩:=S.give
  replace g0_4:=g0_4.mono hs
  replace g0_5:=g0_5.mono hs
  replace g0_6:=g0_6.mono hs
  replace g1_6:=g1_6.mono hs
  replace S:=S.front 1 rfl
  obtain ⟨F71,hs,g72,S⟩:=S.give
  replace g0_4:=g0_4.mono hs
  replace g0_5:=g0_5.mono hs
  replace g0_6:=g0_6.mono hs
  replace g70:=g70.mono hs
  replace g1_6:=g1_6.mono hs
  replace S:=S.pm [1] 4
  obtain rfl:=si H
  exact rtm E (.b hb6 ag26 sz26 (.t .nil)) ⟨_,rfl,_,_,_,_,_,_,_,rfl,S,g70,g72⟩
  refine wp_skip ?_
  refine qCC ?_
  refine hK8 _ _ (sq fun K76 hK76=>?_)
  refine drawn 10 ⟨[3,8],[],fun q=>False⟩ mixed rfl (by kernel_rfl) (fun hst=>?_)
  replace S:=S.drew
  have hb2:=S.ba 2
  have hb4:=S.ba 1
  refine mny 8 hst E (.bn 0 0 7 hb2<|.bn 2 0 7 hb4<|.nil) (fun a E=>?_)
  obtain ⟨t77,h78,H⟩:=bd H
  obtain ⟨t95,h96,H⟩:=bd H
  refine meet2 (fun a w'=>∃(G:NV)(b93:Nat)(A99:OA)(c100:Nat)(A102:OA)(c103:Nat)(A105:OA)(c106:Nat)(F112:World),Env 56 G a∧At G [(2,.pointer (pb b2)),(4,.pointer (pb b6)),(6,.pointer (pb b93)),(40,.agg #[iv t95.1.f0,iv t95.1.f1,iv t95.1.f2,iv t95.1.f3,.slice A99 t95.1.f4.length c100,.slice A102 t95.1.f5.length c103,.slice A105 t95.1.f6.length c106]),(41,iv t95.2)]∧Sm W F w' F112 [box b93 #[iv 0,iv 0,iv 0,iv 0,.slice none 0 0,.slice none 0 0,.slice none 0 0] 26,box b6 #[iv 0,iv 0,iv 0,iv 0,.slice none 0 0,.slice none 0 0,.slice none 0 0] 26,box b4 #[iv y.f0,iv y.f1,iv y.f2,iv y.f3,iv y.f4,iv y.f5,.slice A1_6 y.f6.length c1_6] 40,box b2 #[iv x.f0,iv x.f1,iv x.f2,iv x.f3,.slice A0_4 x.f4.length c0_4,.slice A0_5 x.f5.length c0_5,.slice A0_6 x.f6.length c0_6] 26]∧Rd qA.k F112 A99 c100 t95.1.f4∧Rd qE.k F112 A102 c103 t95.1.f5∧Rd qC.k F112 A105 c106 t95.1.f6∧Rd ki F112 A1_6 c1_6 y.f6∧Rd qA.k F112 A0_4 c0_4 x.f4∧Rd qE.k F112 A0_5 c0_5 x.f5∧Rd qC.k F112 A0_6 c0_6 x.f6) 2 255 ?_ (fun hJb=>?_)
  rintro a u113 ⟨G,b93,A99,c100,A102,c103,A105,c106,F112,E,A,S,g101,g104,g107,g1_6,g0_4,g0_5,g0_6⟩
  obtain ⟨J,E⟩:=E.at A
  refine on1 8 E (.sto S [iv t95.1.f0,iv t95.1.f1,iv t95.1.f2,iv t95.1.f3,.slice A99 t95.1.f4.length c100,.slice A102 t95.1.f5.length c103,.slice A105 t95.1.f6.length c106]) ?_
  rintro _ u114 a ⟨rfl,hb93,S,hz⟩ E
  refine ⟨.d,?_⟩
  refine mny 0 hst E (.r 9 1 .nil) (fun a E=>?_)
  refine dn ?_
  refine hK76 _ _ (sq fun K115 hK115=>rr E fun a E=>(E.ikn 43 H (fun c117 E H=>?_) fun c117 E H=>?_))
  refine wp_skip (hK115 _ _ (sq fun K140 hK140=>pl0 (plc E (.bn 0 0 7 (S.ba 3)<|.bn 1 0 7 hb93<|.nil) (fun a E=>?_))))
  obtain ⟨t142,h143,H⟩:=bd H
  refine ple E (.cl en79 (qAe.calls k23 x t95.1 _ _ _ _ _ _ _ _ _ _ _ _ _ _ _ S.own.sub g0_4 g0_5 g0_6 g101 g104 g107 h143)) ?_
  rintro _ u141 a ⟨F144,A145,c146,rfl,hC⟩ E
  have hs:=hC.sub
  replace S:=S.called (X:=[]) hC
  replace g101:=g101.mono hs
  replace g104:=g104.mono hs
  replace g107:=g107.mono hs
  replace g0_4:=g0_4.mono hs
  replace g0_5:=g0_5.mono hs
  replace g0_6:=g0_6.mono hs
  replace g1_6:=g1_6.mono hs
  refine plc E (.r 3 1 .nil) (fun a E=>?_)
  replace S:=S.front 1 rfl
  refine pls E S [iv t95.1.f0,iv t95.1.f1,iv t95.1.f2,iv t95.1.f3,.slice A99 t95.1.f4.length c100,.slice A102 t95.1.f5.length c103,.slice A145 t142.length c146] fun u149 hb93 S a E=>pld (hK140 _ _ (sq fun K150 hK150=>pl0 (plc E (.r 0 1<|.b 1 0 hb93<|.r 2 2<|.nil) (fun a E=>pls E S [iv (w64 (t95.1.f0+1)),iv t95.1.f1,iv t95.1.f2,iv t95.1.f3,.slice A99 t95.1.f4.length c100,.slice A102 t95.1.f5.length c103,.slice A145 t142.length c146] fun u151 hb93 S a E=>pld (hK150 _ _ (sq fun K152 hK152=>pl0 (plc E (.bn 0 0 7 hb93 .nil) (fun a E=>?_))))))))
  replace S:=S.front 2 rfl
  refine pls E S [iv (w64 (t95.1.f0+1)),iv t95.1.f1,iv t95.1.f2,iv t95.1.f3,.slice A99 t95.1.f4.length c100,.slice A102 t95.1.f5.length c103,.slice A145 t142.length c146] fun u153 hb6 S a E=>plc E (.r 2 1 .nil) (fun a E=>pld (hK152 _ _ (wp_ret ?_)))
  replace S:=S.pm [2] 5
  obtain rfl:=si H
  exact rtm E (.b hb6 ag26 sz26 (.t .nil)) ⟨_,rfl,_,_,_,_,_,_,_,rfl,S,g101,g104⟩
  refine sq fun K118 hK118=>pl0 (plc E (.bn 0 0 7 (S.ba 3) .nil) (fun a E=>?_))
  obtain ⟨t120,h121,H⟩:=bd H
  refine ple E (.cl en77 (qAj.calls k23 x _ _ _ _ _ _ _ _ _ S.own.sub g0_4 g0_5 g0_6 h121)) ?_
  rintro _ u119 a ⟨F122,A123,c124,A127,c128,A131,c132,rfl,hC⟩ E
  have hs:=hC.sub
  replace S:=S.called (X:=[]) hC
  replace g101:=g101.mono hs
  replace g104:=g104.mono hs
  replace g107:=g107.mono hs
  replace g0_4:=g0_4.mono hs
  replace g0_5:=g0_5.mono hs
  replace g0_6:=g0_6.mono hs
  replace g1_6:=g1_6.mono hs
  refine plc E (.r 2 1 .nil) (fun a E=>?_)
  replace S:=S.front 4 rfl
  refine pls E S [iv t120.f0,iv t120.f1,iv t120.f2,iv t120.f3,.slice A123 t120.f4.length c124,.slice A127 t120.f5.length c128,.slice A131 t120.f6.length c132] fun u135 hb6 S a E=>plc E (.r 4 1 .nil) (fun a E=>pld (hK118 _ _ (wp_ret (qCA ?_))))
  replace S:=S.front 1 rfl
  obtain ⟨F136,hs,g137,S⟩:=S.give
  replace g101:=g101.mono hs
  replace g104:=g104.mono hs
  replace g107:=g107.mono hs
  replace g0_4:=g0_4.mono hs
  replace g0_5:=g0_5.mono hs
  replace g0_6:=g0_6.mono hs
  replace g1_6:=g1_6.mono hs
  replace S:=S.front 1 rfl
  obtain ⟨F138,hs,g139,S⟩:=S.give
  replace g101:=g101.mono hs
  replace g104:=g104.mono hs
  replace g107:=g107.mono hs
  replace g0_4:=g0_4.mono hs
  replace g0_5:=g0_5.mono hs
  replace g0_6:=g0_6.mono hs
  replace g137:=g137.mono hs
  replace g1_6:=g1_6.mono hs
  replace S:=S.pm [1] 5
  obtain rfl:=si H
  exact rtm E (.b hb6 ag26 sz26 (.t .nil)) ⟨_,rfl,_,_,_,_,_,_,_,rfl,S,g137,g139⟩
  refine meet2 (fun a w'=>∃(G:NV)(b93:Nat)(A81:OA)(c82:Nat)(A85:OA)(c86:Nat)(A89:OA)(c90:Nat)(F109:World),Env 56 G a∧At G [(2,.pointer (pb b2)),(4,.pointer (pb b6)),(6,.pointer (pb b93)),(37,.agg #[iv t77.f0,iv t77.f1,iv t77.f2,iv t77.f3,.slice A81 t77.f4.length c82,.slice A85 t77.f5.length c86,.slice A89 t77.f6.length c90]),(38,.agg #[iv y.f0,iv y.f1,iv y.f2,iv y.f3,iv y.f4,iv y.f5,.slice A1_6 y.f6.length c1_6])]∧Sm W F w' F109 [box b93 #[iv 0,iv 0,iv 0,iv 0,.slice none 0 0,.slice none 0 0,.slice none 0 0] 26,box b6 #[iv 0,iv 0,iv 0,iv 0,.slice none 0 0,.slice none 0 0,.slice none 0 0] 26,box b4 #[iv y.f0,iv y.f1,iv y.f2,iv y.f3,iv y.f4,iv y.f5,.slice A1_6 y.f6.length c1_6] 40,box b2 #[iv x.f0,iv x.f1,iv x.f2,iv x.f3,.slice A0_4 x.f4.length c0_4,.slice A0_5 x.f5.length c0_5,.slice A0_6 x.f6.length c0_6] 26,row qA.k 104 (.slice A81 t77.f4.length c82) t77.f4,row qE.k 97 (.slice A85 t77.f5.length c86) t77.f5,row qC.k 49 (.slice A89 t77.f6.length c90) t77.f6]∧Rd ki F109 A1_6 c1_6 y.f6∧Rd qA.k F109 A0_4 c0_4 x.f4∧Rd qE.k F109 A0_5 c0_5 x.f5∧Rd qC.k F109 A0_6 c0_6 x.f6) 6 135 ?_ (fun hJ=>?_)
  rintro a u110 ⟨G,b93,A81,c82,A85,c86,A89,c90,F109,E,A,S,g1_6,g0_4,g0_5,g0_6⟩
  obtain ⟨J,E⟩:=E.at A
  replace S:=S.pm [4,5,6,0,1,2,3] 7
  refine on1 3 E (.cl en78 (qBW.calls k23 t77 y _ _ _ _ _ _ _ _ _ _ _ (Own.left (X:=[row qA.k 104 (.slice A81 t77.f4.length c82) t77.f4,row qE.k 97 (.slice A85 t77.f5.length c86) t77.f5,row qC.k 49 (.slice A89 t77.f6.length c90) t77.f6]) S.own) g1_6 h96)) ?_
  rintro _ u97 a ⟨F98,A99,c100,A102,c103,A105,c106,rfl,hC,g101,g104,g107⟩ E
  refine ⟨.d,?_⟩
  have hs:=hC.sub
  replace S:=S.called (X:=[row qA.k 104 (.slice A81 t77.f4.length c82) t77.f4,row qE.k 97 (.slice A85 t77.f5.length c86) t77.f5,row qC.k 49 (.slice A89 t77.f6.length c90) t77.f6]) hC
  replace g1_6:=g1_6.mono hs
  replace g0_4:=g0_4.mono hs
  replace g0_5:=g0_5.mono hs
  replace g0_6:=g0_6.mono hs
  refine mny 2 hst E (.r 4 3 .nil) (fun a E=>?_)
  exact hJb _ _ ⟨_,b93,A99,c100,A102,c103,A105,c106,F98,E,.of,S,g101,g104,g107,g1_6,g0_4,g0_5,g0_6⟩
  refine pk2 1 7 ?_ ?_
  refine pk1 1 E (.cl en77 (qAj.calls k23 x _ _ _ _ _ _ _ _ _ S.own.sub g0_4 g0_5 g0_6 h78)) ?_
  rintro _ u79 a ⟨F80,A81,c82,A85,c86,A89,c90,rfl,hC⟩ E
  refine ⟨.of hC.agr,?_⟩
  have hs:=hC.sub
  replace S:=S.called (X:=[]) hC
  replace g0_4:=g0_4.mono hs
  replace g0_5:=g0_5.mono hs
  replace g0_6:=g0_6.mono hs
  replace g1_6:=g1_6.mono hs
  refine pk2 7 3 ?_ ?_
  refine pk1 7 E (.al (t:=26) S [iv 0,iv 0,iv 0,iv 0,.slice none 0 0,.slice none 0 0,.slice none 0 0]) ?_
  rintro _ u94 a ⟨b93,rfl,hb93,S,hg⟩ E
  refine ⟨.of hg,?_⟩
  replace S:=S.pm [0,4,5,6,1,2,3] 7
  exact hJ _ _ ⟨_,b93,A81,c82,A85,c86,A89,c90,F80,E,.of,S,g1_6,g0_4,g0_5,g0_6⟩
  refine pk1 3 E (.cl en78 (qBW.calls k23 t77 y _ _ _ _ _ _ _ _ _ _ _ (Own.left (X:=[row qA.k 104 (.slice A81 t77.f4.length c82) t77.f4,row qE.k 97 (.slice A85 t77.f5.length c86) t77.f5,row qC.k 49 (.slice A89 t77.f6.length c90) t77.f6]) S.own) g1_6 h96)) ?_
  rintro _ u97 a ⟨F98,A99,c100,A102,c103,A105,c106,rfl,hC,g101,g104,g107⟩ E
  refine ⟨.d,?_⟩
  have hs:=hC.sub
  replace S:=S.called (X:=[row qA.k 104 (.slice A81 t77.f4.length c82) t77.f4,row qE.k 97 (.slice A85 t77.f5.length c86) t77.f5,row qC.k 49 (.slice A89 t77.f6.length c90) t77.f6]) hC
  replace g0_4:=g0_4.mono hs
  replace g0_5:=g0_5.mono hs
  replace g0_6:=g0_6.mono hs
  replace g1_6:=g1_6.mono hs
  refine mny 3 hst E (.r 4 3 .nil) (fun a E=>?_)
  refine on1 7 E (.al (t:=26) S [iv 0,iv 0,iv 0,iv 0,.slice none 0 0,.slice none 0 0,.slice none 0 0]) ?_
  rintro _ u94 a ⟨b93,rfl,hb93,S,hg⟩ E
  refine ⟨.of hg,?_⟩
  exact hJb _ _ ⟨_,b93,A99,c100,A102,c103,A105,c106,F98,E,.of,S,g101,g104,g107,g1_6,g0_4,g0_5,g0_6⟩
  refine pk1 7 E (.al (t:=26) S [iv 0,iv 0,iv 0,iv 0,.slice none 0 0,.slice none 0 0,.slice none 0 0]) ?_
  rintro _ u94 a ⟨b93,rfl,hb93,S,hg⟩ E
  refine ⟨.of hg,?_⟩
  refine on1 1 E (.cl en77 (qAj.calls k23 x _ _ _ _ _ _ _ _ _ S.own.sub g0_4 g0_5 g0_6 h78)) ?_
  rintro _ u79 a ⟨F80,A81,c82,A85,c86,A89,c90,rfl,hC⟩ E
  refine ⟨.of hC.agr,?_⟩
  have hs:=hC.sub
  replace S:=S.called (X:=[]) hC
  replace g0_4:=g0_4.mono hs
  replace g0_5:=g0_5.mono hs
  replace g0_6:=g0_6.mono hs
  replace g1_6:=g1_6.mono hs
  replace S:=S.pm [3,4,5,6,0,1,2] 7
  exact hJ _ _ ⟨_,b93,A81,c82,A85,c86,A89,c90,F80,E,.of,S,g1_6,g0_4,g0_5,g0_6⟩
 refine pl0 ?_
 have hb4:=S.ba 1
 refine plc E (.r 0 1<|.b 1 0 hb4<|.r 2 2<|.nil) (fun a E=>E.fk 17 H (fun c15 E H=>?_) fun c15 E H=>?_)
 refine plc E (.r 4 10 .nil) (fun a E=>pld ?_)
 exact J24 _ (by omega) _ true _ _ E .of S H
 refine plc E (.r 4 1<|.b 5 0 hb4<|.r 6 3<|.nil) (fun a E=>E.fk 22 H (fun c16 E H=>?_) fun c16 E H=>?_)
 refine plc E (.r 9 5 .nil) (fun a E=>pld ?_)
 exact J24 _ (by omega) _ true _ _ E .of S H
 refine plc E (.bn 9 0 7 hb4 .nil) (fun a E=>?_)
 obtain ⟨t18,h19,H⟩:=bd H
 refine plq E S en76 (qBq.calls y _ _ _ _ _ S.own.sub g1_6 h19) fun u17 S a E=>plc E (.r 11 3 .nil) (fun a E=>pld ?_)
 exact J24 _ (by omega) _ (!t18) _ _ E .of S H
 refine sq fun K73 hK73=>pl0 (plc E (.r 0 1 .nil) (fun a E=>pls E S [iv 0,iv 0,iv 0,iv 0,.slice none 0 0,.slice none 0 0,.slice none 0 0] fun u74 hb6 S a E=>plc E (.r 2 1 .nil) (fun a E=>pld (hK73 _ _ (wp_ret (qCB (qCA ?_)))))))
 replace S:=S.nilrow qC.k 49
 replace S:=S.pm [0] 4
 obtain rfl:=si H
 exact rtm E (.b hb6 ag26 sz26 (.t .nil)) ⟨_,rfl,_,_,_,_,_,_,_,rfl,S,(Rd.nil _ _),(Rd.nil _ _)⟩
mutual
def qp.l5:Nat→List qd→Int→Option Bool
 | 0,_,_=>none
 | k+1,x,x4=>if x4<(x.length:Int) then (qp.j13 k x x4 (decide (x4<60))) else (qp.j13 k x x4 false)
def qp.j13:Nat→List qd→Int→Bool→Option Bool
 | 0,_,_,_=>none
 | k+1,x,x4,y12=>if y12=true then (if 0≤x4∧x4<(x.length:Int) then (if (((nth qd.z x x4).f6).length:Int)>20 then (some false) else (qp.l5 k x (w64 (x4+1)))) else (none)) else (some (decide ((x.length:Int)≤60)))
end
theorem qp.l5_s k x x4:type_of% (qp.l5.eq_2 x x4 k):=qp.l5.eq_2 x x4 k
theorem qp.j13_s k x x4 y12:type_of% (qp.j13.eq_2 x x4 y12 k):=qp.j13.eq_2 x x4 y12 k
def qp.f(k:Nat)(x:List qd):Option Bool:=qp.l5 k x 0
def qp.Post(W F:World)(r:Bool)(v:Value)(w':World):Prop:=∃(F':World),v = .bool r∧Sm W F w' F' []
theorem qp.calls(k:Nat)(x:List qd)(A0_0:OA)(c0_0:Nat)(r:Bool)(W F:World)(hown:Sub F W)(g0_0:Rd qd.k F A0_0 c0_0 x)(H:qp.f k x=some r):
    Cr 27 #[.slice A0_0 x.length c0_0] W (qp.Post W F r):=by
 have S:=sT hown
 unfold qp.f at H
 refine ent 24 rfl rfl rfl (fun a E=>?_)
 refine rr E fun a E=>(sq fun K2 hK2=>rr E fun a E=>(wp_block ?_))
 refine wp_loop_ghost (fun kq6 a w'=>∃(G:NV)(x4:Int),kq6≤k∧Env 24 G a∧At G [(0,.slice A0_0 x.length c0_0),(3,iv x4)]∧Sm W F w' F []∧qp.l5 kq6 x x4=some r) k ⟨_,0,Nat.le_refl _,E,.of,S,H⟩ ?_
 rintro kq6 a u8 ⟨G,x4,hkq,E,A,S,H⟩
 obtain _ | k7:=kq6
 exact zz H
 rw [qp.l5_s]at H
 obtain ⟨J,E⟩:=E.at A
 refine sq fun K9 hK9=>sq fun K10 hK10=>?_
 have J16:∀ kq14,kq14≤k7→∀(G:NV)(y12:Bool)(a:Act)(w':World),Env 24 G a→At G [(0,.slice A0_0 x.length c0_0),(3,iv x4),(11,.bool y12)]→Sm W F w' F []→qp.j13 kq14 x x4 y12=some r→K10 a w':=by
  intro kq14 hkq G y12 a u17 E A S H
  obtain _ | k15:=kq14
  exact zz H
  rw [qp.j13_s]at H
  obtain ⟨J,E⟩:=E.at A
  refine hK10 _ _ (E.ib 11 H (fun c18 E H=>?_) fun c18 E H=>?_)
  refine wp_skip (hK9 _ _ (sq fun K19 hK19=>wp_block (sq fun K20 hK20=>pl0 ?_)))
  obtain ⟨c21,H⟩:=gd H
  have hE_:=E
  obtain ⟨ad22,rfl⟩:=g0_0.addr c21.1 c21.2
  replace E:=hE_
  obtain ⟨cs24,⟨A26,c27,rfl,g28⟩,hc25⟩:=g0_0.el qd.z x4 c21.1 c21.2
  refine plc E (.r 0 2<|.x 2 c21<|.r 3 1<|.c 4 (S.fc hc25 6)<|.r 5 2<|.nil) (fun a E=>pld (hK20 _ _ (E.ik 20 H (fun c29 E H=>?_) fun c29 E H=>?_)))
  refine rr E fun a E=>(wp_ret (qCB (qCA (qCA (qCB (qCA ?_))))))
  obtain rfl:=si H
  exact rt1 E ⟨_,rfl,_,rfl,S⟩
  refine wp_skip ?_
  refine qCC ?_
  refine hK19 _ _ (pl0 (plc E (.r 0 3 .nil) (fun a E=>pld ?_)))
  exact qCD ⟨k15,by omega,_,(w64 (x4+1)),by omega,E,.of,S,H⟩
  refine wp_exit ?_
  refine hK2 _ _ (rr E fun a E=>(wp_ret ?_))
  obtain rfl:=si H
  exact rt1 E ⟨_,rfl,_,rfl,S⟩
 refine pl0 (plc E (.r 0 5 .nil) (fun a E=>E.fk 8 H (fun c11 E H=>?_) fun c11 E H=>?_))
 refine plc E (.r 5 3 .nil) (fun a E=>pld ?_)
 exact J16 _ (by omega) _ (decide (x4<60)) _ _ E .of S H
 refine plc E (.r 5 3 .nil) (fun a E=>pld ?_)
 exact J16 _ (by omega) _ false _ _ E .of S H
def qBw.f(k:Nat)(x:Int)(y:Int)(z:Int):Option (qG × Int):=if 0≤(if (if 8<z then 8 else z)>0 then (if 8<z then 8 else z) else 0)∧(if (if 8<z then 8 else z)>0 then (if 8<z then 8 else z) else 0) * 32≤140737488355328 then ((qAD.f k (⟨0,x,y,z,[],[],(List.replicate ((if (if 8<z then 8 else z)>0 then (if 8<z then 8 else z) else 0)).toNat (qC.z:qC))⟩:qG)).bind fun t16=>(if t16=0 then (some ((⟨0,x,y,z,[],[],(List.replicate ((if (if 8<z then 8 else z)>0 then (if 8<z then 8 else z) else 0)).toNat (qC.z:qC))⟩:qG),0)) else (some ((⟨0,0,0,0,[],[],[]⟩:qG),t16)))) else (none)
def qBw.Post(W F:World)(r:qG × Int)(v:Value)(w':World):Prop:=∃(F':World)(RA0_4:OA)(rc0_4:Nat)(RA0_5:OA)(rc0_5:Nat)(RA0_6:OA)(rc0_6:Nat),v = .tuple #[.agg #[iv r.1.f0,iv r.1.f1,iv r.1.f2,iv r.1.f3,.slice RA0_4 r.1.f4.length rc0_4,.slice RA0_5 r.1.f5.length rc0_5,.slice RA0_6 r.1.f6.length rc0_6],iv r.2]∧Sm W F w' F' [row qC.k 49 (.slice RA0_6 r.1.f6.length rc0_6) r.1.f6]∧Rd qA.k F' RA0_4 rc0_4 r.1.f4∧Rd qE.k F' RA0_5 rc0_5 r.1.f5
theorem qBw.calls(k:Nat)(x:Int)(y:Int)(z:Int)(r:qG × Int)(W F:World)(hown:Sub F W)(H:qBw.f k x y z=some r):
    Cr 15 #[iv x,iv y,iv z] W (qBw.Post W F r):=by
 have S:=sT hown
 unfold qBw.f at H
 refine ent 25 rfl rfl rfl (fun a E=>?_)
 refine sq fun K1 hK1=>pl0 (pla (t:=26) E S [iv 0,iv 0,iv 0,iv 0,.slice none 0 0,.slice none 0 0,.slice none 0 0] fun b2 u3 hb2 S a E=>plc E (.r 1 1 .nil) (fun a E=>pld (hK1 _ _ (sq fun K4 hK4=>pl0 (plc E (.r 0 6 .nil) (fun a E=>?_))))))
 obtain ⟨c5,H⟩:=gd H
 refine ple E (.mk (d:=qC.k) (e:=49) 32 qC.z S c5 (by rw [zr49]; exact ⟨none,0,rfl,Rd.nil _ _⟩)) ?_
 rintro _ u8 a ⟨A6,c7,rfl,S,hg⟩ E
 refine plc E (.r 7 1 .nil) (fun a E=>pla (t:=26) E S [iv 0,iv 0,iv 0,iv 0,.slice none 0 0,.slice none 0 0,.slice none 0 0] fun b10 u11 hb10 S a E=>pls E S [iv 0,iv x,iv y,iv z,.slice none 0 0,.slice none 0 0,.slice A6 ((List.replicate ((if (if 8<z then 8 else z)>0 then (if 8<z then 8 else z) else 0)).toNat (qC.z:qC)).length) c7] fun u12 hb10 S a E=>pld (hK4 _ _ (sq fun K13 hK13=>sq fun K14 hK14=>pl0 (plc E (.bn 0 0 7 hb10 .nil) (fun a E=>?_)))))
 obtain ⟨t16,h17,H⟩:=bd H
 refine plq E S en32 (qAD.calls k (⟨0,x,y,z,[],[],(List.replicate ((if (if 8<z then 8 else z)>0 then (if 8<z then 8 else z) else 0)).toNat (qC.z:qC))⟩:qG) _ _ _ _ _ _ _ _ _ (Sub.refl _) (Rd.nil _ _) (Rd.nil _ _) (S.rd_at (i:=1) rfl) h17) fun u15 S a E=>plc E (.r 2 1 .nil) (fun a E=>pld (hK14 _ _ (rr E fun a E=>(E.ikn 21 H (fun c19 E H=>?_) fun c19 E H=>?_))))
 refine wp_skip (hK13 _ _ (sq fun K23 hK23=>pl0 (plc E (.bn 0 0 7 (S.ba 0) .nil) (fun a E=>?_))))
 replace S:=S.front 2 rfl
 refine pls E S [iv 0,iv x,iv y,iv z,.slice none 0 0,.slice none 0 0,.slice A6 ((List.replicate ((if (if 8<z then 8 else z)>0 then (if 8<z then 8 else z) else 0)).toNat (qC.z:qC)).length) c7] fun u24 hb2 S a E=>plc E (.r 2 1 .nil) (fun a E=>pld (hK23 _ _ (wp_ret ?_)))
 replace S:=S.pm [] 2
 obtain rfl:=si H
 exact rtm E (.b hb2 ag26 sz26 (.t .nil)) ⟨_,rfl,_,_,_,_,_,_,_,rfl,S,(Rd.nil _ _),(Rd.nil _ _)⟩
 refine sq fun K20 hK20=>pl0 (plc E (.r 0 2 .nil) (fun a E=>?_))
 replace S:=S.front 2 rfl
 refine pls E S [iv 0,iv 0,iv 0,iv 0,.slice none 0 0,.slice none 0 0,.slice none 0 0] fun u21 hb2 S a E=>plc E (.r 3 1 .nil) (fun a E=>pld (hK20 _ _ (wp_ret (qCA ?_))))
 replace S:=S.nilrow qC.k 49
 replace S:=S.pm [0] 4
 obtain rfl:=si H
 exact rtm E (.b hb2 ag26 sz26 (.t .nil)) ⟨_,rfl,_,_,_,_,_,_,_,rfl,S,(Rd.nil _ _),(Rd.nil _ _)⟩
def qBi.f(x:qJ)(xf0_:Int):Option Bool:=some (x.f0 == xf0_)
def qBi.Post(W F:World)(r:Bool)(v:Value)(w':World):Prop:=∃(F':World),v = .bool r∧Sm W F w' F' []
theorem qBi.calls(x:qJ)(xf0_:Int)(pf0_:Nat)(r:Bool)(W F:World)(hown:Sub F W)(hpf0_:F.heap[pf0_]? = some (.cells #[iv xf0_] 3 (0,0)))(H:qBi.f x xf0_=some r):
    Cr 156 #[.agg #[iv x.f0,iv x.f1,iv x.f2,iv x.f3,iv x.f4],.pointer (pb pf0_)] W (qBi.Post W F r):=by
 have S:=sT hown
 unfold qBi.f at H
 refine ent 8 rfl rfl rfl (fun a E=>?_)
 refine sq fun K1 hK1=>pl0 (plx (t:=86) E S [iv x.f0,iv x.f1,iv x.f2,iv x.f3,iv x.f4] fun b2 u3 hb2 S a E=>plc E (.r 1 1 .nil) (fun a E=>pld (hK1 _ _ (rg E (.r 0 1<|.b 1 0 hb2<|.b 2 0 (S.own.sub _ _ _ _ hpf0_)<|.r 3 2<|.nil) fun a E=>(wp_ret ?_)))))
 replace S:=S.tail
 obtain rfl:=si H
 exact rt1 E ⟨_,rfl,_,rfl,S⟩
def qW.l5:Nat→List qJ→Int→Int→Option Int
 | 0,_,_,_=>none
 | k+1,x,x1c0_,x4=>if x4<(x.length:Int) then (if 0≤x4∧x4<(x.length:Int) then ((qBi.f (nth qJ.z x x4) x1c0_).bind fun t21=>(if t21=true then (some x4) else (qW.l5 k x x1c0_ (w64 (x4+1))))) else (none)) else (some (-1))
theorem qW.l5_s k x x1c0_ x4:type_of% (qW.l5.eq_2 x x1c0_ x4 k):=qW.l5.eq_2 x x1c0_ x4 k
def qW.f(k:Nat)(x:List qJ)(x1c0_:Int):Option Int:=qW.l5 k x x1c0_ 0
def qW.Post(W F:World)(r:Int)(v:Value)(w':World):Prop:=∃(F':World),v=iv r∧Sm W F w' F' []
theorem qW.calls(k:Nat)(x:List qJ)(x1c0_:Int)(A0_0:OA)(c0_0:Nat)(p1c0_:Nat)(r:Int)(W F:World)(hown:Sub F W)(g0_0:Rd qJ.k F A0_0 c0_0 x)(hp1c0_:F.heap[p1c0_]? = some (.cells #[iv x1c0_] 3 (0,0)))(H:qW.f k x x1c0_=some r):
    Cr 190 #[.slice A0_0 x.length c0_0,.func (.func 156) #[] #[.pointer (pb p1c0_)]] W (qW.Post W F r):=by
 have S:=sT hown
 unfold qW.f at H
 refine ent 19 rfl rfl rfl (fun a E=>?_)
 refine rr E fun a E=>(sq fun K2 hK2=>rr E fun a E=>(wp_block ?_))
 refine wp_loop_ghost (fun kq6 a w'=>∃(G:NV)(x4:Int),kq6≤k∧Env 19 G a∧At G [(0,.slice A0_0 x.length c0_0),(1,.func (.func 156) #[] #[.pointer (pb p1c0_)]),(7,iv (x.length:Int)),(8,iv x4)]∧Sm W F w' F []∧qW.l5 kq6 x x1c0_ x4=some r) k ⟨_,0,Nat.le_refl _,E,.of,S,H⟩ ?_
 rintro kq6 a u8 ⟨G,x4,hkq,E,A,S,H⟩
 obtain _ | k7:=kq6
 exact zz H
 rw [qW.l5_s]at H
 obtain ⟨J,E⟩:=E.at A
 refine rr E fun a E=>(sq fun K10 hK10=>E.ik 9 H (fun c11 E H=>?_) fun c11 E H=>?_)
 refine wp_skip (hK10 _ _ (sq fun K12 hK12=>wp_block (rr E fun a E=>(sq fun K14 hK14=>pl0 ?_))))
 obtain ⟨c15,H⟩:=gd H
 have hE_:=E
 obtain ⟨ad16,rfl⟩:=g0_0.addr c15.1 c15.2
 replace E:=hE_
 obtain ⟨cs18,rfl,hc19⟩:=g0_0.el qJ.z x4 c15.1 c15.2
 refine plc E (.r 0 3<|.x 3 c15<|.cs 4 (S.fcs hc19)<|.nil) (fun a E=>?_)
 obtain ⟨t21,h22,H⟩:=bd H
 refine plq E S en156 (qBi.calls (nth qJ.z x x4) x1c0_ _ _ _ _ S.own.sub hp1c0_ h22) fun u20 S a E=>pld (hK14 _ _ (E.ib 16 H (fun c23 E H=>?_) fun c23 E H=>?_))
 refine rr E fun a E=>(wp_ret (qCB (qCA (qCA (qCB (qCA ?_))))))
 obtain rfl:=si H
 exact rt1 E ⟨_,rfl,_,rfl,S⟩
 refine wp_skip ?_
 refine qCC ?_
 refine hK12 _ _ (pl0 (plc E (.r 0 2 .nil) (fun a E=>pld ?_)))
 exact qCD ⟨k7,by omega,_,(w64 (x4+1)),by omega,E,.of,S,H⟩
 refine wp_exit ?_
 refine hK2 _ _ (rr E fun a E=>(wp_ret ?_))
 obtain rfl:=si H
 exact rt1 E ⟨_,rfl,_,rfl,S⟩
def qy.f(k:Nat)(x:List qJ)(x1c0_:Int):Option Bool:=(qW.f k x x1c0_).bind fun t4=>(some (decide (t4≥0)))
def qy.Post(W F:World)(r:Bool)(v:Value)(w':World):Prop:=∃(F':World),v = .bool r∧Sm W F w' F' []
theorem qy.calls(k:Nat)(x:List qJ)(x1c0_:Int)(A0_0:OA)(c0_0:Nat)(p1c0_:Nat)(r:Bool)(W F:World)(hown:Sub F W)(g0_0:Rd qJ.k F A0_0 c0_0 x)(hp1c0_:F.heap[p1c0_]? = some (.cells #[iv x1c0_] 3 (0,0)))(H:qy.f k x x1c0_=some r):
    Cr 155 #[.slice A0_0 x.length c0_0,.func (.func 156) #[] #[.pointer (pb p1c0_)]] W (qy.Post W F r):=by
 have S:=sT hown
 unfold qy.f at H
 refine ent 9 rfl rfl rfl (fun a E=>?_)
 refine rr E fun a E=>(sq fun K2 hK2=>pl0 (plc E (.r 0 2 .nil) (fun a E=>?_)))
 obtain ⟨t4,h5,H⟩:=bd H
 refine plq E S en190 (qW.calls k x x1c0_ _ _ _ _ _ _ S.own.sub g0_0 hp1c0_ h5) fun u3 S a E=>plc E (.r 3 2 .nil) (fun a E=>pld (hK2 _ _ (wp_ret ?_)))
 obtain rfl:=si H
 exact rt1 E ⟨_,rfl,_,rfl,S⟩
def qBY.f(k:Nat)(x:List qJ)(y:Int):Option Bool:=(qy.f k x y).bind fun t6=>(some t6)
def qBY.Post(W F:World)(r:Bool)(v:Value)(w':World):Prop:=∃(F':World),v = .bool r∧Sm W F w' F' []
theorem qBY.calls(k:Nat)(x:List qJ)(y:Int)(A0_0:OA)(c0_0:Nat)(r:Bool)(W F:World)(hown:Sub F W)(g0_0:Rd qJ.k F A0_0 c0_0 x)(H:qBY.f k x y=some r):
    Cr 105 #[.slice A0_0 x.length c0_0,iv y] W (qBY.Post W F r):=by
 have S:=sT hown
 unfold qBY.f at H
 refine ent 8 rfl rfl rfl (fun a E=>?_)
 refine sq fun K1 hK1=>pl0 (plx (t:=3) E S [iv y] fun b2 u3 hb2 S a E=>plc E (.r 1 1 .nil) (fun a E=>pld (hK1 _ _ (sq fun K4 hK4=>pl0 (plc E (.r 0 2 .nil) (fun a E=>?_))))))
 obtain ⟨t6,h7,H⟩:=bd H
 refine plq E S en155 (qy.calls k x y _ _ _ _ _ _ (Sub.refl _) (g0_0.mono S.own.sub) (S.ba 0) h7) fun u5 S a E=>plc E (.r 3 1 .nil) (fun a E=>pld (hK4 _ _ (wp_ret ?_)))
 replace S:=S.tail
 obtain rfl:=si H
 exact rt1 E ⟨_,rfl,_,rfl,S⟩
def qBE.f(x:Int)(y:Int)(z:Int):Option Bool:=if x≥y then (some (decide (x≤z))) else (some false)
def qBE.Post(W F:World)(r:Bool)(v:Value)(w':World):Prop:=∃(F':World),v = .bool r∧Sm W F w' F' []
theorem qBE.calls(x:Int)(y:Int)(z:Int)(r:Bool)(W F:World)(hown:Sub F W)(H:qBE.f x y z=some r):
    Cr 116 #[iv x,iv y,iv z] W (qBE.Post W F r):=by
 have S:=sT hown
 unfold qBE.f at H
 refine ent 15 rfl rfl rfl (fun a E=>?_)
 refine rr E fun a E=>(sq fun K2 hK2=>pl0 (plc E (.r 0 4 .nil) (fun a E=>E.fk 10 H (fun c3 E H=>?_) fun c3 E H=>?_)))
 refine plc E (.r 4 5 .nil) (fun a E=>pld (hK2 _ _ (wp_ret ?_)))
 obtain rfl:=si H
 exact rt1 E ⟨_,rfl,_,rfl,S⟩
 refine plc E (.r 4 5 .nil) (fun a E=>pld (hK2 _ _ (wp_ret ?_)))
 obtain rfl:=si H
 exact rt1 E ⟨_,rfl,_,rfl,S⟩
mutual
def qAE.l9:Nat→List qJ→Int→Option Int
 | 0,_,_=>none
 | k+1,x,x8=>if x8<(x.length:Int) then (if 0≤x8∧x8<(x.length:Int) then ((qBE.f ((nth qJ.z x x8).f0) 1 999).bind fun t29=>(if t29=true then (if 0≤x8∧x8≤(x.length:Int) then ((qBY.f k (cutl x 0 x8) ((nth qJ.z x x8).f0)).bind fun t38=>(qAE.j41 k x x8 t38)) else (none)) else (qAE.j41 k x x8 true))) else (none)) else (some 0)
def qAE.j41:Nat→List qJ→Int→Bool→Option Int
 | 0,_,_,_=>none
 | k+1,x,x8,y40=>if y40=true then (some 1) else ((qBE.f ((nth qJ.z x x8).f1) 0 2147483647).bind fun t50=>(if t50=true then ((qBE.f ((nth qJ.z x x8).f2) 0 2147483647).bind fun t54=>(if t54=true then ((qBE.f ((nth qJ.z x x8).f3) 0 2147483647).bind fun t58=>(if t58=true then ((qBE.f ((nth qJ.z x x8).f4) 0 ((nth qJ.z x x8).f3)).bind fun t62=>(qAE.j65 k x x8 (!t62))) else (qAE.j65 k x x8 true))) else (qAE.j65 k x x8 true))) else (qAE.j65 k x x8 true)))
def qAE.j65:Nat→List qJ→Int→Bool→Option Int
 | 0,_,_,_=>none
 | k+1,x,x8,y64=>if y64=true then (some 1) else (qAE.l9 k x (w64 (x8+1)))
end
theorem qAE.l9_s k x x8:type_of% (qAE.l9.eq_2 x x8 k):=qAE.l9.eq_2 x x8 k
theorem qAE.j41_s k x x8 y40:type_of% (qAE.j41.eq_2 x x8 y40 k):=qAE.j41.eq_2 x x8 y40 k
theorem qAE.j65_s k x x8 y64:type_of% (qAE.j65.eq_2 x x8 y64 k):=qAE.j65.eq_2 x x8 y64 k
def qAE.f(k:Nat)(x:List qJ):Option Int:=if (x.length:Int)>12 then (some 1) else (qAE.l9 k x 0)
def qAE.Post(W F:World)(r:Int)(v:Value)(w':World):Prop:=∃(F':World),v=iv r∧Sm W F w' F' []
theorem qAE.calls(k:Nat)(x:List qJ)(A0_0:OA)(c0_0:Nat)(r:Int)(W F:World)(hown:Sub F W)(g0_0:Rd qJ.k F A0_0 c0_0 x)(H:qAE.f k x=some r):
    Cr 58 #[.slice A0_0 x.length c0_0] W (qAE.Post W F r):=by
 have S:=sT hown
 unfold qAE.f at H
 refine ent 52 rfl rfl rfl (fun a E=>?_)
 refine rr E fun a E=>(sq fun K2 hK2=>rr E fun a E=>(E.ik 7 H (fun c4 E H=>?_) fun c4 E H=>?_))
 refine rr E fun a E=>(wp_ret (qCA ?_))
 obtain rfl:=si H
 exact rt1 E ⟨_,rfl,_,rfl,S⟩
 refine wp_skip (hK2 _ _ (sq fun K6 hK6=>rr E fun a E=>(wp_block ?_)))
 refine wp_loop_ghost (fun kq10 a w'=>∃(G:NV)(x8:Int),kq10≤k∧Env 52 G a∧At G [(0,.slice A0_0 x.length c0_0),(8,.slice A0_0 x.length c0_0),(9,iv (x.length:Int)),(10,iv x8)]∧Sm W F w' F []∧qAE.l9 kq10 x x8=some r) k ⟨_,0,Nat.le_refl _,E,.of,S,H⟩ ?_
 rintro kq10 a u12 ⟨G,x8,hkq,E,A,S,H⟩
 obtain _ | k11:=kq10
 exact zz H
 rw [qAE.l9_s]at H
 obtain ⟨J,E⟩:=E.at A
 refine rr E fun a E=>(sq fun K14 hK14=>E.ik 11 H (fun c15 E H=>?_) fun c15 E H=>?_)
 refine wp_skip (hK14 _ _ (sq fun K16 hK16=>wp_block (sq fun K17 hK17=>pl0 ?_)))
 obtain ⟨c18,H⟩:=gd H
 have hE_:=E
 obtain ⟨ad19,rfl⟩:=g0_0.addr c18.1 c18.2
 replace E:=hE_
 obtain ⟨cs21,rfl,hc22⟩:=g0_0.el qJ.z x8 c18.1 c18.2
 refine plc E (.r 0 1<|.x 1 c18<|.cs 2 (S.fcs hc22)<|.nil) (fun a E=>pla (t:=86) E S [iv 0,iv 0,iv 0,iv 0,iv 0] fun b23 u24 hb23 S a E=>plc E (.r 4 1 .nil) (fun a E=>pls E S [iv ((nth qJ.z x x8).f0),iv ((nth qJ.z x x8).f1),iv ((nth qJ.z x x8).f2),iv ((nth qJ.z x x8).f3),iv ((nth qJ.z x x8).f4)] fun u25 hb23 S a E=>pld (hK17 _ _ (sq fun K26 hK26=>sq fun K27 hK27=>?_))))
 have J44:∀ kq42,kq42≤k11→∀(G:NV)(y40:Bool)(a:Act)(w':World),Env 52 G a→At G [(0,.slice (some ad19) x.length c0_0),(4,.pointer (pb b23)),(8,.slice (some ad19) x.length c0_0),(9,iv (x.length:Int)),(10,iv x8),(26,.bool y40)]→Sm W F w' F [box b23 #[iv ((nth qJ.z x x8).f0),iv ((nth qJ.z x x8).f1),iv ((nth qJ.z x x8).f2),iv ((nth qJ.z x x8).f3),iv ((nth qJ.z x x8).f4)] 86]→qAE.j41 kq42 x x8 y40=some r→K27 a w':=by
  intro kq42 hkq G y40 a u45 E A S H
  obtain _ | k43:=kq42
  exact zz H
  rw [qAE.j41_s]at H
  obtain ⟨J,E⟩:=E.at A
  refine hK27 _ _ (E.ib 26 H (fun c46 E H=>?_) fun c46 E H=>?_)
  refine rr E fun a E=>(wp_ret (qCA (qCB (qCA (qCA (qCB (qCA ?_)))))))
  replace S:=S.tail
  obtain rfl:=si H
  exact rt1 E ⟨_,rfl,_,rfl,S⟩
  refine wp_skip (hK26 _ _ (sq fun K48 hK48=>?_))
  have J68:∀ kq66,kq66≤k43→∀(G:NV)(y64:Bool)(a:Act)(w':World),Env 52 G a→At G [(0,.slice (some ad19) x.length c0_0),(8,.slice (some ad19) x.length c0_0),(9,iv (x.length:Int)),(10,iv x8),(50,.bool y64)]→Sm W F w' F [box b23 #[iv ((nth qJ.z x x8).f0),iv ((nth qJ.z x x8).f1),iv ((nth qJ.z x x8).f2),iv ((nth qJ.z x x8).f3),iv ((nth qJ.z x x8).f4)] 86]→qAE.j65 kq66 x x8 y64=some r→K48 a w':=by
   intro kq66 hkq G y64 a u69 E A S H
   obtain _ | k67:=kq66
   exact zz H
   rw [qAE.j65_s]at H
   obtain ⟨J,E⟩:=E.at A
   refine hK48 _ _ (E.ib 50 H (fun c70 E H=>?_) fun c70 E H=>?_)
   refine rr E fun a E=>(wp_ret (qCB (qCA (qCA (qCB (qCA ?_))))))
   replace S:=S.tail
   obtain rfl:=si H
   exact rt1 E ⟨_,rfl,_,rfl,S⟩
   refine wp_skip ?_
   refine qCC ?_
   refine hK16 _ _ (pl0 (plc E (.r 0 2 .nil) (fun a E=>pld ?_)))
   replace S:=S.tail
   exact qCD ⟨k67,by omega,_,(w64 (x8+1)),by omega,E,.of,S,H⟩
  refine pl0 ?_
  have hb23:=S.ba 0
  refine plc E (.r 0 1<|.b 1 1 hb23<|.nil) (fun a E=>?_)
  obtain ⟨t50,h51,H⟩:=bd H
  refine plq E S en116 (qBE.calls ((nth qJ.z x x8).f1) 0 2147483647 _ _ _ S.own.sub h51) fun u49 S a E=>plc E (.r 3 2 .nil) (fun a E=>E.fbn 31 H (fun c52 E H=>?_) fun c52 E H=>?_)
  have hb23:=S.ba 0
  refine plc E (.r 5 1<|.b 6 2 hb23<|.nil) (fun a E=>?_)
  obtain ⟨t54,h55,H⟩:=bd H
  refine plq E S en116 (qBE.calls ((nth qJ.z x x8).f2) 0 2147483647 _ _ _ S.own.sub h55) fun u53 S a E=>plc E (.r 8 3 .nil) (fun a E=>E.fbn 37 H (fun c56 E H=>?_) fun c56 E H=>?_)
  have hb23:=S.ba 0
  refine plc E (.r 11 1<|.b 12 3 hb23<|.nil) (fun a E=>?_)
  obtain ⟨t58,h59,H⟩:=bd H
  refine plq E S en116 (qBE.calls ((nth qJ.z x x8).f3) 0 2147483647 _ _ _ S.own.sub h59) fun u57 S a E=>plc E (.r 14 3 .nil) (fun a E=>E.fbn 43 H (fun c60 E H=>?_) fun c60 E H=>?_)
  have hb23:=S.ba 0
  refine plc E (.r 17 1<|.b 18 4 hb23<|.r 19 1<|.b 20 3 hb23<|.nil) (fun a E=>?_)
  obtain ⟨t62,h63,H⟩:=bd H
  refine plq E S en116 (qBE.calls ((nth qJ.z x x8).f4) 0 ((nth qJ.z x x8).f3) _ _ _ S.own.sub h63) fun u61 S a E=>plc E (.r 22 2 .nil) (fun a E=>pld ?_)
  exact J68 _ (by omega) _ (!t62) _ _ E .of S H
  refine plc E (.r 17 7 .nil) (fun a E=>pld ?_)
  exact J68 _ (by omega) _ true _ _ E .of S H
  refine plc E (.r 11 13 .nil) (fun a E=>pld ?_)
  exact J68 _ (by omega) _ true _ _ E .of S H
  refine plc E (.r 5 19 .nil) (fun a E=>pld ?_)
  exact J68 _ (by omega) _ true _ _ E .of S H
 refine drawn 12 ⟨[],[],fun q=>False⟩ mixed rfl (by kernel_rfl) (fun hst=>?_)
 replace S:=S.drew
 have hb23:=S.ba 0
 refine mny 10 hst E (.r 0 1<|.b 1 0 hb23<|.nil) (fun a E=>?_)
 obtain ⟨t29,h30,H⟩:=bd H
 refine on1 2 E (.cl en116 (qBE.calls ((nth qJ.z x x8).f0) 1 999 _ _ _ S.own.sub h30)) ?_
 rintro _ u28 a ⟨_,rfl,hC⟩ E
 refine ⟨.of hC.agr,?_⟩
 replace S:=S.lent hC
 refine mny 7 hst E (.r 3 2 .nil) (fun a E=>?_)
 refine E.fbn 19 H (fun c31 E H=>?_) fun c31 E H=>?_
 obtain ⟨c32,H⟩:=gd H
 obtain ⟨A33,c34,g35,hv36⟩:=qEg (P:=Tryz.prog) g0_0 ⟨Int.le_refl _,c32.1,c32.2⟩ sz86
 have hb23:=S.ba 0
 refine mny 2 hst E (.r 5 2<|.y 7 (hv36 (by kernel_rfl))<|.r 8 1<|.b 9 0 hb23<|.nil) (fun a E=>?_)
 obtain ⟨t38,h39,H⟩:=bd H
 refine on1 10 E (.cl en105 (qBY.calls k11 (cutl x 0 x8) ((nth qJ.z x x8).f0) _ _ _ _ _ S.own.sub g35 h39)) ?_
 rintro _ u37 a ⟨_,rfl,hC⟩ E
 refine ⟨.of hC.agr,?_⟩
 replace S:=S.lent hC
 refine mny 0 hst E (.r 11 1 .nil) (fun a E=>?_)
 refine dn ?_
 exact J44 _ (by omega) _ t38 _ _ E .of S H
 refine mny 0 hst E (.r 5 7 .nil) (fun a E=>?_)
 refine dn ?_
 exact J44 _ (by omega) _ true _ _ E .of S H
 refine wp_exit ?_
 refine hK6 _ _ (rr E fun a E=>(wp_ret ?_))
 obtain rfl:=si H
 exact rt1 E ⟨_,rfl,_,rfl,S⟩
def qAw.l6:Nat→List Int→Int→Option Int
 | 0,_,_=>none
 | k+1,x,x5=>if x5<(x.length:Int) then (if 0≤x5∧x5<(x.length:Int) then (if (nth 0 x x5)=0 then (qAw.l6 k x (w64 (x5+1))) else (some (nth 0 x x5))) else (none)) else (some 0)
theorem qAw.l6_s k x x5:type_of% (qAw.l6.eq_2 x x5 k):=qAw.l6.eq_2 x x5 k
def qAw.f(k:Nat)(x:List Int):Option Int:=qAw.l6 k x 0
def qAw.Post(W F:World)(r:Int)(v:Value)(w':World):Prop:=∃(F':World),v=iv r∧Sm W F w' F' []
theorem qAw.calls(k:Nat)(x:List Int)(A0_0:OA)(c0_0:Nat)(r:Int)(W F:World)(hown:Sub F W)(g0_0:Rd ki F A0_0 c0_0 x)(H:qAw.f k x=some r):
    Cr 160 #[.slice A0_0 x.length c0_0] W (qAw.Post W F r):=by
 have S:=sT hown
 unfold qAw.f at H
 refine ent 18 rfl rfl rfl (fun a E=>?_)
 refine rr E fun a E=>(rr E fun a E=>(sq fun K3 hK3=>rr E fun a E=>(wp_block ?_)))
 refine wp_loop_ghost (fun kq7 a w'=>∃(G:NV)(x5:Int),kq7≤k∧Env 18 G a∧At G [(3,iv 0),(6,.slice A0_0 x.length c0_0),(7,iv (x.length:Int)),(8,iv x5)]∧Sm W F w' F []∧qAw.l6 kq7 x x5=some r) k ⟨_,0,Nat.le_refl _,E,.of,S,H⟩ ?_
 rintro kq7 a u9 ⟨G,x5,hkq,E,A,S,H⟩
 obtain _ | k8:=kq7
 exact zz H
 rw [qAw.l6_s]at H
 obtain ⟨J,E⟩:=E.at A
 refine rr E fun a E=>(sq fun K11 hK11=>E.ik 9 H (fun c12 E H=>?_) fun c12 E H=>?_)
 refine wp_skip (hK11 _ _ (sq fun K13 hK13=>wp_block (sq fun K14 hK14=>pl0 ?_)))
 obtain ⟨c15,H⟩:=gd H
 have hE_:=E
 obtain ⟨ad16,rfl⟩:=g0_0.addr c15.1 c15.2
 replace E:=hE_
 obtain ⟨cs18,rfl,hc19⟩:=g0_0.el 0 x5 c15.1 c15.2
 refine plc E (.x 0 c15<|.c 1 (S.fc hc19 0)<|.r 2 1<|.nil) (fun a E=>pld (hK14 _ _ (rr E fun a E=>(E.ikn 14 H (fun c21 E H=>?_) fun c21 E H=>?_))))
 refine wp_skip ?_
 refine qCC ?_
 refine hK13 _ _ (pl0 (plc E (.r 0 2 .nil) (fun a E=>pld ?_)))
 exact qCD ⟨k8,by omega,_,(w64 (x5+1)),by omega,E,.of,S,H⟩
 refine rr E fun a E=>(wp_ret (qCB (qCA (qCA (qCB (qCA ?_))))))
 obtain rfl:=si H
 exact rt1 E ⟨_,rfl,_,rfl,S⟩
 refine wp_exit ?_
 refine hK3 _ _ (rr E fun a E=>(wp_ret ?_))
 obtain rfl:=si H
 exact rt1 E ⟨_,rfl,_,rfl,S⟩
def qBI.f(k:Nat)(x:qJ)(y:qJ):Option Int:=(qAR.f y.f1 x.f1).bind fun t8=>((qAR.f y.f2 x.f2).bind fun t11=>((qAR.f y.f3 x.f3).bind fun t14=>((qAR.f x.f0 y.f0).bind fun t17=>((qAw.f k [t8,t11,t14,t17]).bind fun t24=>(some t24)))))
def qBI.Post(W F:World)(r:Int)(v:Value)(w':World):Prop:=∃(F':World),v=iv r∧Sm W F w' F' []
theorem qBI.calls(k:Nat)(x:qJ)(y:qJ)(r:Int)(W F:World)(hown:Sub F W)(H:qBI.f k x y=some r):
    Cr 115 #[.agg #[iv x.f0,iv x.f1,iv x.f2,iv x.f3,iv x.f4],.agg #[iv y.f0,iv y.f1,iv y.f2,iv y.f3,iv y.f4]] W (qBI.Post W F r):=by
 have S:=sT hown
 unfold qBI.f at H
 refine ent 27 rfl rfl rfl (fun a E=>?_)
 refine sq fun K1 hK1=>pl0 (plx (t:=86) E S [iv x.f0,iv x.f1,iv x.f2,iv x.f3,iv x.f4] fun b2 u3 hb2 S a E=>plx (t:=86) E S [iv y.f0,iv y.f1,iv y.f2,iv y.f3,iv y.f4] fun b4 u5 hb4 S a E=>plc E (.r 2 1 .nil) (fun a E=>pld (hK1 _ _ (sq fun K6 hK6=>?_))))
 refine drawn 23 ⟨[],[],fun q=>False⟩ mixed rfl (by kernel_rfl) (fun hst=>?_)
 replace S:=S.drew
 have hb4:=S.ba 0
 have hb2:=S.ba 1
 refine mny 7 hst E (.r 0 1<|.b 1 1 hb4<|.r 2 1<|.b 3 1 hb2<|.r 5 1<|.b 6 2 hb4<|.r 7 1<|.b 8 2 hb2<|.r 10 1<|.b 11 3 hb4<|.r 12 1<|.b 13 3 hb2<|.r 15 1<|.b 16 0 hb2<|.r 17 1<|.b 18 0 hb4<|.nil) (fun a E=>?_)
 obtain ⟨t8,h9,H⟩:=bd H
 refine on1 4 E (.cl en161 (qAR.calls y.f1 x.f1 _ _ _ S.own.sub h9)) ?_
 rintro _ u7 a ⟨_,rfl,hC⟩ E
 refine ⟨.of hC.agr,?_⟩
 replace S:=S.lent hC
 obtain ⟨t11,h12,H⟩:=bd H
 refine on1 9 E (.cl en161 (qAR.calls y.f2 x.f2 _ _ _ S.own.sub h12)) ?_
 rintro _ u10 a ⟨_,rfl,hC⟩ E
 refine ⟨.of hC.agr,?_⟩
 replace S:=S.lent hC
 obtain ⟨t14,h15,H⟩:=bd H
 refine on1 14 E (.cl en161 (qAR.calls y.f3 x.f3 _ _ _ S.own.sub h15)) ?_
 rintro _ u13 a ⟨_,rfl,hC⟩ E
 refine ⟨.of hC.agr,?_⟩
 replace S:=S.lent hC
 obtain ⟨t17,h18,H⟩:=bd H
 refine on1 19 E (.cl en161 (qAR.calls x.f0 y.f0 _ _ _ S.own.sub h18)) ?_
 rintro _ u16 a ⟨_,rfl,hC⟩ E
 refine ⟨.of hC.agr,?_⟩
 replace S:=S.lent hC
 refine on1 20 E (.lit (d:=ki) (e:=3) S [t8,t11,t14,t17] (.cons rfl<|.cons rfl<|.cons rfl<|.cons rfl .nil)) ?_
 rintro _ u19 a ⟨A20,c21,rfl,S,hg⟩ E
 refine ⟨.of hg,?_⟩
 obtain ⟨t24,h25,H⟩:=bd H
 refine on1 21 E (.cl en160 (qAw.calls k [t8,t11,t14,t17] _ _ _ _ _ (Sub.refl _) (S.rd_at (i:=0) rfl) h25)) ?_
 rintro _ u23 a ⟨_,rfl,hC⟩ E
 refine ⟨.of hC.agr,?_⟩
 replace S:=S.lent hC
 refine mny 0 hst E (.r 22 1 .nil) (fun a E=>?_)
 refine dn ?_
 refine hK6 _ _ (wp_ret ?_)
 replace S:=S.pm [] 3
 obtain rfl:=si H
 exact rt1 E ⟨_,rfl,_,rfl,S⟩
def qR.l24:Nat→List qJ→Int→Int→Int→Int→Int→Int→Option qJ
 | 0,_,_,_,_,_,_,_=>none
 | k+1,x,x18,x19,x20,x21,x22,x23=>if x18<(x.length:Int) then (if 0≤x18∧x18<(x.length:Int) then ((qBI.f k (nth qJ.z x x18) (⟨x19,x20,x21,x22,x23⟩:qJ)).bind fun t38=>(if t38<0 then (qR.l24 k x (w64 (x18+1)) ((nth qJ.z x x18).f0) ((nth qJ.z x x18).f1) ((nth qJ.z x x18).f2) ((nth qJ.z x x18).f3) ((nth qJ.z x x18).f4)) else (qR.l24 k x (w64 (x18+1)) x19 x20 x21 x22 x23))) else (none)) else (some (⟨x19,x20,x21,x22,x23⟩:qJ))
theorem qR.l24_s k x x18 x19 x20 x21 x22 x23:type_of% (qR.l24.eq_2 x x18 x19 x20 x21 x22 x23 k):=qR.l24.eq_2 x x18 x19 x20 x21 x22 x23 k
def qR.f(k:Nat)(x:List qJ):Option qJ:=if (x.length:Int)<1 then (none) else (if 0≤(0:Int)∧0<(x.length:Int) then (qR.l24 k x 1 ((nth qJ.z x 0).f0) ((nth qJ.z x 0).f1) ((nth qJ.z x 0).f2) ((nth qJ.z x 0).f3) ((nth qJ.z x 0).f4)) else (none))
def qR.Post(W F:World)(r:qJ)(v:Value)(w':World):Prop:=∃(F':World),v = .agg #[iv r.f0,iv r.f1,iv r.f2,iv r.f3,iv r.f4]∧Sm W F w' F' []
theorem qR.calls(k:Nat)(x:List qJ)(A0_0:OA)(c0_0:Nat)(r:qJ)(W F:World)(hown:Sub F W)(g0_0:Rd qJ.k F A0_0 c0_0 x)(H:qR.f k x=some r):
    Cr 114 #[.slice A0_0 x.length c0_0,.func (.func 115) #[] #[]] W (qR.Post W F r):=by
 have S:=sT hown
 unfold qR.f at H
 refine ent 33 rfl rfl rfl (fun a E=>?_)
 refine sq fun K1 hK1=>pl0 (pla (t:=86) E S [iv 0,iv 0,iv 0,iv 0,iv 0] fun b2 u3 hb2 S a E=>pld (hK1 _ _ (sq fun K4 hK4=>rr E fun a E=>(E.ik 9 H (fun c6 E H=>?_) fun c6 E H=>?_))))
 cases (show none=some r from H)
 refine wp_skip (hK4 _ _ (sq fun K7 hK7=>pl0 ?_))
 obtain ⟨c8,H⟩:=gd H
 have hE_:=E
 obtain ⟨ad9,rfl⟩:=g0_0.addr c8.1 c8.2
 replace E:=hE_
 obtain ⟨cs11,rfl,hc12⟩:=g0_0.el qJ.z 0 c8.1 c8.2
 refine plc E (.r 0 1<|.x 1 c8<|.cs 2 (S.fcs hc12)<|.nil) (fun a E=>pla (t:=86) E S [iv 0,iv 0,iv 0,iv 0,iv 0] fun b13 u14 hb13 S a E=>pls E S [iv ((nth qJ.z x 0).f0),iv ((nth qJ.z x 0).f1),iv ((nth qJ.z x 0).f2),iv ((nth qJ.z x 0).f3),iv ((nth qJ.z x 0).f4)] fun u15 hb13 S a E=>pld (hK7 _ _ (sq fun K16 hK16=>rr E fun a E=>(wp_block ?_))))
 refine wp_loop_ghost (fun kq25 a w'=>∃(G:NV)(x18:Int)(x19:Int)(x20:Int)(x21:Int)(x22:Int)(x23:Int),kq25≤k∧Env 33 G a∧At G [(0,.slice (some ad9) x.length c0_0),(1,.func (.func 115) #[] #[]),(4,.pointer (pb b2)),(5,.pointer (pb b13)),(6,iv x18)]∧Sm W F w' F [box b13 #[iv x19,iv x20,iv x21,iv x22,iv x23] 86,box b2 #[iv 0,iv 0,iv 0,iv 0,iv 0] 86]∧qR.l24 kq25 x x18 x19 x20 x21 x22 x23=some r) k ⟨_,1,(nth qJ.z x 0).f0,(nth qJ.z x 0).f1,(nth qJ.z x 0).f2,(nth qJ.z x 0).f3,(nth qJ.z x 0).f4,Nat.le_refl _,E,.of,S,H⟩ ?_
 rintro kq25 a u27 ⟨G,x18,x19,x20,x21,x22,x23,hkq,E,A,S,H⟩
 obtain _ | k26:=kq25
 exact zz H
 rw [qR.l24_s]at H
 obtain ⟨J,E⟩:=E.at A
 refine sq fun K28 hK28=>rr E fun a E=>(E.ik 17 H (fun c30 E H=>?_) fun c30 E H=>?_)
 refine wp_skip (hK28 _ _ (sq fun K31 hK31=>wp_block (sq fun K32 hK32=>?_)))
 refine drawn 8 ⟨[],[],fun q=>False⟩ mixed rfl (by kernel_rfl) (fun hst=>?_)
 replace S:=S.drew
 obtain ⟨c33,H⟩:=gd H
 obtain ⟨cs35,rfl,hc36⟩:=g0_0.el qJ.z x18 c33.1 c33.2
 have hb13:=S.ba 0
 refine mny 2 hst E (.r 0 3<|.x 3 c33<|.cs 4 (S.fcs hc36)<|.bn 5 0 5 hb13<|.nil) (fun a E=>?_)
 obtain ⟨t38,h39,H⟩:=bd H
 refine on1 6 E (.cl en115 (qBI.calls k26 (nth qJ.z x x18) (⟨x19,x20,x21,x22,x23⟩:qJ) _ _ _ S.own.sub h39)) ?_
 rintro _ u37 a ⟨_,rfl,hC⟩ E
 refine ⟨.of hC.agr,?_⟩
 replace S:=S.lent hC
 refine mny 0 hst E (.r 7 1 .nil) (fun a E=>?_)
 refine dn ?_
 refine hK32 _ _ (E.ik 27 H (fun c40 E H=>?_) fun c40 E H=>?_)
 refine pl0 (plc E (.r 0 2<|.x 2 c33<|.cs 3 (S.fcs hc36)<|.nil) (fun a E=>pls E S [iv ((nth qJ.z x x18).f0),iv ((nth qJ.z x x18).f1),iv ((nth qJ.z x x18).f2),iv ((nth qJ.z x x18).f3),iv ((nth qJ.z x x18).f4)] fun u44 hb13 S a E=>pld ?_))
 refine qCC ?_
 refine hK31 _ _ (pl0 (plc E (.r 0 3 .nil) (fun a E=>pld ?_)))
 exact qCD ⟨k26,by omega,_,(w64 (x18+1)),(nth qJ.z x x18).f0,(nth qJ.z x x18).f1,(nth qJ.z x x18).f2,(nth qJ.z x x18).f3,(nth qJ.z x x18).f4,by omega,E,.of,S,H⟩
 refine wp_skip ?_
 refine qCC ?_
 refine hK31 _ _ (pl0 (plc E (.r 0 3 .nil) (fun a E=>pld ?_)))
 exact qCD ⟨k26,by omega,_,(w64 (x18+1)),x19,x20,x21,x22,x23,by omega,E,.of,S,H⟩
 refine wp_exit ?_
 refine hK16 _ _ (sq fun K45 hK45=>pl0 (plc E (.bn 0 0 5 (S.ba 0) .nil) (fun a E=>?_)))
 replace S:=S.front 1 rfl
 refine pls E S [iv x19,iv x20,iv x21,iv x22,iv x23] fun u46 hb2 S a E=>pld (hK45 _ _ (wp_ret ?_))
 replace S:=S.pm [] 2
 obtain rfl:=si H
 exact ret1 E rfl (.cell (by kernel_rfl) (qEd [iv x19,iv x20,iv x21,iv x22,iv x23] ag86 sz86 hb2 rfl) .nil) ⟨_,rfl,_,rfl,S⟩
def qAn.j11:Nat→List qJ→Bool→Option (qJ × Bool)
 | 0,_,_=>none
 | k+1,x,y10=>if y10=true then (some ((⟨0,0,0,0,0⟩:qJ),false)) else ((qR.f k x).bind fun t21=>(some (t21,true)))
theorem qAn.j11_s k x y10:type_of% (qAn.j11.eq_2 x y10 k):=qAn.j11.eq_2 x y10 k
def qAn.f(k:Nat)(x:List qJ):Option (qJ × Bool):=if (x.length:Int)=0 then (qAn.j11 k x true) else ((qAE.f k x).bind fun t8=>(qAn.j11 k x (!(t8 == 0))))
def qAn.Post(W F:World)(r:qJ × Bool)(v:Value)(w':World):Prop:=∃(F':World),v = .tuple #[.agg #[iv r.1.f0,iv r.1.f1,iv r.1.f2,iv r.1.f3,iv r.1.f4],.bool r.2]∧Sm W F w' F' []
theorem qAn.calls(k:Nat)(x:List qJ)(A0_0:OA)(c0_0:Nat)(r:qJ × Bool)(W F:World)(hown:Sub F W)(g0_0:Rd qJ.k F A0_0 c0_0 x)(H:qAn.f k x=some r):
    Cr 57 #[.slice A0_0 x.length c0_0] W (qAn.Post W F r):=by
 have S:=sT hown
 unfold qAn.f at H
 refine ent 15 rfl rfl rfl (fun a E=>?_)
 refine sq fun K1 hK1=>pl0 (pla (t:=86) E S [iv 0,iv 0,iv 0,iv 0,iv 0] fun b2 u3 hb2 S a E=>plc E (.r 1 1 .nil) (fun a E=>pld (hK1 _ _ (sq fun K4 hK4=>sq fun K5 hK5=>?_))))
 have J14:∀ kq12,kq12≤k→∀(G:NV)(y10:Bool)(a:Act)(w':World),Env 15 G a→At G [(0,.slice A0_0 x.length c0_0),(2,.pointer (pb b2)),(11,.bool y10)]→Sm W F w' F [box b2 #[iv 0,iv 0,iv 0,iv 0,iv 0] 86]→qAn.j11 kq12 x y10=some r→K5 a w':=by
  intro kq12 hkq G y10 a u15 E A S H
  obtain _ | k13:=kq12
  exact zz H
  rw [qAn.j11_s]at H
  obtain ⟨J,E⟩:=E.at A
  refine hK5 _ _ (E.ib 11 H (fun c16 E H=>?_) fun c16 E H=>?_)
  refine sq fun K17 hK17=>pl0 (plc E (.r 0 1 .nil) (fun a E=>pls E S [iv 0,iv 0,iv 0,iv 0,iv 0] fun u18 hb2 S a E=>plc E (.r 2 1 .nil) (fun a E=>pld (hK17 _ _ (wp_ret (qCA ?_))))))
  replace S:=S.tail
  obtain rfl:=si H
  exact rtm E (.b hb2 ag86 sz86 (.t .nil)) ⟨_,rfl,_,rfl,S⟩
  refine wp_skip (hK4 _ _ (sq fun K19 hK19=>pl0 (plc E (.r 0 1 .nil) (fun a E=>?_))))
  obtain ⟨t21,h22,H⟩:=bd H
  refine plq E S en114 (qR.calls k13 x _ _ _ _ _ S.own.sub g0_0 h22) fun u20 S a E=>pls E S [iv t21.f0,iv t21.f1,iv t21.f2,iv t21.f3,iv t21.f4] fun u23 hb2 S a E=>plc E (.r 3 1 .nil) (fun a E=>pld (hK19 _ _ (wp_ret ?_)))
  replace S:=S.tail
  obtain rfl:=si H
  exact rtm E (.b hb2 ag86 sz86 (.t .nil)) ⟨_,rfl,_,rfl,S⟩
 refine pl0 (plc E (.r 0 4 .nil) (fun a E=>E.fk 7 H (fun c6 E H=>?_) fun c6 E H=>?_))
 refine plc E (.r 4 4 .nil) (fun a E=>pld ?_)
 exact J14 _ (by omega) _ true _ _ E .of S H
 refine plc E (.r 4 1 .nil) (fun a E=>?_)
 obtain ⟨t8,h9,H⟩:=bd H
 refine plq E S en58 (qAE.calls k x _ _ _ _ _ S.own.sub g0_0 h9) fun u7 S a E=>plc E (.r 6 2 .nil) (fun a E=>pld ?_)
 exact J14 _ (by omega) _ (!(t8 == 0)) _ _ E .of S H
def qBK.f(k:Nat)(x:qG)(y:Int)(z:List qJ):Option Bool:=(qAD.f k x).bind fun t6=>(if t6=0 then ((qBE.f y 0 (w64 (x.f3 - 1))).bind fun t10=>(if t10=true then ((qAE.f k z).bind fun t14=>(some (t14 == 0))) else (some false))) else (some false))
def qBK.Post(W F:World)(r:Bool)(v:Value)(w':World):Prop:=∃(F':World),v = .bool r∧Sm W F w' F' []
theorem qBK.calls(k:Nat)(x:qG)(y:Int)(z:List qJ)(A0_4:OA)(c0_4:Nat)(A0_5:OA)(c0_5:Nat)(A0_6:OA)(c0_6:Nat)(A2_0:OA)(c2_0:Nat)(r:Bool)(W F:World)(hown:Sub F W)(g0_4:Rd qA.k F A0_4 c0_4 x.f4)(g0_5:Rd qE.k F A0_5 c0_5 x.f5)(g0_6:Rd qC.k F A0_6 c0_6 x.f6)(g2_0:Rd qJ.k F A2_0 c2_0 z)(H:qBK.f k x y z=some r):
    Cr 103 #[.agg #[iv x.f0,iv x.f1,iv x.f2,iv x.f3,.slice A0_4 x.f4.length c0_4,.slice A0_5 x.f5.length c0_5,.slice A0_6 x.f6.length c0_6],iv y,.slice A2_0 z.length c2_0] W (qBK.Post W F r):=by
 have S:=sT hown
 unfold qBK.f at H
 refine ent 22 rfl rfl rfl (fun a E=>?_)
 refine sq fun K1 hK1=>pl0 (plx (t:=26) E S [iv x.f0,iv x.f1,iv x.f2,iv x.f3,.slice A0_4 x.f4.length c0_4,.slice A0_5 x.f5.length c0_5,.slice A0_6 x.f6.length c0_6] fun b2 u3 hb2 S a E=>plc E (.r 1 1 .nil) (fun a E=>pld (hK1 _ _ (sq fun K4 hK4=>pl0 (plc E (.bn 0 0 7 hb2 .nil) (fun a E=>?_))))))
 obtain ⟨t6,h7,H⟩:=bd H
 refine plq E S en32 (qAD.calls k x _ _ _ _ _ _ _ _ _ S.own.sub g0_4 g0_5 g0_6 h7) fun u5 S a E=>plc E (.r 2 2 .nil) (fun a E=>E.fk 10 H (fun c8 E H=>?_) fun c8 E H=>?_)
 refine plc E (.r 4 2<|.b 6 3 (S.ba 0)<|.r 7 1<|.nil) (fun a E=>?_)
 obtain ⟨t10,h11,H⟩:=bd H
 refine plq E S en116 (qBE.calls y 0 (w64 (x.f3 - 1)) _ _ _ S.own.sub h11) fun u9 S a E=>plc E (.r 9 2 .nil) (fun a E=>E.fb 17 H (fun c12 E H=>?_) fun c12 E H=>?_)
 refine plc E (.r 11 1 .nil) (fun a E=>?_)
 obtain ⟨t14,h15,H⟩:=bd H
 refine plq E S en58 (qAE.calls k z _ _ _ _ _ S.own.sub g2_0 h15) fun u13 S a E=>plc E (.r 13 3 .nil) (fun a E=>pld (hK4 _ _ (wp_ret ?_)))
 replace S:=S.tail
 obtain rfl:=si H
 exact rt1 E ⟨_,rfl,_,rfl,S⟩
 refine plc E (.r 11 5 .nil) (fun a E=>pld (hK4 _ _ (wp_ret ?_)))
 replace S:=S.tail
 obtain rfl:=si H
 exact rt1 E ⟨_,rfl,_,rfl,S⟩
 refine plc E (.r 4 12 .nil) (fun a E=>pld (hK4 _ _ (wp_ret ?_)))
 replace S:=S.tail
 obtain rfl:=si H
 exact rt1 E ⟨_,rfl,_,rfl,S⟩
def qAi.l36:Nat→qG→Int→qJ × Bool→List qF→Int→Option (List qF)
 | 0,_,_,_,_,_=>none
 | k+1,x,y,t14,l33,x34=>if x34<(((nth qC.z x.f6 y).f1).length:Int) then (if 0≤x34∧x34<(((nth qC.z x.f6 y).f1).length:Int) then (if (nth qF.z ((nth qC.z x.f6 y).f1) x34).f0≥t14.1.f1 then ((qAN.f ((nth qF.z ((nth qC.z x.f6 y).f1) x34).f1)).bind fun t60=>(if ((l33.length:Int)+((1:Nat):Int)) * 32≤140737488355328 then (qAi.l36 k x y t14 (l33++[(⟨(nth qF.z ((nth qC.z x.f6 y).f1) x34).f0,t60⟩:qF)]) (w64 (x34+1))) else (none))) else (qAi.l36 k x y t14 l33 (w64 (x34+1)))) else (none)) else (some l33)
theorem qAi.l36_s k x y t14 l33 x34:type_of% (qAi.l36.eq_2 x y t14 l33 x34 k):=qAi.l36.eq_2 x y t14 l33 x34 k
def qAi.f(k:Nat)(x:qG)(y:Int)(z:List qJ):Option (List qF):=(qBK.f k x y z).bind fun t7=>(if t7=true then ((qAn.f k z).bind fun t14=>(if 0≤y∧y<(x.f6.length:Int) then (qAi.l36 k x y t14 [] 0) else (none))) else (some []))
def qAi.Post(W F:World)(r:List qF)(v:Value)(w':World):Prop:=∃(F':World)(RA0_0:OA)(rc0_0:Nat),v = .slice RA0_0 r.length rc0_0∧Sm W F w' F' [row qF.k 51 (.slice RA0_0 r.length rc0_0) r]
theorem qAi.calls(k:Nat)(x:qG)(y:Int)(z:List qJ)(A0_4:OA)(c0_4:Nat)(A0_5:OA)(c0_5:Nat)(A0_6:OA)(c0_6:Nat)(A2_0:OA)(c2_0:Nat)(r:List qF)(W F:World)(hown:Sub F W)(g0_4:Rd qA.k F A0_4 c0_4 x.f4)(g0_5:Rd qE.k F A0_5 c0_5 x.f5)(g0_6:Rd qC.k F A0_6 c0_6 x.f6)(g2_0:Rd qJ.k F A2_0 c2_0 z)(H:qAi.f k x y z=some r):
    Cr 51 #[.agg #[iv x.f0,iv x.f1,iv x.f2,iv x.f3,.slice A0_4 x.f4.length c0_4,.slice A0_5 x.f5.length c0_5,.slice A0_6 x.f6.length c0_6],iv y,.slice A2_0 z.length c2_0] W (qAi.Post W F r):=by
 have S:=sT hown
 unfold qAi.f at H
 refine ent 48 rfl rfl rfl (fun a E=>?_)
 refine sq fun K1 hK1=>pl0 (plx (t:=26) E S [iv x.f0,iv x.f1,iv x.f2,iv x.f3,.slice A0_4 x.f4.length c0_4,.slice A0_5 x.f5.length c0_5,.slice A0_6 x.f6.length c0_6] fun b2 u3 hb2 S a E=>plc E (.r 1 1 .nil) (fun a E=>pld (hK1 _ _ (sq fun K4 hK4=>sq fun K5 hK5=>pl0 (plc E (.bn 0 0 7 hb2<|.r 1 2<|.nil) (fun a E=>?_))))))
 obtain ⟨t7,h8,H⟩:=bd H
 refine plq E S en103 (qBK.calls k x y z _ _ _ _ _ _ _ _ _ _ _ S.own.sub g0_4 g0_5 g0_6 g2_0 h8) fun u6 S a E=>plc E (.r 4 1 .nil) (fun a E=>pld (hK5 _ _ (E.ibn 16 H (fun c9 E H=>?_) fun c9 E H=>?_)))
 refine wp_skip (hK4 _ _ (sq fun K12 hK12=>pl0 (plc E (.r 0 1 .nil) (fun a E=>?_))))
 obtain ⟨t14,h15,H⟩:=bd H
 refine plq E S en57 (qAn.calls k z _ _ _ _ _ S.own.sub g2_0 h15) fun u13 S a E=>plc E (.r 2 3 .nil) (fun a E=>pla (t:=86) E S [iv 0,iv 0,iv 0,iv 0,iv 0] fun b16 u17 hb16 S a E=>pls E S [iv t14.1.f0,iv t14.1.f1,iv t14.1.f2,iv t14.1.f3,iv t14.1.f4] fun u18 hb16 S a E=>plc E (.r 7 1 .nil) (fun a E=>pld (hK12 _ _ (rr E fun a E=>(sq fun K20 hK20=>sq fun K21 hK21=>pl0 ?_)))))
 have hb2:=S.ba 1
 obtain ⟨c22,H⟩:=gd H
 have hE_:=E
 obtain ⟨ad23,rfl⟩:=g0_6.addr c22.1 c22.2
 replace E:=hE_
 obtain ⟨cs25,⟨A27,c28,rfl,g29⟩,hc26⟩:=g0_6.el qC.z y c22.1 c22.2
 refine plc E (.r 0 1<|.b 1 6 hb2<|.r 2 1<|.x 3 c22<|.r 4 1<|.c 5 (S.fc hc26 1)<|.r 6 2<|.nil) (fun a E=>pld (hK21 _ _ (wp_block ?_)))
 replace S:=S.nilrow qF.k 51
 replace S:=S.pm [1,2,0] 3
 refine wp_loop_ghost (fun kq37 a w'=>∃(G:NV)(A31:OA)(c32:Nat)(l33:List qF)(x34:Int)(F35:World),kq37≤k∧Env 48 G a∧At G [(7,.pointer (pb b16)),(9,.slice A31 l33.length c32),(27,.slice A27 (((nth qC.z x.f6 y).f1).length) c28),(28,iv (((nth qC.z x.f6 y).f1).length:Int)),(29,iv x34)]∧Sm W F w' F35 [box b16 #[iv t14.1.f0,iv t14.1.f1,iv t14.1.f2,iv t14.1.f3,iv t14.1.f4] 86,box b2 #[iv x.f0,iv x.f1,iv x.f2,iv x.f3,.slice A0_4 x.f4.length c0_4,.slice A0_5 x.f5.length c0_5,.slice (some ad23) x.f6.length c0_6] 26,row qF.k 51 (.slice A31 l33.length c32) l33]∧Rd qF.k F35 A27 c28 ((nth qC.z x.f6 y).f1)∧Rd qA.k F35 A0_4 c0_4 x.f4∧Rd qE.k F35 A0_5 c0_5 x.f5∧Rd qC.k F35 (some ad23) c0_6 x.f6∧qAi.l36 kq37 x y t14 l33 x34=some r) k ⟨_,none,0,[],0,F,Nat.le_refl _,E,.of,S,g29,g0_4,g0_5,g0_6,H⟩ ?_
 rintro kq37 a u39 ⟨G,A31,c32,l33,x34,F35,hkq,E,A,S,g29,g0_4,g0_5,g0_6,H⟩
 obtain _ | k38:=kq37
 exact zz H
 rw [qAi.l36_s]at H
 obtain ⟨J,E⟩:=E.at A
 refine rr E fun a E=>(sq fun K41 hK41=>E.ik 30 H (fun c42 E H=>?_) fun c42 E H=>?_)
 refine wp_skip (hK41 _ _ (sq fun K43 hK43=>wp_block (sq fun K44 hK44=>pl0 ?_)))
 obtain ⟨c45,H⟩:=gd H
 have hE_:=E
 obtain ⟨ad46,rfl⟩:=g29.addr c45.1 c45.2
 replace E:=hE_
 obtain ⟨cs48,⟨A50,c51,rfl,g52⟩,hc49⟩:=g29.el qF.z x34 c45.1 c45.2
 refine plc E (.x 0 c45<|.cs 1 (S.fcs hc49)<|.nil) (fun a E=>pla (t:=51) E S [iv 0,.slice none 0 0] fun b53 u54 hb53 S a E=>pls E S [iv ((nth qF.z ((nth qC.z x.f6 y).f1) x34).f0),.slice A50 (((nth qF.z ((nth qC.z x.f6 y).f1) x34).f1).length) c51] fun u55 hb53 S a E=>pld (hK44 _ _ (rg E (.r 0 1<|.b 1 0 hb53<|.r 2 1<|.b 3 1 (S.ba 1)<|.r 4 1<|.nil) fun a E=>(E.ik 37 H (fun c57 E H=>?_) fun c57 E H=>?_))))
 refine sq fun K58 hK58=>pl0 (plc E (.r 0 1<|.b 1 1 hb53<|.nil) (fun a E=>?_))
 obtain ⟨t60,h61,H⟩:=bd H
 refine ple E (.cl en112 (qAN.calls ((nth qF.z ((nth qC.z x.f6 y).f1) x34).f1) _ _ _ _ _ S.own.sub g52 h61)) ?_
 rintro _ u59 a ⟨F62,A63,c64,rfl,hC⟩ E
 have hs:=hC.sub
 replace S:=S.called (X:=[]) hC
 replace g29:=g29.mono hs
 replace g52:=g52.mono hs
 replace g0_4:=g0_4.mono hs
 replace g0_5:=g0_5.mono hs
 replace g0_6:=g0_6.mono hs
 refine plc E (.r 3 1 .nil) (fun a E=>?_)
 replace S:=S.front 1 rfl
 refine pls E S [iv ((nth qF.z ((nth qC.z x.f6 y).f1) x34).f0),.slice A63 t60.length c64] fun u67 hb53 S a E=>pld (hK58 _ _ (pl0 (plc E (.r 0 1<|.bn 1 0 2 hb53<|.nil) (fun a E=>?_))))
 replace S:=S.front 1 rfl
 obtain ⟨F71,hs,g72,S⟩:=S.give
 replace g29:=g29.mono hs
 replace g52:=g52.mono hs
 replace g0_4:=g0_4.mono hs
 replace g0_5:=g0_5.mono hs
 replace g0_6:=g0_6.mono hs
 refine ple E (.lit (d:=qF.k) (e:=51) S [(⟨(nth qF.z ((nth qC.z x.f6 y).f1) x34).f0,t60⟩:qF)] (.cons ⟨_,_,rfl,g72⟩ .nil)) ?_
 rintro _ u68 a ⟨A69,c70,rfl,S,hg⟩ E
 obtain ⟨c74,H⟩:=gd H
 replace S:=S.front 4 rfl
 refine ple E (.ap (d:=qF.k) 32 S (qCT (S.row_at (i:=1) rfl)) c74 c70) ?_
 rintro _ u77 a ⟨A75,c76,rfl,S,hz⟩ E
 refine plc E (.r 4 1 .nil) (fun a E=>pld ?_)
 refine qCC ?_
 refine hK43 _ _ (pl0 (plc E (.r 0 2 .nil) (fun a E=>pld ?_)))
 replace S:=S.pm [3,4,0] 5
 exact qCD ⟨k38,by omega,_,A75,c76,(l33++[(⟨(nth qF.z ((nth qC.z x.f6 y).f1) x34).f0,t60⟩:qF)]),(w64 (x34+1)),F71,by omega,E,.of,S,g29,g0_4,g0_5,g0_6,H⟩
 refine wp_skip ?_
 refine qCC ?_
 refine hK43 _ _ (pl0 (plc E (.r 0 2 .nil) (fun a E=>pld ?_)))
 replace S:=S.tail
 exact qCD ⟨k38,by omega,_,A31,c32,l33,(w64 (x34+1)),F35,by omega,E,.of,S,g29,g0_4,g0_5,g0_6,H⟩
 refine wp_exit ?_
 refine hK20 _ _ (rr E fun a E=>(wp_ret ?_))
 replace S:=S.pm [] 2
 obtain rfl:=si H
 exact rt1 E ⟨_,rfl,_,_,_,rfl,S⟩
 refine rr E fun a E=>(wp_ret (qCA ?_))
 replace S:=S.nilrow qF.k 51
 replace S:=S.pm [0] 2
 obtain rfl:=si H
 exact rt1 E ⟨_,rfl,_,_,_,rfl,S⟩
def qBj.f(k:Nat)(x:qG)(y:Int):Option Bool:=(qAx.f k x.f4 y).bind fun t6=>(if t6.2=true then (some t6.1.f4) else (some false))
def qBj.Post(W F:World)(r:Bool)(v:Value)(w':World):Prop:=∃(F':World),v = .bool r∧Sm W F w' F' []
theorem qBj.calls(k:Nat)(x:qG)(y:Int)(A0_4:OA)(c0_4:Nat)(A0_5:OA)(c0_5:Nat)(A0_6:OA)(c0_6:Nat)(r:Bool)(W F:World)(hown:Sub F W)(g0_4:Rd qA.k F A0_4 c0_4 x.f4)(g0_5:Rd qE.k F A0_5 c0_5 x.f5)(g0_6:Rd qC.k F A0_6 c0_6 x.f6)(H:qBj.f k x y=some r):
    Cr 109 #[.agg #[iv x.f0,iv x.f1,iv x.f2,iv x.f3,.slice A0_4 x.f4.length c0_4,.slice A0_5 x.f5.length c0_5,.slice A0_6 x.f6.length c0_6],iv y] W (qBj.Post W F r):=by
 have S:=sT hown
 unfold qBj.f at H
 refine ent 19 rfl rfl rfl (fun a E=>?_)
 refine sq fun K1 hK1=>pl0 (plx (t:=26) E S [iv x.f0,iv x.f1,iv x.f2,iv x.f3,.slice A0_4 x.f4.length c0_4,.slice A0_5 x.f5.length c0_5,.slice A0_6 x.f6.length c0_6] fun b2 u3 hb2 S a E=>plc E (.r 1 1 .nil) (fun a E=>pld (hK1 _ _ (sq fun K4 hK4=>pl0 (plc E (.r 0 1<|.b 1 4 hb2<|.r 2 1<|.nil) (fun a E=>?_))))))
 obtain ⟨t6,h7,H⟩:=bd H
 refine plq E S en127 (qAx.calls k x.f4 y _ _ _ _ _ S.own.sub g0_4 h7) fun u5 S a E=>plc E (.r 4 3 .nil) (fun a E=>pla (t:=104) E S [iv 0,iv 0,iv 0,iv 0,.bool false,.bool false] fun b8 u9 hb8 S a E=>pls E S [iv t6.1.f0,iv t6.1.f1,iv t6.1.f2,iv t6.1.f3,.bool t6.1.f4,.bool t6.1.f5] fun u10 hb8 S a E=>plc E (.r 9 1 .nil) (fun a E=>pld (hK4 _ _ (sq fun K11 hK11=>pl0 (plc E (.r 0 2 .nil) (fun a E=>E.fb 15 H (fun c12 E H=>?_) fun c12 E H=>?_))))))
 refine plc E (.r 2 1<|.b 3 4 hb8<|.r 4 2<|.nil) (fun a E=>pld (hK11 _ _ (wp_ret ?_)))
 replace S:=S.pm [] 2
 obtain rfl:=si H
 exact rt1 E ⟨_,rfl,_,rfl,S⟩
 refine plc E (.r 2 4 .nil) (fun a E=>pld (hK11 _ _ (wp_ret ?_)))
 replace S:=S.pm [] 2
 obtain rfl:=si H
 exact rt1 E ⟨_,rfl,_,rfl,S⟩
def qAr.f(k:Nat)(x:Int)(xf0_:List qJ):Option Bool:=(qBY.f k xf0_ x).bind fun t4=>(some t4)
def qAr.Post(W F:World)(r:Bool)(v:Value)(w':World):Prop:=∃(F':World),v = .bool r∧Sm W F w' F' []
theorem qAr.calls(k:Nat)(x:Int)(xf0_:List qJ)(pf0_:Nat)(Af0_0:OA)(cf0_0:Nat)(r:Bool)(W F:World)(hown:Sub F W)(gf0_0:Rd qJ.k F Af0_0 cf0_0 xf0_)(hpf0_:F.heap[pf0_]? = some (.cells #[.slice Af0_0 xf0_.length cf0_0] 72 (0,0)))(H:qAr.f k x xf0_=some r):
    Cr 104 #[iv x,.pointer (pb pf0_)] W (qAr.Post W F r):=by
 have S:=sT hown
 unfold qAr.f at H
 refine ent 7 rfl rfl rfl (fun a E=>?_)
 refine rr E fun a E=>(sq fun K2 hK2=>pl0 (plc E (.b 0 0 (S.own.sub _ _ _ _ hpf0_)<|.r 1 1<|.nil) (fun a E=>?_)))
 obtain ⟨t4,h5,H⟩:=bd H
 refine plq E S en105 (qBY.calls k xf0_ x _ _ _ _ _ S.own.sub gf0_0 h5) fun u3 S a E=>plc E (.r 3 1 .nil) (fun a E=>pld (hK2 _ _ (wp_ret ?_)))
 obtain rfl:=si H
 exact rt1 E ⟨_,rfl,_,rfl,S⟩
def qAs.f(k:Nat)(x:Int)(xf0n0_:List qJ):Option Bool:=(qAr.f k x xf0n0_).bind fun t4=>(some (!t4))
def qAs.Post(W F:World)(r:Bool)(v:Value)(w':World):Prop:=∃(F':World),v = .bool r∧Sm W F w' F' []
theorem qAs.calls(k:Nat)(x:Int)(xf0n0_:List qJ)(pf0_:Nat)(pf0n0_:Nat)(Af0n0_0:OA)(cf0n0_0:Nat)(r:Bool)(W F:World)(hown:Sub F W)(gf0n0_0:Rd qJ.k F Af0n0_0 cf0n0_0 xf0n0_)(hpf0n0_:F.heap[pf0n0_]? = some (.cells #[.slice Af0n0_0 xf0n0_.length cf0n0_0] 72 (0,0)))(hpf0_:F.heap[pf0_]? = some (.cells #[.func (.func 104) #[] #[.pointer (pb pf0n0_)]] 129 (0,0)))(H:qAs.f k x xf0n0_=some r):
    Cr 106 #[iv x,.pointer (pb pf0_)] W (qAs.Post W F r):=by
 have S:=sT hown
 unfold qAs.f at H
 refine ent 8 rfl rfl rfl (fun a E=>?_)
 refine rr E fun a E=>(sq fun K2 hK2=>pl0 (plc E (.b 0 0 (S.own.sub _ _ _ _ hpf0_)<|.r 1 1<|.nil) (fun a E=>?_)))
 obtain ⟨t4,h5,H⟩:=bd H
 refine plq E S en104 (qAr.calls k x xf0n0_ _ _ _ _ _ _ S.own.sub gf0n0_0 hpf0n0_ h5) fun u3 S a E=>plc E (.r 3 2 .nil) (fun a E=>pld (hK2 _ _ (wp_ret ?_)))
 obtain rfl:=si H
 exact rt1 E ⟨_,rfl,_,rfl,S⟩
def qg.l5:Nat→List Int→List qJ→Int→Option Int
 | 0,_,_,_=>none
 | k+1,x,x1c0n0_,x4=>if x4<(x.length:Int) then (if 0≤x4∧x4<(x.length:Int) then ((qAs.f k (nth 0 x x4) x1c0n0_).bind fun t21=>(if t21=true then (some x4) else (qg.l5 k x x1c0n0_ (w64 (x4+1))))) else (none)) else (some (-1))
theorem qg.l5_s k x x1c0n0_ x4:type_of% (qg.l5.eq_2 x x1c0n0_ x4 k):=qg.l5.eq_2 x x1c0n0_ x4 k
def qg.f(k:Nat)(x:List Int)(x1c0n0_:List qJ):Option Int:=qg.l5 k x x1c0n0_ 0
def qg.Post(W F:World)(r:Int)(v:Value)(w':World):Prop:=∃(F':World),v=iv r∧Sm W F w' F' []
theorem qg.calls(k:Nat)(x:List Int)(x1c0n0_:List qJ)(A0_0:OA)(c0_0:Nat)(p1c0_:Nat)(p1c0n0_:Nat)(A1c0n0_0:OA)(c1c0n0_0:Nat)(r:Int)(W F:World)(hown:Sub F W)(g0_0:Rd ki F A0_0 c0_0 x)(g1c0n0_0:Rd qJ.k F A1c0n0_0 c1c0n0_0 x1c0n0_)(hp1c0n0_:F.heap[p1c0n0_]? = some (.cells #[.slice A1c0n0_0 x1c0n0_.length c1c0n0_0] 72 (0,0)))(hp1c0_:F.heap[p1c0_]? = some (.cells #[.func (.func 104) #[] #[.pointer (pb p1c0n0_)]] 129 (0,0)))(H:qg.f k x x1c0n0_=some r):
    Cr 157 #[.slice A0_0 x.length c0_0,.func (.func 106) #[] #[.pointer (pb p1c0_)]] W (qg.Post W F r):=by
 have S:=sT hown
 unfold qg.f at H
 refine ent 19 rfl rfl rfl (fun a E=>?_)
 refine rr E fun a E=>(sq fun K2 hK2=>rr E fun a E=>(wp_block ?_))
 refine wp_loop_ghost (fun kq6 a w'=>∃(G:NV)(x4:Int),kq6≤k∧Env 19 G a∧At G [(0,.slice A0_0 x.length c0_0),(1,.func (.func 106) #[] #[.pointer (pb p1c0_)]),(7,iv (x.length:Int)),(8,iv x4)]∧Sm W F w' F []∧qg.l5 kq6 x x1c0n0_ x4=some r) k ⟨_,0,Nat.le_refl _,E,.of,S,H⟩ ?_
 rintro kq6 a u8 ⟨G,x4,hkq,E,A,S,H⟩
 obtain _ | k7:=kq6
 exact zz H
 rw [qg.l5_s]at H
 obtain ⟨J,E⟩:=E.at A
 refine rr E fun a E=>(sq fun K10 hK10=>E.ik 9 H (fun c11 E H=>?_) fun c11 E H=>?_)
 refine wp_skip (hK10 _ _ (sq fun K12 hK12=>wp_block (rr E fun a E=>(sq fun K14 hK14=>pl0 ?_))))
 obtain ⟨c15,H⟩:=gd H
 have hE_:=E
 obtain ⟨ad16,rfl⟩:=g0_0.addr c15.1 c15.2
 replace E:=hE_
 obtain ⟨cs18,rfl,hc19⟩:=g0_0.el 0 x4 c15.1 c15.2
 refine plc E (.r 0 3<|.x 3 c15<|.c 4 (S.fc hc19 0)<|.nil) (fun a E=>?_)
 obtain ⟨t21,h22,H⟩:=bd H
 refine plq E S en106 (qAs.calls k7 (nth 0 x x4) x1c0n0_ _ _ _ _ _ _ _ S.own.sub g1c0n0_0 hp1c0n0_ hp1c0_ h22) fun u20 S a E=>pld (hK14 _ _ (E.ib 16 H (fun c23 E H=>?_) fun c23 E H=>?_))
 refine rr E fun a E=>(wp_ret (qCB (qCA (qCA (qCB (qCA ?_))))))
 obtain rfl:=si H
 exact rt1 E ⟨_,rfl,_,rfl,S⟩
 refine wp_skip ?_
 refine qCC ?_
 refine hK12 _ _ (pl0 (plc E (.r 0 2 .nil) (fun a E=>pld ?_)))
 exact qCD ⟨k7,by omega,_,(w64 (x4+1)),by omega,E,.of,S,H⟩
 refine wp_exit ?_
 refine hK2 _ _ (rr E fun a E=>(wp_ret ?_))
 obtain rfl:=si H
 exact rt1 E ⟨_,rfl,_,rfl,S⟩
def qAA.f(k:Nat)(x:List Int)(x1c0n0_:List qJ):Option Bool:=(qg.f k x x1c0n0_).bind fun t4=>(some (decide (t4≥0)))
def qAA.Post(W F:World)(r:Bool)(v:Value)(w':World):Prop:=∃(F':World),v = .bool r∧Sm W F w' F' []
theorem qAA.calls(k:Nat)(x:List Int)(x1c0n0_:List qJ)(A0_0:OA)(c0_0:Nat)(p1c0_:Nat)(p1c0n0_:Nat)(A1c0n0_0:OA)(c1c0n0_0:Nat)(r:Bool)(W F:World)(hown:Sub F W)(g0_0:Rd ki F A0_0 c0_0 x)(g1c0n0_0:Rd qJ.k F A1c0n0_0 c1c0n0_0 x1c0n0_)(hp1c0n0_:F.heap[p1c0n0_]? = some (.cells #[.slice A1c0n0_0 x1c0n0_.length c1c0n0_0] 72 (0,0)))(hp1c0_:F.heap[p1c0_]? = some (.cells #[.func (.func 104) #[] #[.pointer (pb p1c0n0_)]] 129 (0,0)))(H:qAA.f k x x1c0n0_=some r):
    Cr 107 #[.slice A0_0 x.length c0_0,.func (.func 106) #[] #[.pointer (pb p1c0_)]] W (qAA.Post W F r):=by
 have S:=sT hown
 unfold qAA.f at H
 refine ent 9 rfl rfl rfl (fun a E=>?_)
 refine rr E fun a E=>(sq fun K2 hK2=>pl0 (plc E (.r 0 2 .nil) (fun a E=>?_)))
 obtain ⟨t4,h5,H⟩:=bd H
 refine plq E S en157 (qg.calls k x x1c0n0_ _ _ _ _ _ _ _ _ _ S.own.sub g0_0 g1c0n0_0 hp1c0n0_ hp1c0_ h5) fun u3 S a E=>plc E (.r 3 2 .nil) (fun a E=>pld (hK2 _ _ (wp_ret ?_)))
 obtain rfl:=si H
 exact rt1 E ⟨_,rfl,_,rfl,S⟩
def qh.l5:Nat→List Int→List qJ→Int→Option Int
 | 0,_,_,_=>none
 | k+1,x,x1c0_,x4=>if x4<(x.length:Int) then (if 0≤x4∧x4<(x.length:Int) then ((qAr.f k (nth 0 x x4) x1c0_).bind fun t21=>(if t21=true then (some x4) else (qh.l5 k x x1c0_ (w64 (x4+1))))) else (none)) else (some (-1))
theorem qh.l5_s k x x1c0_ x4:type_of% (qh.l5.eq_2 x x1c0_ x4 k):=qh.l5.eq_2 x x1c0_ x4 k
def qh.f(k:Nat)(x:List Int)(x1c0_:List qJ):Option Int:=qh.l5 k x x1c0_ 0
def qh.Post(W F:World)(r:Int)(v:Value)(w':World):Prop:=∃(F':World),v=iv r∧Sm W F w' F' []
theorem qh.calls(k:Nat)(x:List Int)(x1c0_:List qJ)(A0_0:OA)(c0_0:Nat)(p1c0_:Nat)(A1c0_0:OA)(c1c0_0:Nat)(r:Int)(W F:World)(hown:Sub F W)(g0_0:Rd ki F A0_0 c0_0 x)(g1c0_0:Rd qJ.k F A1c0_0 c1c0_0 x1c0_)(hp1c0_:F.heap[p1c0_]? = some (.cells #[.slice A1c0_0 x1c0_.length c1c0_0] 72 (0,0)))(H:qh.f k x x1c0_=some r):
    Cr 157 #[.slice A0_0 x.length c0_0,.func (.func 104) #[] #[.pointer (pb p1c0_)]] W (qh.Post W F r):=by
 have S:=sT hown
 unfold qh.f at H
 refine ent 19 rfl rfl rfl (fun a E=>?_)
 refine rr E fun a E=>(sq fun K2 hK2=>rr E fun a E=>(wp_block ?_))
 refine wp_loop_ghost (fun kq6 a w'=>∃(G:NV)(x4:Int),kq6≤k∧Env 19 G a∧At G [(0,.slice A0_0 x.length c0_0),(1,.func (.func 104) #[] #[.pointer (pb p1c0_)]),(7,iv (x.length:Int)),(8,iv x4)]∧Sm W F w' F []∧qh.l5 kq6 x x1c0_ x4=some r) k ⟨_,0,Nat.le_refl _,E,.of,S,H⟩ ?_
 rintro kq6 a u8 ⟨G,x4,hkq,E,A,S,H⟩
 obtain _ | k7:=kq6
 exact zz H
 rw [qh.l5_s]at H
 obtain ⟨J,E⟩:=E.at A
 refine rr E fun a E=>(sq fun K10 hK10=>E.ik 9 H (fun c11 E H=>?_) fun c11 E H=>?_)
 refine wp_skip (hK10 _ _ (sq fun K12 hK12=>wp_block (rr E fun a E=>(sq fun K14 hK14=>pl0 ?_))))
 obtain ⟨c15,H⟩:=gd H
 have hE_:=E
 obtain ⟨ad16,rfl⟩:=g0_0.addr c15.1 c15.2
 replace E:=hE_
 obtain ⟨cs18,rfl,hc19⟩:=g0_0.el 0 x4 c15.1 c15.2
 refine plc E (.r 0 3<|.x 3 c15<|.c 4 (S.fc hc19 0)<|.nil) (fun a E=>?_)
 obtain ⟨t21,h22,H⟩:=bd H
 refine plq E S en104 (qAr.calls k7 (nth 0 x x4) x1c0_ _ _ _ _ _ _ S.own.sub g1c0_0 hp1c0_ h22) fun u20 S a E=>pld (hK14 _ _ (E.ib 16 H (fun c23 E H=>?_) fun c23 E H=>?_))
 refine rr E fun a E=>(wp_ret (qCB (qCA (qCA (qCB (qCA ?_))))))
 obtain rfl:=si H
 exact rt1 E ⟨_,rfl,_,rfl,S⟩
 refine wp_skip ?_
 refine qCC ?_
 refine hK12 _ _ (pl0 (plc E (.r 0 2 .nil) (fun a E=>pld ?_)))
 exact qCD ⟨k7,by omega,_,(w64 (x4+1)),by omega,E,.of,S,H⟩
 refine wp_exit ?_
 refine hK2 _ _ (rr E fun a E=>(wp_ret ?_))
 obtain rfl:=si H
 exact rt1 E ⟨_,rfl,_,rfl,S⟩
def qAB.f(k:Nat)(x:List Int)(x1c0_:List qJ):Option Bool:=(qh.f k x x1c0_).bind fun t4=>(some (decide (t4≥0)))
def qAB.Post(W F:World)(r:Bool)(v:Value)(w':World):Prop:=∃(F':World),v = .bool r∧Sm W F w' F' []
theorem qAB.calls(k:Nat)(x:List Int)(x1c0_:List qJ)(A0_0:OA)(c0_0:Nat)(p1c0_:Nat)(A1c0_0:OA)(c1c0_0:Nat)(r:Bool)(W F:World)(hown:Sub F W)(g0_0:Rd ki F A0_0 c0_0 x)(g1c0_0:Rd qJ.k F A1c0_0 c1c0_0 x1c0_)(hp1c0_:F.heap[p1c0_]? = some (.cells #[.slice A1c0_0 x1c0_.length c1c0_0] 72 (0,0)))(H:qAB.f k x x1c0_=some r):
    Cr 107 #[.slice A0_0 x.length c0_0,.func (.func 104) #[] #[.pointer (pb p1c0_)]] W (qAB.Post W F r):=by
 have S:=sT hown
 unfold qAB.f at H
 refine ent 9 rfl rfl rfl (fun a E=>?_)
 refine rr E fun a E=>(sq fun K2 hK2=>pl0 (plc E (.r 0 2 .nil) (fun a E=>?_)))
 obtain ⟨t4,h5,H⟩:=bd H
 refine plq E S en157 (qh.calls k x x1c0_ _ _ _ _ _ _ _ _ S.own.sub g0_0 g1c0_0 hp1c0_ h5) fun u3 S a E=>plc E (.r 3 2 .nil) (fun a E=>pld (hK2 _ _ (wp_ret ?_)))
 obtain rfl:=si H
 exact rt1 E ⟨_,rfl,_,rfl,S⟩
def qAy.f(k:Nat)(x:Int)(xf0_:qG):Option Bool:=(qBj.f k xf0_ x).bind fun t4=>(some t4)
def qAy.Post(W F:World)(r:Bool)(v:Value)(w':World):Prop:=∃(F':World),v = .bool r∧Sm W F w' F' []
theorem qAy.calls(k:Nat)(x:Int)(xf0_:qG)(pf0_:Nat)(Af0_4:OA)(cf0_4:Nat)(Af0_5:OA)(cf0_5:Nat)(Af0_6:OA)(cf0_6:Nat)(r:Bool)(W F:World)(hown:Sub F W)(gf0_4:Rd qA.k F Af0_4 cf0_4 xf0_.f4)(gf0_5:Rd qE.k F Af0_5 cf0_5 xf0_.f5)(gf0_6:Rd qC.k F Af0_6 cf0_6 xf0_.f6)(hpf0_:F.heap[pf0_]? = some (.cells #[iv xf0_.f0,iv xf0_.f1,iv xf0_.f2,iv xf0_.f3,.slice Af0_4 xf0_.f4.length cf0_4,.slice Af0_5 xf0_.f5.length cf0_5,.slice Af0_6 xf0_.f6.length cf0_6] 26 (0,0)))(H:qAy.f k x xf0_=some r):
    Cr 108 #[iv x,.pointer (pb pf0_)] W (qAy.Post W F r):=by
 have S:=sT hown
 unfold qAy.f at H
 refine ent 7 rfl rfl rfl (fun a E=>?_)
 refine rr E fun a E=>(sq fun K2 hK2=>pl0 (plc E (.bn 0 0 7 (S.own.sub _ _ _ _ hpf0_)<|.r 1 1<|.nil) (fun a E=>?_)))
 obtain ⟨t4,h5,H⟩:=bd H
 refine plq E S en109 (qBj.calls k xf0_ x _ _ _ _ _ _ _ _ _ S.own.sub gf0_4 gf0_5 gf0_6 h5) fun u3 S a E=>plc E (.r 3 1 .nil) (fun a E=>pld (hK2 _ _ (wp_ret ?_)))
 obtain rfl:=si H
 exact rt1 E ⟨_,rfl,_,rfl,S⟩
def qi.l5:Nat→List Int→qG→Int→Option Int
 | 0,_,_,_=>none
 | k+1,x,x1c0_,x4=>if x4<(x.length:Int) then (if 0≤x4∧x4<(x.length:Int) then ((qAy.f k (nth 0 x x4) x1c0_).bind fun t21=>(if t21=true then (some x4) else (qi.l5 k x x1c0_ (w64 (x4+1))))) else (none)) else (some (-1))
theorem qi.l5_s k x x1c0_ x4:type_of% (qi.l5.eq_2 x x1c0_ x4 k):=qi.l5.eq_2 x x1c0_ x4 k
def qi.f(k:Nat)(x:List Int)(x1c0_:qG):Option Int:=qi.l5 k x x1c0_ 0
def qi.Post(W F:World)(r:Int)(v:Value)(w':World):Prop:=∃(F':World),v=iv r∧Sm W F w' F' []
theorem qi.calls(k:Nat)(x:List Int)(x1c0_:qG)(A0_0:OA)(c0_0:Nat)(p1c0_:Nat)(A1c0_4:OA)(c1c0_4:Nat)(A1c0_5:OA)(c1c0_5:Nat)(A1c0_6:OA)(c1c0_6:Nat)(r:Int)(W F:World)(hown:Sub F W)(g0_0:Rd ki F A0_0 c0_0 x)(g1c0_4:Rd qA.k F A1c0_4 c1c0_4 x1c0_.f4)(g1c0_5:Rd qE.k F A1c0_5 c1c0_5 x1c0_.f5)(g1c0_6:Rd qC.k F A1c0_6 c1c0_6 x1c0_.f6)(hp1c0_:F.heap[p1c0_]? = some (.cells #[iv x1c0_.f0,iv x1c0_.f1,iv x1c0_.f2,iv x1c0_.f3,.slice A1c0_4 x1c0_.f4.length c1c0_4,.slice A1c0_5 x1c0_.f5.length c1c0_5,.slice A1c0_6 x1c0_.f6.length c1c0_6] 26 (0,0)))(H:qi.f k x x1c0_=some r):
    Cr 157 #[.slice A0_0 x.length c0_0,.func (.func 108) #[] #[.pointer (pb p1c0_)]] W (qi.Post W F r):=by
 have S:=sT hown
 unfold qi.f at H
 refine ent 19 rfl rfl rfl (fun a E=>?_)
 refine rr E fun a E=>(sq fun K2 hK2=>rr E fun a E=>(wp_block ?_))
 refine wp_loop_ghost (fun kq6 a w'=>∃(G:NV)(x4:Int),kq6≤k∧Env 19 G a∧At G [(0,.slice A0_0 x.length c0_0),(1,.func (.func 108) #[] #[.pointer (pb p1c0_)]),(7,iv (x.length:Int)),(8,iv x4)]∧Sm W F w' F []∧qi.l5 kq6 x x1c0_ x4=some r) k ⟨_,0,Nat.le_refl _,E,.of,S,H⟩ ?_
 rintro kq6 a u8 ⟨G,x4,hkq,E,A,S,H⟩
 obtain _ | k7:=kq6
 exact zz H
 rw [qi.l5_s]at H
 obtain ⟨J,E⟩:=E.at A
 refine rr E fun a E=>(sq fun K10 hK10=>E.ik 9 H (fun c11 E H=>?_) fun c11 E H=>?_)
 refine wp_skip (hK10 _ _ (sq fun K12 hK12=>wp_block (rr E fun a E=>(sq fun K14 hK14=>pl0 ?_))))
 obtain ⟨c15,H⟩:=gd H
 have hE_:=E
 obtain ⟨ad16,rfl⟩:=g0_0.addr c15.1 c15.2
 replace E:=hE_
 obtain ⟨cs18,rfl,hc19⟩:=g0_0.el 0 x4 c15.1 c15.2
 refine plc E (.r 0 3<|.x 3 c15<|.c 4 (S.fc hc19 0)<|.nil) (fun a E=>?_)
 obtain ⟨t21,h22,H⟩:=bd H
 refine plq E S en108 (qAy.calls k7 (nth 0 x x4) x1c0_ _ _ _ _ _ _ _ _ _ _ S.own.sub g1c0_4 g1c0_5 g1c0_6 hp1c0_ h22) fun u20 S a E=>pld (hK14 _ _ (E.ib 16 H (fun c23 E H=>?_) fun c23 E H=>?_))
 refine rr E fun a E=>(wp_ret (qCB (qCA (qCA (qCB (qCA ?_))))))
 obtain rfl:=si H
 exact rt1 E ⟨_,rfl,_,rfl,S⟩
 refine wp_skip ?_
 refine qCC ?_
 refine hK12 _ _ (pl0 (plc E (.r 0 2 .nil) (fun a E=>pld ?_)))
 exact qCD ⟨k7,by omega,_,(w64 (x4+1)),by omega,E,.of,S,H⟩
 refine wp_exit ?_
 refine hK2 _ _ (rr E fun a E=>(wp_ret ?_))
 obtain rfl:=si H
 exact rt1 E ⟨_,rfl,_,rfl,S⟩
def qAC.f(k:Nat)(x:List Int)(x1c0_:qG):Option Bool:=(qi.f k x x1c0_).bind fun t4=>(some (decide (t4≥0)))
def qAC.Post(W F:World)(r:Bool)(v:Value)(w':World):Prop:=∃(F':World),v = .bool r∧Sm W F w' F' []
theorem qAC.calls(k:Nat)(x:List Int)(x1c0_:qG)(A0_0:OA)(c0_0:Nat)(p1c0_:Nat)(A1c0_4:OA)(c1c0_4:Nat)(A1c0_5:OA)(c1c0_5:Nat)(A1c0_6:OA)(c1c0_6:Nat)(r:Bool)(W F:World)(hown:Sub F W)(g0_0:Rd ki F A0_0 c0_0 x)(g1c0_4:Rd qA.k F A1c0_4 c1c0_4 x1c0_.f4)(g1c0_5:Rd qE.k F A1c0_5 c1c0_5 x1c0_.f5)(g1c0_6:Rd qC.k F A1c0_6 c1c0_6 x1c0_.f6)(hp1c0_:F.heap[p1c0_]? = some (.cells #[iv x1c0_.f0,iv x1c0_.f1,iv x1c0_.f2,iv x1c0_.f3,.slice A1c0_4 x1c0_.f4.length c1c0_4,.slice A1c0_5 x1c0_.f5.length c1c0_5,.slice A1c0_6 x1c0_.f6.length c1c0_6] 26 (0,0)))(H:qAC.f k x x1c0_=some r):
    Cr 107 #[.slice A0_0 x.length c0_0,.func (.func 108) #[] #[.pointer (pb p1c0_)]] W (qAC.Post W F r):=by
 have S:=sT hown
 unfold qAC.f at H
 refine ent 9 rfl rfl rfl (fun a E=>?_)
 refine rr E fun a E=>(sq fun K2 hK2=>pl0 (plc E (.r 0 2 .nil) (fun a E=>?_)))
 obtain ⟨t4,h5,H⟩:=bd H
 refine plq E S en157 (qi.calls k x x1c0_ _ _ _ _ _ _ _ _ _ _ _ _ S.own.sub g0_0 g1c0_4 g1c0_5 g1c0_6 hp1c0_ h5) fun u3 S a E=>plc E (.r 3 2 .nil) (fun a E=>pld (hK2 _ _ (wp_ret ?_)))
 obtain rfl:=si H
 exact rt1 E ⟨_,rfl,_,rfl,S⟩
def qAm.f(x0_:List Int):Option (List Int):=compactI x0_
def qAm.Post(x0_:List Int)(A0_0:Option Addr)(c0_0:Nat)(W F:World)(r:List Int)(v:Value)(w':World):Prop:=∃(F':World)(RA0_0:Option Addr)(rc0_0:Nat),v = .slice RA0_0 r.length rc0_0∧St W (mine W [row ki 3 (.slice A0_0 x0_.length c0_0) x0_]) F w' F' [row ki 3 (.slice RA0_0 r.length rc0_0) r]
theorem qAm.calls(x0_:List Int)(A0_0:Option Addr)(c0_0:Nat)(r:List Int)(W F:World)(hown:Own W F [row ki 3 (.slice A0_0 x0_.length c0_0) x0_])(H:qAm.f x0_=some r):
  Calls Tryz.prog 111 #[.slice A0_0 x0_.length c0_0] W fun e w'=>∃ v,e = .returned v∧qAm.Post x0_ A0_0 c0_0 W F r v w':=qDb Tryz.compactI hown H
mutual
def qm.j45:Nat→qG→Int→List qJ→List Int→Bool→Option (qAp × Int)
 | 0,_,_,_,_,_=>none
 | k+1,x,y,z,t20,y44=>(qAi.f k x y z).bind fun t54=>(qm.l71 k x z t54 t20 0 y44 [])
def qm.l71:Nat→qG→List qJ→List qF→List Int→Int→Bool→List Int→Option (qAp × Int)
 | 0,_,_,_,_,_,_,_=>none
 | k+1,x,z,t54,l65,x66,y67,l70=>if x66<(t54.length:Int) then (if 0≤x66∧x66<(t54.length:Int) then (if ((l65.length:Int)+(((nth qF.z t54 x66).f1).length:Int)) * 8≤140737488355328 then ((qAB.f k ((nth qF.z t54 x66).f1) z).bind fun t100=>(if t100=true then (qm.l71 k x z t54 (l65++(nth qF.z t54 x66).f1) (w64 (x66+1)) y67 l70) else ((qAC.f k ((nth qF.z t54 x66).f1) x).bind fun t107=>(if t107=true then (qm.l71 k x z t54 (l65++(nth qF.z t54 x66).f1) (w64 (x66+1)) false l70) else (if ((l70.length:Int)+((1:Nat):Int)) * 8≤140737488355328 then (qm.l71 k x z t54 (l65++(nth qF.z t54 x66).f1) (w64 (x66+1)) false (l70++[(nth qF.z t54 x66).f0])) else (none)))))) else (none)) else (none)) else ((qAh.f l65).bind fun t122=>((qAm.f t122).bind fun t129=>(qm.l141 k x z y67 l70 t129 0 [])))
def qm.l141:Nat→qG→List qJ→Bool→List Int→List Int→Int→List Int→Option (qAp × Int)
 | 0,_,_,_,_,_,_,_=>none
 | k+1,x,z,y67,l70,t129,x137,l140=>if x137<(t129.length:Int) then (if 0≤x137∧x137<(t129.length:Int) then ((qAs.f k (nth 0 t129 x137) z).bind fun t158=>(if t158=true then ((qBj.f k x (nth 0 t129 x137)).bind fun t162=>(qm.j165 k x z y67 l70 t129 x137 l140 t162)) else (qm.j165 k x z y67 l70 t129 x137 l140 false))) else (none)) else (if y67=true then ((qAn.f k z).bind fun t186=>(qm.j193 k y67 l70 l140 t186.1.f0)) else (qm.j193 k y67 l70 l140 0))
def qm.j165:Nat→qG→List qJ→Bool→List Int→List Int→Int→List Int→Bool→Option (qAp × Int)
 | 0,_,_,_,_,_,_,_,_=>none
 | k+1,x,z,y67,l70,t129,x137,l140,y164=>if y164=true then (if ((l140.length:Int)+((1:Nat):Int)) * 8≤140737488355328 then (qm.l141 k x z y67 l70 t129 (w64 (x137+1)) (l140++[(nth 0 t129 x137)])) else (none)) else (qm.l141 k x z y67 l70 t129 (w64 (x137+1)) l140)
def qm.j193:Nat→Bool→List Int→List Int→Int→Option (qAp × Int)
 | 0,_,_,_,_=>none
 | k+1,y67,l70,l140,x192=>some ((⟨y67,x192,l140,l70⟩:qAp),0)
end
theorem qm.j45_s k x y z t20 y44:type_of% (qm.j45.eq_2 x y z t20 y44 k):=qm.j45.eq_2 x y z t20 y44 k
theorem qm.l71_s k x z t54 l65 x66 y67 l70:type_of% (qm.l71.eq_2 x z t54 l65 x66 y67 l70 k):=qm.l71.eq_2 x z t54 l65 x66 y67 l70 k
theorem qm.l141_s k x z y67 l70 t129 x137 l140:type_of% (qm.l141.eq_2 x z y67 l70 t129 x137 l140 k):=qm.l141.eq_2 x z y67 l70 t129 x137 l140 k
theorem qm.j165_s k x z y67 l70 t129 x137 l140 y164:type_of% (qm.j165.eq_2 x z y67 l70 t129 x137 l140 y164 k):=qm.j165.eq_2 x z y67 l70 t129 x137 l140 y164 k
theorem qm.j193_s k y67 l70 l140 x192:type_of% (qm.j193.eq_2 y67 l70 l140 x192 k):=qm.j193.eq_2 y67 l70 l140 x192 k
def qm.f(k:Nat)(x:qG)(y:Int)(z:List qJ):Option (qAp × Int):=(qBK.f k x y z).bind fun t11=>(if t11=true then ((qBD.f k x y).bind fun t20=>(if (t20.length:Int)≥x.f2 then ((qAA.f k t20 z).bind fun t35=>(qm.j45 k x y z t20 (!t35))) else (qm.j45 k x y z t20 false))) else (some ((⟨false,0,[],[]⟩:qAp),1)))
def qm.Post(W F:World)(r:qAp × Int)(v:Value)(w':World):Prop:=∃(F':World)(RA0_2:OA)(rc0_2:Nat)(RA0_3:OA)(rc0_3:Nat),v = .tuple #[.agg #[.bool r.1.f0,iv r.1.f1,.slice RA0_2 r.1.f2.length rc0_2,.slice RA0_3 r.1.f3.length rc0_3],iv r.2]∧Sm W F w' F' [row ki 3 (.slice RA0_2 r.1.f2.length rc0_2) r.1.f2,row ki 3 (.slice RA0_3 r.1.f3.length rc0_3) r.1.f3]
theorem qm.calls(k:Nat)(x:qG)(y:Int)(z:List qJ)(A0_4:OA)(c0_4:Nat)(A0_5:OA)(c0_5:Nat)(A0_6:OA)(c0_6:Nat)(A2_0:OA)(c2_0:Nat)(r:qAp × Int)(W F:World)(hown:Sub F W)(g0_4:Rd qA.k F A0_4 c0_4 x.f4)(g0_5:Rd qE.k F A0_5 c0_5 x.f5)(g0_6:Rd qC.k F A0_6 c0_6 x.f6)(g2_0:Rd qJ.k F A2_0 c2_0 z)(H:qm.f k x y z=some r):
    Cr 50 #[.agg #[iv x.f0,iv x.f1,iv x.f2,iv x.f3,.slice A0_4 x.f4.length c0_4,.slice A0_5 x.f5.length c0_5,.slice A0_6 x.f6.length c0_6],iv y,.slice A2_0 z.length c2_0] W (qm.Post W F r):=by
 have S:=sT hown
 unfold qm.f at H
 refine ent 109 rfl rfl rfl (fun a E=>?_)
 refine sq fun K1 hK1=>pl0 (plx (t:=26) E S [iv x.f0,iv x.f1,iv x.f2,iv x.f3,.slice A0_4 x.f4.length c0_4,.slice A0_5 x.f5.length c0_5,.slice A0_6 x.f6.length c0_6] fun b2 u3 hb2 S a E=>plx (t:=72) E S [.slice A2_0 z.length c2_0] fun b4 u5 hb4 S a E=>pla (t:=74) E S [.bool false,iv 0,.slice none 0 0,.slice none 0 0] fun b6 u7 hb6 S a E=>plc E (.r 3 1 .nil) (fun a E=>pld (hK1 _ _ (sq fun K8 hK8=>sq fun K9 hK9=>pl0 ?_))))
 have hb2:=S.ba 2
 have hb4:=S.ba 1
 refine plc E (.bn 0 0 7 hb2<|.r 1 1<|.b 2 0 hb4<|.nil) (fun a E=>?_)
 obtain ⟨t11,h12,H⟩:=bd H
 refine plq E S en103 (qBK.calls k x y z _ _ _ _ _ _ _ _ _ _ _ S.own.sub g0_4 g0_5 g0_6 g2_0 h12) fun u10 S a E=>plc E (.r 4 1 .nil) (fun a E=>pld (hK9 _ _ (E.ibn 23 H (fun c13 E H=>?_) fun c13 E H=>?_)))
 refine wp_skip (hK8 _ _ (sq fun K18 hK18=>pl0 ?_))
 have hb2:=S.ba 2
 refine plc E (.bn 0 0 7 hb2<|.r 1 1<|.nil) (fun a E=>?_)
 obtain ⟨t20,h21,H⟩:=bd H
 refine ple E (.cl en24 (qBD.calls k x y _ _ _ _ _ _ _ _ _ S.own.sub g0_4 g0_5 g0_6 h21)) ?_
 rintro _ u19 a ⟨F22,A23,c24,rfl,hC⟩ E
 have hs:=hC.sub
 replace S:=S.called (X:=[]) hC
 replace g0_4:=g0_4.mono hs
 replace g0_5:=g0_5.mono hs
 replace g0_6:=g0_6.mono hs
 replace g2_0:=g2_0.mono hs
 refine plc E (.r 3 1 .nil) (fun a E=>pld (hK18 _ _ (sq fun K27 hK27=>pl0 (plc E (.r 0 1 .nil) (fun a E=>pla (t:=129) E S [.nilFunc] fun b28 u29 hb28 S a E=>pls E S [.func (.func 104) #[] #[.pointer (pb b4)]] fun u30 hb28 S a E=>pld (hK27 _ _ (rr E fun a E=>(sq fun K32 hK32=>?_))))))))
 have J48:∀ kq46,kq46≤k→∀(G:NV)(b43:Nat)(y44:Bool)(a:Act)(w':World),Env 109 G a→At G [(1,iv y),(3,.pointer (pb b2)),(5,.pointer (pb b4)),(6,.pointer (pb b6)),(8,.slice A23 t20.length c24),(9,.pointer (pb b28)),(10,.func (.func 106) #[] #[.pointer (pb b28)]),(11,.pointer (pb b43))]→Sm W F w' F22 [box b28 #[.func (.func 104) #[] #[.pointer (pb b4)]] 129,box b6 #[.bool false,iv 0,.slice none 0 0,.slice none 0 0] 74,box b4 #[.slice A2_0 z.length c2_0] 72,box b2 #[iv x.f0,iv x.f1,iv x.f2,iv x.f3,.slice A0_4 x.f4.length c0_4,.slice A0_5 x.f5.length c0_5,.slice A0_6 x.f6.length c0_6] 26,box b43 #[.bool y44,iv 0,.slice none 0 0,.slice none 0 0] 74,row ki 3 (.slice A23 t20.length c24) t20]→qm.j45 kq46 x y z t20 y44=some r→K32 a w':=by
  intro kq46 hkq G b43 y44 a u49 E A S H
  obtain _ | k47:=kq46
  exact zz H
  rw [qm.j45_s]at H
  obtain ⟨J,E⟩:=E.at A
  refine hK32 _ _ (rr E fun a E=>(sq fun K51 hK51=>sq fun K52 hK52=>pl0 ?_))
  have hb2:=S.ba 3
  have hb4:=S.ba 2
  refine plc E (.bn 0 0 7 hb2<|.r 1 1<|.b 2 0 hb4<|.nil) (fun a E=>?_)
  obtain ⟨t54,h55,H⟩:=bd H
  refine ple E (.cl en51 (qAi.calls k47 x y z _ _ _ _ _ _ _ _ _ _ _ S.own.sub g0_4 g0_5 g0_6 g2_0 h55)) ?_
  rintro _ u53 a ⟨F56,A57,c58,rfl,hC⟩ E
  have hs:=hC.sub
  replace S:=S.called (X:=[]) hC
  replace g0_4:=g0_4.mono hs
  replace g0_5:=g0_5.mono hs
  replace g0_6:=g0_6.mono hs
  replace g2_0:=g2_0.mono hs
  refine plc E (.r 4 2 .nil) (fun a E=>pld (hK52 _ _ (wp_block ?_)))
  replace S:=S.nilrow ki 3
  replace S:=S.pm [2,3,4,5,6,1,7,0] 8
  refine wp_loop_ghost (fun kq72 a w'=>∃(G:NV)(A63:OA)(c64:Nat)(l65:List Int)(x66:Int)(y67:Bool)(A68:OA)(c69:Nat)(l70:List Int),kq72≤k47∧Env 109 G a∧At G [(3,.pointer (pb b2)),(5,.pointer (pb b4)),(6,.pointer (pb b6)),(9,.pointer (pb b28)),(10,.func (.func 106) #[] #[.pointer (pb b28)]),(11,.pointer (pb b43)),(12,.slice A63 l65.length c64),(46,.slice A57 t54.length c58),(47,iv (t54.length:Int)),(48,iv x66)]∧Sm W F w' F56 [box b28 #[.func (.func 104) #[] #[.pointer (pb b4)]] 129,box b6 #[.bool false,iv 0,.slice none 0 0,.slice none 0 0] 74,box b4 #[.slice A2_0 z.length c2_0] 72,box b2 #[iv x.f0,iv x.f1,iv x.f2,iv x.f3,.slice A0_4 x.f4.length c0_4,.slice A0_5 x.f5.length c0_5,.slice A0_6 x.f6.length c0_6] 26,box b43 #[.bool y67,iv 0,.slice none 0 0,.slice A68 l70.length c69] 74,row qF.k 51 (.slice A57 t54.length c58) t54,row ki 3 (.slice A63 l65.length c64) l65,row ki 3 (.slice A68 l70.length c69) l70]∧qm.l71 kq72 x z t54 l65 x66 y67 l70=some r) k47 ⟨_,A23,c24,t20,0,y44,none,0,[],Nat.le_refl _,E,.of,S,H⟩ ?_
  rintro kq72 a u74 ⟨G,A63,c64,l65,x66,y67,A68,c69,l70,hkq,E,A,S,H⟩
  obtain _ | k73:=kq72
  exact zz H
  rw [qm.l71_s]at H
  obtain ⟨J,E⟩:=E.at A
  refine rr E fun a E=>(sq fun K76 hK76=>E.ik 49 H (fun c77 E H=>?_) fun c77 E H=>?_)
  refine wp_skip (hK76 _ _ (sq fun K78 hK78=>wp_block (sq fun K79 hK79=>pl0 ?_)))
  obtain ⟨c80,H⟩:=gd H
  have hr81:=S.ra 5
  have hE_:=E
  obtain ⟨b82,rfl⟩:=qCJ hr81 c80.1 c80.2
  replace E:=hE_
  have hr_:=S.ra 5
  obtain ⟨cs84,⟨A86,c87,rfl,g88⟩,hc85⟩:=qCF hr_ qF.z x66 c80.1 c80.2
  refine plc E (.x 0 c80<|.cs 1 hc85<|.nil) (fun a E=>pla (t:=51) E S [iv 0,.slice none 0 0] fun b89 u90 hb89 S a E=>pls E S [iv ((nth qF.z t54 x66).f0),.slice A86 (((nth qF.z t54 x66).f1).length) c87] fun u91 hb89 S a E=>pld (hK79 _ _ (sq fun K92 hK92=>pl0 (plc E (.r 0 2<|.b 2 1 hb89<|.nil) (fun a E=>?_)))))
  obtain ⟨c93,H⟩:=gd H
  replace S:=S.front 7 rfl
  refine ple E (.ap (d:=ki) 8 S (g88.src S.own.sub) c93 c87) ?_
  rintro _ u96 a ⟨A94,c95,rfl,S,hz⟩ E
  refine plc E (.r 4 1 .nil) (fun a E=>pld (hK92 _ _ (sq fun K97 hK97=>sq fun K98 hK98=>pl0 (plc E (.r 0 1<|.b 1 1 (S.ba 1)<|.b 2 0 (S.ba 2)<|.nil) (fun a E=>?_)))))
  obtain ⟨t100,h101,H⟩:=bd H
  refine plq E S en107 (qAB.calls k73 ((nth qF.z t54 x66).f1) z _ _ _ _ _ _ _ _ (Sub.refl _) (g88.mono S.own.sub) (g2_0.mono S.own.sub) (S.ba 4) h101) fun u99 S a E=>pld (hK98 _ _ (E.ib 59 H (fun c102 E H=>?_) fun c102 E H=>?_))
  refine wp_exit ?_
  refine hK78 _ _ (pl0 (plc E (.r 0 2 .nil) (fun a E=>pld ?_)))
  replace S:=S.pm [2,3,4,5,6,7,0] 8
  exact qCD ⟨k73,by omega,_,A94,c95,(l65++(nth qF.z t54 x66).f1),(w64 (x66+1)),y67,A68,c69,l70,by omega,E,.of,S,H⟩
  refine wp_skip (hK97 _ _ (sq fun K103 hK103=>pl0 (plc E (.r 0 1 .nil) (fun a E=>?_))))
  replace S:=S.front 6 rfl
  refine pls E S [.bool false,iv 0,.slice none 0 0,.slice A68 l70.length c69] fun u104 hb43 S a E=>pld (hK103 _ _ (sq fun K105 hK105=>pl0 (plc E (.r 0 1<|.b 1 1 (S.ba 2)<|.r 2 1<|.nil) (fun a E=>?_))))
  obtain ⟨t107,h108,H⟩:=bd H
  refine plq E S en107 (qAC.calls k73 ((nth qF.z t54 x66).f1) x _ _ _ _ _ _ _ _ _ _ _ _ (Sub.refl _) (g88.mono S.own.sub) (g0_4.mono S.own.sub) (g0_5.mono S.own.sub) (g0_6.mono S.own.sub) (S.ba 6) h108) fun u106 S a E=>plc E (.r 4 1 .nil) (fun a E=>pld (hK105 _ _ (E.ibn 65 H (fun c109 E H=>?_) fun c109 E H=>?_)))
  refine wp_skip ?_
  refine qCC ?_
  refine hK78 _ _ (pl0 (plc E (.r 0 2 .nil) (fun a E=>pld ?_)))
  replace S:=S.pm [3,4,5,6,0,7,1] 8
  exact qCD ⟨k73,by omega,_,A94,c95,(l65++(nth qF.z t54 x66).f1),(w64 (x66+1)),false,A68,c69,l70,by omega,E,.of,S,H⟩
  refine pl0 (plc E (.r 0 1<|.b 1 3 (S.ba 0)<|.r 2 1<|.b 3 0 (S.ba 2)<|.nil) (fun a E=>ple E (.lit (d:=ki) (e:=3) S [(nth qF.z t54 x66).f0] (.cons rfl .nil)) ?_))
  rintro _ u110 a ⟨A111,c112,rfl,S,hg⟩ E
  obtain ⟨c114,H⟩:=gd H
  replace S:=S.front 9 rfl
  refine ple E (.ap (d:=ki) 8 S (qCT (S.row_at (i:=1) rfl)) c114 c112) ?_
  rintro _ u117 a ⟨A115,c116,rfl,S,hz⟩ E
  refine plc E (.r 6 1 .nil) (fun a E=>?_)
  replace S:=S.front 2 rfl
  refine pls E S [.bool false,iv 0,.slice none 0 0,.slice A115 ((l70++[(nth qF.z t54 x66).f0]).length) c116] fun u118 hb43 S a E=>pld ?_
  refine qCC ?_
  refine hK78 _ _ (pl0 (plc E (.r 0 2 .nil) (fun a E=>pld ?_)))
  replace S:=S.pm [5,6,7,8,0,9,3,1] 10
  exact qCD ⟨k73,by omega,_,A94,c95,(l65++(nth qF.z t54 x66).f1),(w64 (x66+1)),false,A115,c116,(l70++[(nth qF.z t54 x66).f0]),by omega,E,.of,S,H⟩
  refine wp_exit ?_
  refine hK51 _ _ (sq fun K120 hK120=>pl0 (plc E (.r 0 1 .nil) (fun a E=>?_)))
  replace S:=S.front 6 rfl
  obtain ⟨t122,h123,H⟩:=bd H
  refine ple E (.cl en110 (qAh.calls l65 _ _ _ _ _ (Own.left (X:=[row ki 3 (.slice A63 l65.length c64) l65]) S.own) h123)) ?_
  rintro _ u121 a ⟨F124,rfl,hC⟩ E
  have hs:=hC.sub
  replace S:=S.called (X:=[row ki 3 (.slice A63 l65.length c64) l65]) hC
  replace g2_0:=g2_0.mono hs
  replace g0_4:=g0_4.mono hs
  replace g0_5:=g0_5.mono hs
  replace g0_6:=g0_6.mono hs
  refine pld (hK120 _ _ (sq fun K125 hK125=>sq fun K126 hK126=>pl0 (plc E (.r 0 1 .nil) (fun a E=>?_))))
  have hn127:=(qCE (S.row_at (i:=0) rfl)).1
  replace E:=E.set (d:=12) (v:=.slice A63 t122.length c64) (Eq.trans (b:=.slice A63 l65.length c64) (by kernel_rfl) (by rw [← hn127]))
  replace E:=E.set (d:=74) (v:=.slice A63 t122.length c64) (Eq.trans (b:=.slice A63 l65.length c64) (by kernel_rfl) (by rw [← hn127]))
  replace E:=E.set (d:=76) (v:=.slice A63 t122.length c64) (Eq.trans (b:=.slice A63 l65.length c64) (by kernel_rfl) (by rw [← hn127]))
  replace S:Sm W F u121 F124 [row ki 3 (.slice A63 t122.length c64) t122,box b28 #[.func (.func 104) #[] #[.pointer (pb b4)]] 129,box b6 #[.bool false,iv 0,.slice none 0 0,.slice none 0 0] 74,box b4 #[.slice A2_0 z.length c2_0] 72,box b2 #[iv x.f0,iv x.f1,iv x.f2,iv x.f3,.slice A0_4 x.f4.length c0_4,.slice A0_5 x.f5.length c0_5,.slice A0_6 x.f6.length c0_6] 26,box b43 #[.bool y67,iv 0,.slice none 0 0,.slice A68 l70.length c69] 74,row qF.k 51 (.slice A57 t54.length c58) t54,row ki 3 (.slice A68 l70.length c69) l70]:=by rw [← hn127]; exact S
  obtain ⟨t129,h130,H⟩:=bd H
  refine ple E (.cl en111 (qAm.calls t122 _ _ _ _ _ (Own.left (X:=[row ki 3 (.slice A63 t122.length c64) t122]) S.own) h130)) ?_
  rintro _ u128 a ⟨F131,A132,c133,rfl,hC⟩ E
  have hs:=hC.sub
  replace S:=S.called (X:=[row ki 3 (.slice A63 t122.length c64) t122]) hC
  replace g2_0:=g2_0.mono hs
  replace g0_4:=g0_4.mono hs
  replace g0_5:=g0_5.mono hs
  replace g0_6:=g0_6.mono hs
  refine plc E (.r 2 2 .nil) (fun a E=>pld (hK126 _ _ (wp_block ?_)))
  replace S:=S.nilrow ki 3
  replace S:=S.pm [2,3,4,5,6,1,8,0] 9
  refine wp_loop_ghost (fun kq142 a w'=>∃(G:NV)(x137:Int)(A138:OA)(c139:Nat)(l140:List Int),kq142≤k73∧Env 109 G a∧At G [(3,.pointer (pb b2)),(5,.pointer (pb b4)),(6,.pointer (pb b6)),(10,.func (.func 106) #[] #[.pointer (pb b28)]),(11,.pointer (pb b43)),(77,.slice A132 t129.length c133),(78,iv (t129.length:Int)),(79,iv x137)]∧Sm W F w' F131 [box b28 #[.func (.func 104) #[] #[.pointer (pb b4)]] 129,box b6 #[.bool false,iv 0,.slice none 0 0,.slice none 0 0] 74,box b4 #[.slice A2_0 z.length c2_0] 72,box b2 #[iv x.f0,iv x.f1,iv x.f2,iv x.f3,.slice A0_4 x.f4.length c0_4,.slice A0_5 x.f5.length c0_5,.slice A0_6 x.f6.length c0_6] 26,box b43 #[.bool y67,iv 0,.slice A138 l140.length c139,.slice A68 l70.length c69] 74,row ki 3 (.slice A132 t129.length c133) t129,row ki 3 (.slice A68 l70.length c69) l70,row ki 3 (.slice A138 l140.length c139) l140]∧qm.l141 kq142 x z y67 l70 t129 x137 l140=some r) k73 ⟨_,0,none,0,[],Nat.le_refl _,E,.of,S,H⟩ ?_
  rintro kq142 a u144 ⟨G,x137,A138,c139,l140,hkq,E,A,S,H⟩
  obtain _ | k143:=kq142
  exact zz H
  rw [qm.l141_s]at H
  obtain ⟨J,E⟩:=E.at A
  refine rr E fun a E=>(sq fun K146 hK146=>E.ik 80 H (fun c147 E H=>?_) fun c147 E H=>?_)
  refine wp_skip (hK146 _ _ (sq fun K148 hK148=>wp_block (sq fun K149 hK149=>pl0 ?_)))
  obtain ⟨c150,H⟩:=gd H
  have hr151:=S.ra 5
  have hE_:=E
  obtain ⟨b152,rfl⟩:=qCJ hr151 c150.1 c150.2
  replace E:=hE_
  have hr_:=S.ra 5
  obtain ⟨cs154,rfl,hc155⟩:=qCF hr_ 0 x137 c150.1 c150.2
  refine plc E (.x 0 c150<|.c 1 (hc155 0 _ rfl)<|.r 2 1<|.nil) (fun a E=>pld (hK149 _ _ (sq fun K156 hK156=>?_)))
  have J168:∀ kq166,kq166≤k143→∀(G:NV)(y164:Bool)(a:Act)(w':World),Env 109 G a→At G [(3,.pointer (pb b2)),(5,.pointer (pb b4)),(6,.pointer (pb b6)),(10,.func (.func 106) #[] #[.pointer (pb b28)]),(11,.pointer (pb b43)),(16,iv (nth 0 t129 x137)),(77,.slice (pb b152) t129.length c133),(78,iv (t129.length:Int)),(79,iv x137),(90,.bool y164)]→Sm W F w' F131 [box b28 #[.func (.func 104) #[] #[.pointer (pb b4)]] 129,box b6 #[.bool false,iv 0,.slice none 0 0,.slice none 0 0] 74,box b4 #[.slice A2_0 z.length c2_0] 72,box b2 #[iv x.f0,iv x.f1,iv x.f2,iv x.f3,.slice A0_4 x.f4.length c0_4,.slice A0_5 x.f5.length c0_5,.slice A0_6 x.f6.length c0_6] 26,box b43 #[.bool y67,iv 0,.slice A138 l140.length c139,.slice A68 l70.length c69] 74,row ki 3 (.slice (pb b152) t129.length c133) t129,row ki 3 (.slice A68 l70.length c69) l70,row ki 3 (.slice A138 l140.length c139) l140]→qm.j165 kq166 x z y67 l70 t129 x137 l140 y164=some r→K156 a w':=by
   intro kq166 hkq G y164 a u169 E A S H
   obtain _ | k167:=kq166
   exact zz H
   rw [qm.j165_s]at H
   obtain ⟨J,E⟩:=E.at A
   refine hK156 _ _ (E.ib 90 H (fun c170 E H=>?_) fun c170 E H=>?_)
   refine pl0 (plc E (.r 0 1<|.b 1 2 (S.ba 4)<|.r 2 1<|.nil) (fun a E=>ple E (.lit (d:=ki) (e:=3) S [(nth 0 t129 x137)] (.cons rfl .nil)) ?_))
   rintro _ u171 a ⟨A172,c173,rfl,S,hg⟩ E
   obtain ⟨c175,H⟩:=gd H
   replace S:=S.front 8 rfl
   refine ple E (.ap (d:=ki) 8 S (qCT (S.row_at (i:=1) rfl)) c175 c173) ?_
   rintro _ u178 a ⟨A176,c177,rfl,S,hz⟩ E
   refine plc E (.r 5 1 .nil) (fun a E=>?_)
   replace S:=S.front 6 rfl
   refine pls E S [.bool y67,iv 0,.slice A176 ((l140++[(nth 0 t129 x137)]).length) c177,.slice A68 l70.length c69] fun u179 hb43 S a E=>pld ?_
   refine qCC ?_
   refine hK148 _ _ (pl0 (plc E (.r 0 2 .nil) (fun a E=>pld ?_)))
   replace S:=S.pm [3,4,5,6,0,7,8,1] 9
   exact qCD ⟨k167,by omega,_,(w64 (x137+1)),A176,c177,(l140++[(nth 0 t129 x137)]),by omega,E,.of,S,H⟩
   refine wp_skip ?_
   refine qCC ?_
   refine hK148 _ _ (pl0 (plc E (.r 0 2 .nil) (fun a E=>pld ?_)))
   exact qCD ⟨k167,by omega,_,(w64 (x137+1)),A138,c139,l140,by omega,E,.of,S,H⟩
  refine pl0 (plc E (.r 0 2 .nil) (fun a E=>?_))
  obtain ⟨t158,h159,H⟩:=bd H
  refine plq E S en106 (qAs.calls k143 (nth 0 t129 x137) z _ _ _ _ _ _ _ (Sub.refl _) (g2_0.mono S.own.sub) (S.ba 2) (S.ba 0) h159) fun u157 S a E=>plc E (.r 3 1 .nil) (fun a E=>E.fb 86 H (fun c160 E H=>?_) fun c160 E H=>?_)
  refine plc E (.bn 4 0 7 (S.ba 3)<|.r 5 1<|.nil) (fun a E=>?_)
  obtain ⟨t162,h163,H⟩:=bd H
  refine plq E S en109 (qBj.calls k143 x (nth 0 t129 x137) _ _ _ _ _ _ _ _ _ S.own.sub g0_4 g0_5 g0_6 h163) fun u161 S a E=>plc E (.r 7 1 .nil) (fun a E=>pld ?_)
  exact J168 _ (by omega) _ t162 _ _ E .of S H
  refine plc E (.r 4 4 .nil) (fun a E=>pld ?_)
  exact J168 _ (by omega) _ false _ _ E .of S H
  refine wp_exit ?_
  refine hK125 _ _ (sq fun K181 hK181=>?_)
  have J196:∀ kq194,kq194≤k143→∀(G:NV)(x192:Int)(a:Act)(w':World),Env 109 G a→At G [(6,.pointer (pb b6)),(11,.pointer (pb b43))]→Sm W F w' F131 [box b43 #[.bool y67,iv x192,.slice A138 l140.length c139,.slice A68 l70.length c69] 74,box b28 #[.func (.func 104) #[] #[.pointer (pb b4)]] 129,box b6 #[.bool false,iv 0,.slice none 0 0,.slice none 0 0] 74,box b4 #[.slice A2_0 z.length c2_0] 72,box b2 #[iv x.f0,iv x.f1,iv x.f2,iv x.f3,.slice A0_4 x.f4.length c0_4,.slice A0_5 x.f5.length c0_5,.slice A0_6 x.f6.length c0_6] 26,row ki 3 (.slice A68 l70.length c69) l70,row ki 3 (.slice A138 l140.length c139) l140]→qm.j193 kq194 y67 l70 l140 x192=some r→K181 a w':=by
   intro kq194 hkq G x192 a u197 E A S H
   obtain _ | k195:=kq194
   exact zz H
   rw [qm.j193_s]at H
   obtain ⟨J,E⟩:=E.at A
   refine hK181 _ _ (sq fun K198 hK198=>pl0 (plc E (.bn 0 0 4 (S.ba 0) .nil) (fun a E=>?_)))
   replace S:=S.front 2 rfl
   refine pls E S [.bool y67,iv x192,.slice A138 l140.length c139,.slice A68 l70.length c69] fun u199 hb6 S a E=>plc E (.r 2 1 .nil) (fun a E=>pld (hK198 _ _ (wp_ret ?_)))
   replace S:=S.pm [6,5] 7
   obtain rfl:=si H
   exact rtm E (.b hb6 ag74 sz74 (.t .nil)) ⟨_,rfl,_,_,_,_,_,rfl,S⟩
  refine sq fun K182 hK182=>pl0 ?_
  have hb43:=S.ba 4
  refine plc E (.r 0 1<|.b 1 0 hb43<|.nil) (fun a E=>pld (hK182 _ _ (E.ib 99 H (fun c183 E H=>?_) fun c183 E H=>?_)))
  refine sq fun K184 hK184=>pl0 (plc E (.b 0 0 (S.ba 2) .nil) (fun a E=>?_))
  obtain ⟨t186,h187,H⟩:=bd H
  refine plq E S en57 (qAn.calls k143 z _ _ _ _ _ S.own.sub g2_0 h187) fun u185 S a E=>plc E (.r 2 3 .nil) (fun a E=>pla (t:=86) E S [iv 0,iv 0,iv 0,iv 0,iv 0] fun b188 u189 hb188 S a E=>pls E S [iv t186.1.f0,iv t186.1.f1,iv t186.1.f2,iv t186.1.f3,iv t186.1.f4] fun u190 hb188 S a E=>plc E (.r 7 1 .nil) (fun a E=>pld (hK184 _ _ (pl0 (plc E (.r 0 1<|.b 1 0 hb188<|.r 2 1<|.nil) (fun a E=>?_))))))
  replace S:=S.front 5 rfl
  refine pls E S [.bool y67,iv t186.1.f0,.slice A138 l140.length c139,.slice A68 l70.length c69] fun u191 hb43 S a E=>pld ?_
  replace S:=S.pm [0,2,3,4,5] 7
  exact J196 _ (by omega) _ t186.1.f0 _ _ E .of S H
  refine wp_skip ?_
  replace S:=S.pm [4,0,1,2,3] 6
  exact J196 _ (by omega) _ 0 _ _ E .of S H
 refine pl0 (plc E (.r 0 3<|.b 3 2 (S.ba 4)<|.r 4 2<|.nil) (fun a E=>E.fk 35 H (fun c33 E H=>?_) fun c33 E H=>?_))
 refine plc E (.r 6 2 .nil) (fun a E=>?_)
 obtain ⟨t35,h36,H⟩:=bd H
 refine plq E S en107 (qAA.calls k t20 z _ _ _ _ _ _ _ _ _ (Sub.refl _) (S.rd_at (i:=1) rfl) (g2_0.mono S.own.sub) (S.ba 3) (S.ba 0) h36) fun u34 S a E=>plc E (.r 9 3 .nil) (fun a E=>pla (t:=74) E S [.bool false,iv 0,.slice none 0 0,.slice none 0 0] fun b37 u38 hb37 S a E=>pls E S [.bool (!t35),iv 0,.slice none 0 0,.slice none 0 0] fun u39 hb37 S a E=>pld ?_)
 replace S:=S.pm [1,3,4,5,0,2] 6
 exact J48 _ (by omega) _ b37 (!t35) _ _ E .of S H
 refine plc E (.r 6 6 .nil) (fun a E=>pla (t:=74) E S [.bool false,iv 0,.slice none 0 0,.slice none 0 0] fun b40 u41 hb40 S a E=>pls E S [.bool false,iv 0,.slice none 0 0,.slice none 0 0] fun u42 hb40 S a E=>pld ?_)
 replace S:=S.pm [1,3,4,5,0,2] 6
 exact J48 _ (by omega) _ b40 false _ _ E .of S H
 refine sq fun K14 hK14=>pl0 (plc E (.r 0 1 .nil) (fun a E=>pls E S [.bool false,iv 0,.slice none 0 0,.slice none 0 0] fun u15 hb6 S a E=>plc E (.r 2 1 .nil) (fun a E=>pld (hK14 _ _ (wp_ret (qCA ?_))))))
 replace S:=S.nilrow ki 3
 replace S:=S.nilrow ki 3
 replace S:=S.pm [1,0] 5
 obtain rfl:=si H
 exact rtm E (.b hb6 ag74 sz74 (.t .nil)) ⟨_,rfl,_,_,_,_,_,rfl,S⟩
end Go.Proofs.YtpohepinmjmbkaaGreat.QK
