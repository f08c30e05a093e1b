import Derived.Test.YtpohepinmjmbkaaGreatMF9
namespace Go.Proofs.YtpohepinmjmbkaaGreat.MF
open Go Go.RowKit Go.Proofs.YtpohepinmjmbkaaGreat.Sl
set_option linter.unusedVariables false
set_option linter.unusedSimpArgs false
set_option maxHeartbeats 4000000
set_option maxRecDepth 100000
mutual
def qR.j19:Nat→qE→List qK→Int→Bool→Option Bool
 | 0,_,_,_,_=>none
 | k+1,x,y,z,y18=>if y18=true then ((qAs.f k).bind fun t27=>(some t27)) else (if (w64 ((y.length:Int)+1))≠0 then ((qBD.f k x y).bind fun t33=>(if 0≤((w64 z).tmod (w64 ((y.length:Int)+1)))∧((w64 z).tmod (w64 ((y.length:Int)+1)))≤(y.length:Int) then ((qBD.f k x (cutl y 0 ((w64 z).tmod (w64 ((y.length:Int)+1))))).bind fun t59=>((qBD.f k t59 (cutl y ((w64 z).tmod (w64 ((y.length:Int)+1))) (y.length:Int))).bind fun t75=>((qAa.f k x y).bind fun t101=>((qi.f k t33 t101).bind fun t114=>(if t114=true then ((qi.f k t33 t75).bind fun t118=>(if t118=true then ((qc.f k t33).bind fun t122=>(if t122=true then (qR.j127 k t33 (!(t33.f0 == (w64 (x.f0+(y.length:Int)))))) else (qR.j127 k t33 true))) else (qR.j127 k t33 true))) else (qR.j127 k t33 true)))))) else (none))) else (none))
def qR.j127:Nat→qE→Bool→Option Bool
 | 0,_,_=>none
 | k+1,t33,y125=>if y125=true then (some false) else (qR.l142 k t33 0 t33.f6)
def qR.l142:Nat→qE→Int→List qC→Option Bool
 | 0,_,_,_=>none
 | k+1,t33,x136,l139=>if x136<t33.f3 then ((qBP.f k (⟨t33.f0,t33.f1,t33.f2,t33.f3,t33.f4,t33.f5,l139⟩:qE) x136).bind fun t152=>(if (t152.length:Int)>t33.f1 then (qR.j171 k t33 x136 l139 true) else ((qBR.f k (⟨t33.f0,t33.f1,t33.f2,t33.f3,t33.f4,t33.f5,l139⟩:qE) x136).bind fun t162=>(qR.j171 k t33 x136 l139 (decide ((t162.length:Int)>(t152.length:Int))))))) else ((qAs.f k).bind fun t182=>(some t182))
def qR.j171:Nat→qE→Int→List qC→Bool→Option Bool
 | 0,_,_,_,_=>none
 | k+1,t33,x136,l139,y169=>if y169=true then (some false) else (qR.l142 k t33 (w64 (x136+1)) l139)
end
theorem qR.j19_s k x y z y18:type_of% (qR.j19.eq_2 x y z y18 k):=qR.j19.eq_2 x y z y18 k
theorem qR.j127_s k t33 y125:type_of% (qR.j127.eq_2 t33 y125 k):=qR.j127.eq_2 t33 y125 k
theorem qR.l142_s k t33 x136 l139:type_of% (qR.l142.eq_2 t33 x136 l139 k):=qR.l142.eq_2 t33 x136 l139 k
theorem qR.j171_s k t33 x136 l139 y169:type_of% (qR.j171.eq_2 t33 x136 l139 y169 k):=qR.j171.eq_2 t33 x136 l139 y169 k
def qR.f(k:Nat)(x:qE)(y:List qK)(z:Int):Option Bool:=(qW.f k x).bind fun t7=>(if t7=true then ((qt.f k y).bind fun t11=>(if t11=true then ((qc.f k x).bind fun t15=>(if t15=true then (qR.j19 k x y z (decide (x.f0>1000000))) else (qR.j19 k x y z true))) else (qR.j19 k x y z true))) else (qR.j19 k x y z true))
def qR.Post(W F:World)(r:Bool)(v:Value)(w':World):Prop:=∃(F':World),v = .bool r∧Sm W F w' F' []
theorem qR.calls(k:Nat)(x:qE)(y:List qK)(z:Int)(A0_4:OA)(c0_4:Nat)(A0_5:OA)(c0_5:Nat)(A0_6:OA)(c0_6:Nat)(A1_0:OA)(c1_0:Nat)(r:Bool)(W F:World)(hown:Sub F W)(g0_4:Rd qA.k F A0_4 c0_4 x.f4)(g0_5:Rd qD.k F A0_5 c0_5 x.f5)(g0_6:Rd qC.k F A0_6 c0_6 x.f6)(g1_0:Rd qK.k F A1_0 c1_0 y)(H:qR.f k x y z=some r):
    Cr 7 #[.agg #[iv x.f0,iv x.f1,iv x.f2,iv x.f3,.slice A0_4 x.f4.length c0_4,.slice A0_5 x.f5.length c0_5,.slice A0_6 x.f6.length c0_6],.slice A1_0 y.length c1_0,.int .u8 z] W (qR.Post W F r):=by
 have S:=St.start (Own.nil hown)
 unfold qR.f at H
 refine ent 100 rfl rfl rfl (fun a E=>?_)
 refine sq fun K1 hK1=>pl0 (ple E (.bx (t:=26) S [iv x.f0,iv x.f1,iv x.f2,iv x.f3,.slice A0_4 x.f4.length c0_4,.slice A0_5 x.f5.length c0_5,.slice A0_6 x.f6.length c0_6]) ?_)
 rintro _ u3 a ⟨b2,rfl,hb2,S,hg⟩ E
 refine plc E (.r 1 1 .nil) (fun a E=>pld (hK1 _ _ (sq fun K4 hK4=>sq fun K5 hK5=>?_)))
 have J22:∀ kq20,kq20≤k→∀(G:NV)(y18:Bool)(a:Act)(w':World),Env 100 G a→At G [(1,.slice A1_0 y.length c1_0),(2,.int .u8 z),(3,.pointer (pb b2)),(29,.bool y18)]→Sm W F w' F [box b2 #[iv x.f0,iv x.f1,iv x.f2,iv x.f3,.slice A0_4 x.f4.length c0_4,.slice A0_5 x.f5.length c0_5,.slice A0_6 x.f6.length c0_6] 26]→qR.j19 kq20 x y z y18=some r→K5 a w':=by
  intro kq20 hkq G y18 a u23 E A S H
  obtain _ | k21:=kq20
  ·
   exact zz H
  rw [qR.j19_s]at H
  obtain ⟨J,E⟩:=E.at A
  refine hK5 _ _ ?_
  refine E.ib 29 H (fun c24 E H=>?_) fun c24 E H=>?_
  ·
   refine sq fun K25 hK25=>pl0 ?_
   obtain ⟨t27,h28,H⟩:=bd H
   refine ple E (.cl en17 (qAs.calls k21 _ _ _ S.own.sub h28)) ?_
   rintro _ u26 a ⟨_,rfl,hC⟩ E
   replace S:=S.lent hC
   refine plc E (.r 1 1 .nil) (fun a E=>pld (hK25 _ _ (wp_ret (qCH ?_))))
   replace S:=S.tail
   obtain rfl:=si H
   exact rt1 E ⟨_,rfl,_,rfl,S⟩
  refine wp_skip (hK4 _ _ (sq fun K29 hK29=>pl0 ?_))
  obtain ⟨c30,H⟩:=gd H
  refine plc E (.r 0 5<|.y 5 (y_rem 3 .i64 (w64 z) c30)<|.r 6 1<|.nil) (fun a E=>pld (hK29 _ _ (sq fun K31 hK31=>pl0 ?_)))
  have hb2:=S.ba 0
  refine plc E (.bn 0 0 7 hb2<|.r 1 1<|.nil) (fun a E=>?_)
  obtain ⟨t33,h34,H⟩:=bd H
  refine ple E (.cl en29 (qBD.calls k21 x y _ _ _ _ _ _ _ _ _ _ _ S.own.sub g0_4 g0_5 g0_6 g1_0 h34)) ?_
  rintro _ u32 a ⟨F35,A36,c37,A39,c40,A42,c43,rfl,hC,g38,g41⟩ E
  have hs:=hC.sub
  replace S:=S.called (X:=[]) hC
  replace g1_0:=g1_0.mono hs
  replace g0_4:=g0_4.mono hs
  replace g0_5:=g0_5.mono hs
  replace g0_6:=g0_6.mono hs
  refine ple E (.al (t:=26) S [iv 0,iv 0,iv 0,iv 0,.slice none 0 0,.slice none 0 0,.slice none 0 0]) ?_
  rintro _ u47 a ⟨b46,rfl,hb46,S,hg⟩ E
  refine ple E (.sto S [iv t33.f0,iv t33.f1,iv t33.f2,iv t33.f3,.slice A36 t33.f4.length c37,.slice A39 t33.f5.length c40,.slice A42 t33.f6.length c43]) ?_
  rintro _ u48 a ⟨rfl,hb46,S,hz⟩ E
  refine pld (hK31 _ _ (sq fun K49 hK49=>?_))
  refine drawn 11 ⟨[10],[],fun q=>False⟩ mixed rfl (by kernel_rfl) (fun hst=>?_)
  replace S:=S.drew
  have hb2:=S.ba 2
  obtain ⟨c50,H⟩:=gd H
  obtain ⟨A51,c52,g53,hv54⟩:=qDQ (P:=Tryz.prog) g1_0 ⟨Int.le_refl _,c50.1,c50.2⟩ sz40
  obtain ⟨A55,c56,g57,hv58⟩:=qDQ (P:=Tryz.prog) g1_0 ⟨c50.1,c50.2,Int.le_refl _⟩ sz40
  refine mny 4 hst E (.bn 0 0 7 hb2<|.r 1 2<|.y 3 (hv54 (by kernel_rfl))<|.r 5 2<|.y 7 (hv58 (by kernel_rfl))<|.nil) (fun a E=>?_)
  obtain ⟨t59,h60,H⟩:=bd H
  obtain ⟨t75,h76,H⟩:=bd H
  refine meet2 (fun a w'=>∃(G:NV)(b73:Nat)(A87:OA)(c88:Nat)(A81:OA)(c82:Nat)(A84:OA)(c85:Nat)(F95:World),Env 100 G a∧At G [(1,.slice A1_0 y.length c1_0),(3,.pointer (pb b2)),(8,.pointer (pb b46)),(9,.pointer (pb b73)),(48,.agg #[iv t75.f0,iv t75.f1,iv t75.f2,iv t75.f3,.slice A81 t75.f4.length c82,.slice A84 t75.f5.length c85,.slice A87 t75.f6.length c88])]∧Sm W F w' F95 [box b73 #[iv 0,iv 0,iv 0,iv 0,.slice none 0 0,.slice none 0 0,.slice none 0 0] 26,box b46 #[iv t33.f0,iv t33.f1,iv t33.f2,iv t33.f3,.slice A36 t33.f4.length c37,.slice A39 t33.f5.length c40,.slice A42 t33.f6.length c43] 26,box b2 #[iv x.f0,iv x.f1,iv x.f2,iv x.f3,.slice A0_4 x.f4.length c0_4,.slice A0_5 x.f5.length c0_5,.slice A0_6 x.f6.length c0_6] 26,row qC.k 49 (.slice A87 t75.f6.length c88) t75.f6,row qC.k 49 (.slice A42 t33.f6.length c43) t33.f6]∧Rd qK.k F95 A1_0 c1_0 y∧Rd qA.k F95 A81 c82 t75.f4∧Rd qD.k F95 A84 c85 t75.f5∧Rd qA.k F95 A36 c37 t33.f4∧Rd qD.k F95 A39 c40 t33.f5∧Rd qA.k F95 A0_4 c0_4 x.f4∧Rd qD.k F95 A0_5 c0_5 x.f5∧Rd qC.k F95 A0_6 c0_6 x.f6) 1 1023 ?_ (fun hJb=>?_)
  ·
   rintro a u96 ⟨G,b73,A87,c88,A81,c82,A84,c85,F95,E,A,S,g1_0,g83,g86,g38,g41,g0_4,g0_5,g0_6⟩
   obtain ⟨J,E⟩:=E.at A
   refine on1 10 E (.sto S [iv t75.f0,iv t75.f1,iv t75.f2,iv t75.f3,.slice A81 t75.f4.length c82,.slice A84 t75.f5.length c85,.slice A87 t75.f6.length c88]) ?_
   rintro _ u97 a ⟨rfl,hb73,S,hz⟩ E
   refine ⟨.d,?_⟩
   refine dn ?_
   refine hK49 _ _ (sq fun K98 hK98=>sq fun K99 hK99=>?_)
   have J130:∀ kq128,kq128≤k21→∀(G:NV)(y125:Bool)(F126:World)(a:Act)(w':World),Env 100 G a→At G [(8,.pointer (pb b46)),(75,.bool y125)]→Sm W F w' F126 [box b73 #[iv t75.f0,iv t75.f1,iv t75.f2,iv t75.f3,.slice A81 t75.f4.length c82,.slice A84 t75.f5.length c85,.slice A87 t75.f6.length c88] 26,box b46 #[iv t33.f0,iv t33.f1,iv t33.f2,iv t33.f3,.slice A36 t33.f4.length c37,.slice A39 t33.f5.length c40,.slice A42 t33.f6.length c43] 26,box b2 #[iv x.f0,iv x.f1,iv x.f2,iv x.f3,.slice A0_4 x.f4.length c0_4,.slice A0_5 x.f5.length c0_5,.slice A0_6 x.f6.length c0_6] 26,row qC.k 49 (.slice A87 t75.f6.length c88) t75.f6,row qC.k 49 (.slice A42 t33.f6.length c43) t33.f6]→Rd qA.k F126 A81 c82 t75.f4→Rd qD.k F126 A84 c85 t75.f5→Rd qA.k F126 A36 c37 t33.f4→Rd qD.k F126 A39 c40 t33.f5→Rd qA.k F126 A0_4 c0_4 x.f4→Rd qD.k F126 A0_5 c0_5 x.f5→Rd qC.k F126 A0_6 c0_6 x.f6→qR.j127 kq128 t33 y125=some r→K99 a w':=by
    intro kq128 hkq G y125 F126 a u131 E A S g83 g86 g38 g41 g0_4 g0_5 g0_6 H
    obtain _ | k129:=kq128
    ·
     exact zz H
    rw [qR.j127_s]at H
    obtain ⟨J,E⟩:=E.at A
    refine hK99 _ _ ?_
    refine E.ib 75 H (fun c132 E H=>?_) fun c132 E H=>?_
    ·
     refine rr E fun a E=>(wp_ret (qCH ?_))
     replace S:=S.pm [] 5
     obtain rfl:=si H
     exact rt1 E ⟨_,rfl,_,rfl,S⟩
    refine wp_skip (hK98 _ _ (sq fun K134 hK134=>rr E fun a E=>(wp_block ?_)))
    replace S:=S.front 4 rfl
    obtain ⟨F178,hs,g179,S⟩:=S.give
    replace g83:=g83.mono hs
    replace g86:=g86.mono hs
    replace g38:=g38.mono hs
    replace g41:=g41.mono hs
    replace g0_4:=g0_4.mono hs
    replace g0_5:=g0_5.mono hs
    replace g0_6:=g0_6.mono hs
    refine wp_loop_ghost (fun kq143 a w'=>∃(G:NV)(x136:Int)(A137:OA)(c138:Nat)(l139:List qC)(F141:World),kq143≤k129∧Env 100 G a∧At G [(8,.pointer (pb b46)),(10,iv x136)]∧Sm W F w' F141 [box b73 #[iv t75.f0,iv t75.f1,iv t75.f2,iv t75.f3,.slice A81 t75.f4.length c82,.slice A84 t75.f5.length c85,.slice A87 t75.f6.length c88] 26,box b46 #[iv t33.f0,iv t33.f1,iv t33.f2,iv t33.f3,.slice A36 t33.f4.length c37,.slice A39 t33.f5.length c40,.slice A137 l139.length c138] 26,box b2 #[iv x.f0,iv x.f1,iv x.f2,iv x.f3,.slice A0_4 x.f4.length c0_4,.slice A0_5 x.f5.length c0_5,.slice A0_6 x.f6.length c0_6] 26,row qC.k 49 (.slice A87 t75.f6.length c88) t75.f6]∧Rd qC.k F141 A137 c138 l139∧Rd qA.k F141 A81 c82 t75.f4∧Rd qD.k F141 A84 c85 t75.f5∧Rd qA.k F141 A36 c37 t33.f4∧Rd qD.k F141 A39 c40 t33.f5∧Rd qA.k F141 A0_4 c0_4 x.f4∧Rd qD.k F141 A0_5 c0_5 x.f5∧Rd qC.k F141 A0_6 c0_6 x.f6∧qR.l142 kq143 t33 x136 l139=some r) k129 ⟨_,0,A42,c43,t33.f6,F178,Nat.le_refl _,E,.of,S,g179,g83,g86,g38,g41,g0_4,g0_5,g0_6,H⟩ ?_
    rintro kq143 a u145 ⟨G,x136,A137,c138,l139,F141,hkq,E,A,S,g140,g83,g86,g38,g41,g0_4,g0_5,g0_6,H⟩
    obtain _ | k144:=kq143
    ·
     exact zz H
    rw [qR.l142_s]at H
    obtain ⟨J,E⟩:=E.at A
    refine sq fun K146 hK146=>sq fun K147 hK147=>pl0 ?_
    have hb46:=S.ba 1
    refine plc E (.r 0 2<|.b 2 3 hb46<|.r 3 1<|.nil) (fun a E=>pld (hK147 _ _ ?_))
    refine E.ik 79 H (fun c148 E H=>?_) fun c148 E H=>?_
    ·
     refine wp_skip (hK146 _ _ (sq fun K149 hK149=>wp_block (sq fun K150 hK150=>pl0 (plc E (.bn 0 0 7 hb46<|.r 1 1<|.nil) (fun a E=>?_)))))
     obtain ⟨t152,h153,H⟩:=bd H
     refine ple E (.cl en22 (qBP.calls k144 (⟨t33.f0,t33.f1,t33.f2,t33.f3,t33.f4,t33.f5,l139⟩:qE) x136 _ _ _ _ _ _ _ _ _ S.own.sub g38 g41 g140 h153)) ?_
     rintro _ u151 a ⟨F154,A155,c156,rfl,hC⟩ E
     have hs:=hC.sub
     replace S:=S.called (X:=[]) hC
     replace g38:=g38.mono hs
     replace g41:=g41.mono hs
     replace g140:=g140.mono hs
     replace g83:=g83.mono hs
     replace g86:=g86.mono hs
     replace g0_4:=g0_4.mono hs
     replace g0_5:=g0_5.mono hs
     replace g0_6:=g0_6.mono hs
     refine plc E (.r 3 1 .nil) (fun a E=>pld (hK150 _ _ (sq fun K159 hK159=>?_)))
     have J174:∀ kq172,kq172≤k144→∀(G:NV)(y169:Bool)(F170:World)(a:Act)(w':World),Env 100 G a→At G [(8,.pointer (pb b46)),(10,iv x136),(98,.bool y169)]→Sm W F w' F170 [box b73 #[iv t75.f0,iv t75.f1,iv t75.f2,iv t75.f3,.slice A81 t75.f4.length c82,.slice A84 t75.f5.length c85,.slice A87 t75.f6.length c88] 26,box b46 #[iv t33.f0,iv t33.f1,iv t33.f2,iv t33.f3,.slice A36 t33.f4.length c37,.slice A39 t33.f5.length c40,.slice A137 l139.length c138] 26,box b2 #[iv x.f0,iv x.f1,iv x.f2,iv x.f3,.slice A0_4 x.f4.length c0_4,.slice A0_5 x.f5.length c0_5,.slice A0_6 x.f6.length c0_6] 26,row qC.k 49 (.slice A87 t75.f6.length c88) t75.f6]→Rd qA.k F170 A81 c82 t75.f4→Rd qD.k F170 A84 c85 t75.f5→Rd qA.k F170 A36 c37 t33.f4→Rd qD.k F170 A39 c40 t33.f5→Rd qC.k F170 A137 c138 l139→Rd qA.k F170 A0_4 c0_4 x.f4→Rd qD.k F170 A0_5 c0_5 x.f5→Rd qC.k F170 A0_6 c0_6 x.f6→qR.j171 kq172 t33 x136 l139 y169=some r→K159 a w':=by
      intro kq172 hkq G y169 F170 a u175 E A S g83 g86 g38 g41 g140 g0_4 g0_5 g0_6 H
      obtain _ | k173:=kq172
      ·
       exact zz H
      rw [qR.j171_s]at H
      obtain ⟨J,E⟩:=E.at A
      refine hK159 _ _ ?_
      refine E.ib 98 H (fun c176 E H=>?_) fun c176 E H=>?_
      ·
       refine rr E fun a E=>(wp_ret (qCI (qCH (qCH (qCI (qCH ?_))))))
       replace S:=S.pm [] 4
       obtain rfl:=si H
       exact rt1 E ⟨_,rfl,_,rfl,S⟩
      refine wp_skip ?_
      refine qCJ ?_
      refine hK149 _ _ (pl0 (plc E (.r 0 3 .nil) (fun a E=>pld ?_)))
      exact qCK ⟨k173,by omega,_,(w64 (x136+1)),A137,c138,l139,F170,by omega,E,.of,S,g140,g83,g86,g38,g41,g0_4,g0_5,g0_6,H⟩
     refine pl0 ?_
     have hb46:=S.ba 2
     refine plc E (.r 0 3<|.b 3 1 hb46<|.r 4 2<|.nil) (fun a E=>?_)
     rcases sp H with ⟨c160,H⟩ | ⟨c160,H⟩
     ·
      replace E:=E.kt 90 c160
      refine plc E (.r 6 8 .nil) (fun a E=>pld ?_)
      replace S:=S.tail
      exact J174 _ (by omega) _ true F154 _ _ E .of S g83 g86 g38 g41 g140 g0_4 g0_5 g0_6 H
     replace E:=E.kf 90 c160
     refine plc E (.bn 6 0 7 hb46<|.r 7 1<|.nil) (fun a E=>?_)
     obtain ⟨t162,h163,H⟩:=bd H
     refine ple E (.cl en24 (qBR.calls k144 (⟨t33.f0,t33.f1,t33.f2,t33.f3,t33.f4,t33.f5,l139⟩:qE) x136 _ _ _ _ _ _ _ _ _ S.own.sub g38 g41 g140 h163)) ?_
     rintro _ u161 a ⟨F164,A165,c166,rfl,hC⟩ E
     have hs:=hC.sub
     replace S:=S.called (X:=[]) hC
     replace g38:=g38.mono hs
     replace g41:=g41.mono hs
     replace g140:=g140.mono hs
     replace g83:=g83.mono hs
     replace g86:=g86.mono hs
     replace g0_4:=g0_4.mono hs
     replace g0_5:=g0_5.mono hs
     replace g0_6:=g0_6.mono hs
     refine plc E (.r 9 5 .nil) (fun a E=>pld ?_)
     replace S:=S.pm [] 2
     exact J174 _ (by omega) _ (decide ((t162.length:Int)>(t152.length:Int))) F164 _ _ E .of S g83 g86 g38 g41 g140 g0_4 g0_5 g0_6 H
    refine wp_exit ?_
    refine hK134 _ _ (sq fun K180 hK180=>pl0 ?_)
    obtain ⟨t182,h183,H⟩:=bd H
    refine ple E (.cl en17 (qAs.calls k144 _ _ _ S.own.sub h183)) ?_
    rintro _ u181 a ⟨_,rfl,hC⟩ E
    replace S:=S.lent hC
    refine plc E (.r 1 1 .nil) (fun a E=>pld (hK180 _ _ (wp_ret ?_)))
    replace S:=S.pm [] 4
    obtain rfl:=si H
    exact rt1 E ⟨_,rfl,_,rfl,S⟩
   refine drawn 27 ⟨[],[],fun q=>False⟩ mixed rfl (by kernel_rfl) (fun hst=>?_)
   replace S:=S.drew
   have hb46:=S.ba 1
   have hb2:=S.ba 2
   refine mny 24 hst E (.bn 0 0 7 hb46<|.bn 1 0 7 hb2<|.r 2 1<|.nil) (fun a E=>?_)
   obtain ⟨t101,h102,H⟩:=bd H
   refine on1 3 E (.cl en30 (qAa.calls k21 x y _ _ _ _ _ _ _ _ _ _ _ S.own.sub g0_4 g0_5 g0_6 g1_0 h102)) ?_
   rintro _ u100 a ⟨F103,A104,c105,A107,c108,A110,c111,rfl,hC,g106,g109,g112⟩ E
   refine ⟨.of hC.agr,?_⟩
   have hs:=hC.sub
   replace S:=S.called (X:=[]) hC
   replace g1_0:=g1_0.mono hs
   replace g83:=g83.mono hs
   replace g86:=g86.mono hs
   replace g38:=g38.mono hs
   replace g41:=g41.mono hs
   replace g0_4:=g0_4.mono hs
   replace g0_5:=g0_5.mono hs
   replace g0_6:=g0_6.mono hs
   obtain ⟨t114,h115,H⟩:=bd H
   refine on1 4 E (.cl en16 (qi.calls k21 t33 t101 _ _ _ _ _ _ _ _ _ _ _ _ _ _ _ (Sub.refl _) (g38.mono S.own.sub) (g41.mono S.own.sub) (S.rd_at (i:=4) rfl) (g106.mono S.own.sub) (g109.mono S.own.sub) (g112.mono S.own.sub) h115)) ?_
   rintro _ u113 a ⟨_,rfl,hC⟩ E
   refine ⟨.of hC.agr,?_⟩
   replace S:=S.lent hC
   refine mny 20 hst E (.r 5 2 .nil) (fun a E=>?_)
   rcases sp H with ⟨c116,H⟩ | ⟨c116,H⟩
   ·
    replace E:=E.btn 55 c116
    have hb46:=S.ba 1
    have hb73:=S.ba 0
    refine mny 18 hst E (.bn 7 0 7 hb46<|.bn 8 0 7 hb73<|.nil) (fun a E=>?_)
    obtain ⟨t118,h119,H⟩:=bd H
    refine on1 9 E (.cl en16 (qi.calls k21 t33 t75 _ _ _ _ _ _ _ _ _ _ _ _ _ _ _ (Sub.refl _) (g38.mono S.own.sub) (g41.mono S.own.sub) (S.rd_at (i:=4) rfl) (g83.mono S.own.sub) (g86.mono S.own.sub) (S.rd_at (i:=3) rfl) h119)) ?_
    rintro _ u117 a ⟨_,rfl,hC⟩ E
    refine ⟨.of hC.agr,?_⟩
    replace S:=S.lent hC
    refine mny 14 hst E (.r 10 3 .nil) (fun a E=>?_)
    rcases sp H with ⟨c120,H⟩ | ⟨c120,H⟩
    ·
     replace E:=E.btn 61 c120
     have hb46:=S.ba 1
     refine mny 13 hst E (.bn 13 0 7 hb46 .nil) (fun a E=>?_)
     obtain ⟨t122,h123,H⟩:=bd H
     refine on1 14 E (.cl en19 (qc.calls k21 t33 _ _ _ _ _ _ _ _ _ (Sub.refl _) (g38.mono S.own.sub) (g41.mono S.own.sub) (S.rd_at (i:=4) rfl) h123)) ?_
     rintro _ u121 a ⟨_,rfl,hC⟩ E
     refine ⟨.of hC.agr,?_⟩
     replace S:=S.lent hC
     refine mny 9 hst E (.r 15 3 .nil) (fun a E=>?_)
     rcases sp H with ⟨c124,H⟩ | ⟨c124,H⟩
     ·
      replace E:=E.btn 66 c124
      have hb46:=S.ba 1
      have hb2:=S.ba 2
      refine mny 0 hst E (.r 18 1<|.b 19 0 hb46<|.r 20 1<|.b 21 0 hb2<|.r 22 5<|.nil) (fun a E=>?_)
      refine dn ?_
      exact J130 _ (by omega) _ (!(t33.f0 == (w64 (x.f0+(y.length:Int))))) F103 _ _ E .of S g83 g86 g38 g41 g0_4 g0_5 g0_6 H
     replace E:=E.bfn 66 c124
     refine mny 0 hst E (.r 18 9 .nil) (fun a E=>?_)
     refine dn ?_
     exact J130 _ (by omega) _ true F103 _ _ E .of S g83 g86 g38 g41 g0_4 g0_5 g0_6 H
    replace E:=E.bfn 61 c120
    refine mny 0 hst E (.r 13 14 .nil) (fun a E=>?_)
    refine dn ?_
    exact J130 _ (by omega) _ true F103 _ _ E .of S g83 g86 g38 g41 g0_4 g0_5 g0_6 H
   replace E:=E.bfn 55 c116
   refine mny 0 hst E (.r 7 20 .nil) (fun a E=>?_)
   refine dn ?_
   exact J130 _ (by omega) _ true F103 _ _ E .of S g83 g86 g38 g41 g0_4 g0_5 g0_6 H
  refine meet2 (fun a w'=>∃(G:NV)(b73:Nat)(A69:OA)(c70:Nat)(A63:OA)(c64:Nat)(A66:OA)(c67:Nat)(F92:World),Env 100 G a∧At G [(1,.slice A1_0 y.length c1_0),(3,.pointer (pb b2)),(8,.pointer (pb b46)),(9,.pointer (pb b73)),(44,.agg #[iv t59.f0,iv t59.f1,iv t59.f2,iv t59.f3,.slice A63 t59.f4.length c64,.slice A66 t59.f5.length c67,.slice A69 t59.f6.length c70]),(47,.slice A55 ((cutl y ((w64 z).tmod (w64 ((y.length:Int)+1))) (y.length:Int)).length) c56)]∧Sm W F w' F92 [box b73 #[iv 0,iv 0,iv 0,iv 0,.slice none 0 0,.slice none 0 0,.slice none 0 0] 26,box b46 #[iv t33.f0,iv t33.f1,iv t33.f2,iv t33.f3,.slice A36 t33.f4.length c37,.slice A39 t33.f5.length c40,.slice A42 t33.f6.length c43] 26,box b2 #[iv x.f0,iv x.f1,iv x.f2,iv x.f3,.slice A0_4 x.f4.length c0_4,.slice A0_5 x.f5.length c0_5,.slice A0_6 x.f6.length c0_6] 26,row qC.k 49 (.slice A69 t59.f6.length c70) t59.f6,row qC.k 49 (.slice A42 t33.f6.length c43) t33.f6]∧Rd qK.k F92 A1_0 c1_0 y∧Rd qA.k F92 A63 c64 t59.f4∧Rd qD.k F92 A66 c67 t59.f5∧Rd qK.k F92 A55 c56 (cutl y ((w64 z).tmod (w64 ((y.length:Int)+1))) (y.length:Int))∧Rd qA.k F92 A36 c37 t33.f4∧Rd qD.k F92 A39 c40 t33.f5∧Rd qA.k F92 A0_4 c0_4 x.f4∧Rd qD.k F92 A0_5 c0_5 x.f5∧Rd qC.k F92 A0_6 c0_6 x.f6) 2 767 ?_ (fun hJ=>?_)
  ·
   rintro a u93 ⟨G,b73,A69,c70,A63,c64,A66,c67,F92,E,A,S,g1_0,g65,g68,g57,g38,g41,g0_4,g0_5,g0_6⟩
   obtain ⟨J,E⟩:=E.at A
   replace S:=S.front 3 rfl
   obtain ⟨F77,hs,g78,S⟩:=S.give
   replace g1_0:=g1_0.mono hs
   replace g65:=g65.mono hs
   replace g68:=g68.mono hs
   replace g57:=g57.mono hs
   replace g38:=g38.mono hs
   replace g41:=g41.mono hs
   replace g0_4:=g0_4.mono hs
   replace g0_5:=g0_5.mono hs
   replace g0_6:=g0_6.mono hs
   refine on1 8 E (.cl en29 (qBD.calls k21 t59 (cutl y ((w64 z).tmod (w64 ((y.length:Int)+1))) (y.length:Int)) _ _ _ _ _ _ _ _ _ _ _ S.own.sub g65 g68 g78 g57 h76)) ?_
   rintro _ u79 a ⟨F80,A81,c82,A84,c85,A87,c88,rfl,hC,g83,g86⟩ E
   refine ⟨.of hC.agr,?_⟩
   have hs:=hC.sub
   replace S:=S.called (X:=[]) hC
   replace g1_0:=g1_0.mono hs
   replace g65:=g65.mono hs
   replace g68:=g68.mono hs
   replace g78:=g78.mono hs
   replace g57:=g57.mono hs
   replace g38:=g38.mono hs
   replace g41:=g41.mono hs
   replace g0_4:=g0_4.mono hs
   replace g0_5:=g0_5.mono hs
   replace g0_6:=g0_6.mono hs
   replace S:=S.pm [1,2,3,0] 4
   exact hJb _ _ ⟨_,b73,A87,c88,A81,c82,A84,c85,F80,E,.of,S,g1_0,g83,g86,g38,g41,g0_4,g0_5,g0_6⟩
  refine pk2 4 9 ?_ ?_
  ·
   refine pk1 4 E (.cl en29 (qBD.calls k21 x (cutl y 0 ((w64 z).tmod (w64 ((y.length:Int)+1)))) _ _ _ _ _ _ _ _ _ _ _ S.own.sub g0_4 g0_5 g0_6 g53 h60)) ?_
   rintro _ u61 a ⟨F62,A63,c64,A66,c67,A69,c70,rfl,hC,g65,g68⟩ E
   refine ⟨.of hC.agr,?_⟩
   have hs:=hC.sub
   replace S:=S.called (X:=[]) hC
   replace g1_0:=g1_0.mono hs
   replace g0_4:=g0_4.mono hs
   replace g0_5:=g0_5.mono hs
   replace g0_6:=g0_6.mono hs
   replace g38:=g38.mono hs
   replace g41:=g41.mono hs
   replace g53:=g53.mono hs
   replace g57:=g57.mono hs
   refine pk2 9 8 ?_ ?_
   ·
    refine pk1 9 E (.al (t:=26) S [iv 0,iv 0,iv 0,iv 0,.slice none 0 0,.slice none 0 0,.slice none 0 0]) ?_
    rintro _ u74 a ⟨b73,rfl,hb73,S,hg⟩ E
    refine ⟨.of hg,?_⟩
    replace S:=S.pm [0,2,4,1,3] 5
    exact hJ _ _ ⟨_,b73,A69,c70,A63,c64,A66,c67,F62,E,.of,S,g1_0,g65,g68,g57,g38,g41,g0_4,g0_5,g0_6⟩
   obtain ⟨F77,hs,g78,S⟩:=S.give
   replace g1_0:=g1_0.mono hs
   replace g0_4:=g0_4.mono hs
   replace g0_5:=g0_5.mono hs
   replace g0_6:=g0_6.mono hs
   replace g38:=g38.mono hs
   replace g41:=g41.mono hs
   replace g53:=g53.mono hs
   replace g65:=g65.mono hs
   replace g68:=g68.mono hs
   replace g57:=g57.mono hs
   refine pk1 8 E (.cl en29 (qBD.calls k21 t59 (cutl y ((w64 z).tmod (w64 ((y.length:Int)+1))) (y.length:Int)) _ _ _ _ _ _ _ _ _ _ _ S.own.sub g65 g68 g78 g57 h76)) ?_
   rintro _ u79 a ⟨F80,A81,c82,A84,c85,A87,c88,rfl,hC,g83,g86⟩ E
   refine ⟨.of hC.agr,?_⟩
   have hs:=hC.sub
   replace S:=S.called (X:=[]) hC
   replace g1_0:=g1_0.mono hs
   replace g0_4:=g0_4.mono hs
   replace g0_5:=g0_5.mono hs
   replace g0_6:=g0_6.mono hs
   replace g38:=g38.mono hs
   replace g41:=g41.mono hs
   replace g53:=g53.mono hs
   replace g65:=g65.mono hs
   replace g68:=g68.mono hs
   replace g78:=g78.mono hs
   replace g57:=g57.mono hs
   refine on1 9 E (.al (t:=26) S [iv 0,iv 0,iv 0,iv 0,.slice none 0 0,.slice none 0 0,.slice none 0 0]) ?_
   rintro _ u74 a ⟨b73,rfl,hb73,S,hg⟩ E
   refine ⟨.of hg,?_⟩
   replace S:=S.pm [0,2,4,1,3] 5
   exact hJb _ _ ⟨_,b73,A87,c88,A81,c82,A84,c85,F80,E,.of,S,g1_0,g83,g86,g38,g41,g0_4,g0_5,g0_6⟩
  refine pk1 9 E (.al (t:=26) S [iv 0,iv 0,iv 0,iv 0,.slice none 0 0,.slice none 0 0,.slice none 0 0]) ?_
  rintro _ u74 a ⟨b73,rfl,hb73,S,hg⟩ E
  refine ⟨.of hg,?_⟩
  refine on1 4 E (.cl en29 (qBD.calls k21 x (cutl y 0 ((w64 z).tmod (w64 ((y.length:Int)+1)))) _ _ _ _ _ _ _ _ _ _ _ S.own.sub g0_4 g0_5 g0_6 g53 h60)) ?_
  rintro _ u61 a ⟨F62,A63,c64,A66,c67,A69,c70,rfl,hC,g65,g68⟩ E
  refine ⟨.of hC.agr,?_⟩
  have hs:=hC.sub
  replace S:=S.called (X:=[]) hC
  replace g1_0:=g1_0.mono hs
  replace g0_4:=g0_4.mono hs
  replace g0_5:=g0_5.mono hs
  replace g0_6:=g0_6.mono hs
  replace g38:=g38.mono hs
  replace g41:=g41.mono hs
  replace g53:=g53.mono hs
  replace g57:=g57.mono hs
  replace S:=S.pm [1,2,4,0,3] 5
  exact hJ _ _ ⟨_,b73,A69,c70,A63,c64,A66,c67,F62,E,.of,S,g1_0,g65,g68,g57,g38,g41,g0_4,g0_5,g0_6⟩
 refine pl0 (plc E (.bn 0 0 7 hb2 .nil) (fun a E=>?_))
 obtain ⟨t7,h8,H⟩:=bd H
 refine ple E (.cl en20 (qW.calls k x _ _ _ _ _ _ _ _ _ S.own.sub g0_4 g0_5 g0_6 h8)) ?_
 rintro _ u6 a ⟨_,rfl,hC⟩ E
 replace S:=S.lent hC
 refine plc E (.r 2 2 .nil) (fun a E=>?_)
 rcases sp H with ⟨c9,H⟩ | ⟨c9,H⟩
 ·
  replace E:=E.btn 15 c9
  refine plc E (.r 4 1 .nil) (fun a E=>?_)
  obtain ⟨t11,h12,H⟩:=bd H
  refine ple E (.cl en27 (qt.calls k y _ _ _ _ _ S.own.sub g1_0 h12)) ?_
  rintro _ u10 a ⟨_,rfl,hC⟩ E
  replace S:=S.lent hC
  refine plc E (.r 6 3 .nil) (fun a E=>?_)
  rcases sp H with ⟨c13,H⟩ | ⟨c13,H⟩
  ·
   replace E:=E.btn 20 c13
   have hb2:=S.ba 0
   refine plc E (.bn 9 0 7 hb2 .nil) (fun a E=>?_)
   obtain ⟨t15,h16,H⟩:=bd H
   refine ple E (.cl en19 (qc.calls k x _ _ _ _ _ _ _ _ _ S.own.sub g0_4 g0_5 g0_6 h16)) ?_
   rintro _ u14 a ⟨_,rfl,hC⟩ E
   replace S:=S.lent hC
   refine plc E (.r 11 3 .nil) (fun a E=>?_)
   rcases sp H with ⟨c17,H⟩ | ⟨c17,H⟩
   ·
    replace E:=E.btn 25 c17
    have hb2:=S.ba 0
    refine plc E (.r 14 1<|.b 15 0 hb2<|.r 16 2<|.nil) (fun a E=>pld ?_)
    exact J22 _ (by omega) _ (decide (x.f0>1000000)) _ _ E .of S H
   replace E:=E.bfn 25 c17
   refine plc E (.r 14 4 .nil) (fun a E=>pld ?_)
   exact J22 _ (by omega) _ true _ _ E .of S H
  replace E:=E.bfn 20 c13
  refine plc E (.r 9 9 .nil) (fun a E=>pld ?_)
  exact J22 _ (by omega) _ true _ _ E .of S H
 replace E:=E.bfn 15 c9
 refine plc E (.r 4 14 .nil) (fun a E=>pld ?_)
 exact J22 _ (by omega) _ true _ _ E .of S H
end Go.Proofs.YtpohepinmjmbkaaGreat.MF
