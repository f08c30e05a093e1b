import Derived.Test.YtpohepinmjmbkaaGreatQK1
namespace Go.Proofs.YtpohepinmjmbkaaGreat.QK
open Go Go.RowKit Go.Proofs.YtpohepinmjmbkaaGreat.Sl
set_option linter.unusedVariables false
set_option linter.unusedSimpArgs false
set_option maxHeartbeats 4000000
set_option maxRecDepth 100000
mutual
def qAf.l11:Nat→qG→Int→Option Int
 | 0,_,_=>none
 | k+1,x,x10=>if x10<(x.f6.length:Int) then (if 0≤x10∧x10<(x.f6.length:Int) then ((qAq.f ((nth qC.z x.f6 x10).f0) 0 x.f0).bind fun t33=>(if t33=true then ((qAQ.f k x (nth qC.z x.f6 x10)).bind fun t37=>(qAf.j40 k x x10 (!t37))) else (qAf.j40 k x x10 true))) else (none)) else (some 0)
def qAf.j40:Nat→qG→Int→Bool→Option Int
 | 0,_,_,_=>none
 | k+1,x,x10,y39=>if y39=true then (some 1) else (qAf.l11 k x (w64 (x10+1)))
end
theorem qAf.l11_s k x x10:type_of% (qAf.l11.eq_2 x x10 k):=qAf.l11.eq_2 x x10 k
theorem qAf.j40_s k x x10 y39:type_of% (qAf.j40.eq_2 x x10 y39 k):=qAf.j40.eq_2 x x10 y39 k
def qAf.f(k:Nat)(x:qG):Option Int:=if (x.f6.length:Int)=x.f3 then (qAf.l11 k x 0) else (some 1)
def qAf.Post(W F:World)(r:Int)(v:Value)(w':World):Prop:=∃(F':World),v=iv r∧Sm W F w' F' []
theorem qAf.calls(k:Nat)(x:qG)(A0_4:OA)(c0_4:Nat)(A0_5:OA)(c0_5:Nat)(A0_6:OA)(c0_6:Nat)(r:Int)(W F:World)(hown:Sub F W)(g0_4:Rd qA.k F A0_4 c0_4 x.f4)(g0_5:Rd qE.k F A0_5 c0_5 x.f5)(g0_6:Rd qC.k F A0_6 c0_6 x.f6)(H:qAf.f k x=some r):
    Cr 82 #[.agg #[iv x.f0,iv x.f1,iv x.f2,iv x.f3,.slice A0_4 x.f4.length c0_4,.slice A0_5 x.f5.length c0_5,.slice A0_6 x.f6.length c0_6]] W (qAf.Post W F r):=by
 have S:=sT hown
 unfold qAf.f at H
 refine ent 31 rfl rfl rfl (fun a E=>?_)
 refine sq fun K1 hK1=>pl0 (plx (t:=26) E S [iv x.f0,iv x.f1,iv x.f2,iv x.f3,.slice A0_4 x.f4.length c0_4,.slice A0_5 x.f5.length c0_5,.slice A0_6 x.f6.length c0_6] fun b2 u3 hb2 S a E=>plc E (.r 1 1 .nil) (fun a E=>pld (hK1 _ _ (sq fun K4 hK4=>rg E (.r 0 1<|.b 1 6 hb2<|.r 2 2<|.b 4 3 hb2<|.r 5 1<|.nil) fun a E=>(E.ikn 10 H (fun c6 E H=>?_) fun c6 E H=>?_)))))
 refine wp_skip (hK4 _ _ (sq fun K8 hK8=>rg E (.r 0 1<|.b 1 6 hb2<|.r 2 2<|.nil) fun a E=>(wp_block ?_)))
 refine wp_loop_ghost (fun kq12 a w'=>∃(G:NV)(x10:Int),kq12≤k∧Env 31 G a∧At G [(1,.pointer (pb b2)),(12,.slice A0_6 x.f6.length c0_6),(13,iv (x.f6.length:Int)),(14,iv x10)]∧Sm W F w' F [box b2 #[iv x.f0,iv x.f1,iv x.f2,iv x.f3,.slice A0_4 x.f4.length c0_4,.slice A0_5 x.f5.length c0_5,.slice A0_6 x.f6.length c0_6] 26]∧qAf.l11 kq12 x x10=some r) k ⟨_,0,Nat.le_refl _,E,.of,S,H⟩ ?_
 rintro kq12 a u14 ⟨G,x10,hkq,E,A,S,H⟩
 obtain _ | k13:=kq12
 exact zz H
 rw [qAf.l11_s]at H
 obtain ⟨J,E⟩:=E.at A
 refine rr E fun a E=>(sq fun K16 hK16=>E.ik 15 H (fun c17 E H=>?_) fun c17 E H=>?_)
 refine wp_skip (hK16 _ _ (sq fun K18 hK18=>wp_block (sq fun K19 hK19=>pl0 ?_)))
 obtain ⟨c20,H⟩:=gd H
 have hE_:=E
 obtain ⟨ad21,rfl⟩:=g0_6.addr c20.1 c20.2
 replace E:=hE_
 obtain ⟨cs23,⟨A25,c26,rfl,g27⟩,hc24⟩:=g0_6.el qC.z x10 c20.1 c20.2
 refine plc E (.x 0 c20<|.cs 1 (S.fcs hc24)<|.nil) (fun a E=>pla (t:=49) E S [iv 0,.slice none 0 0] fun b28 u29 hb28 S a E=>pls E S [iv ((nth qC.z x.f6 x10).f0),.slice A25 (((nth qC.z x.f6 x10).f1).length) c26] fun u30 hb28 S a E=>pld (hK19 _ _ (sq fun K31 hK31=>?_)))
 have J43:∀ kq41,kq41≤k13→∀(G:NV)(y39:Bool)(a:Act)(w':World),Env 31 G a→At G [(1,.pointer (pb b2)),(12,.slice (some ad21) x.f6.length c0_6),(13,iv (x.f6.length:Int)),(14,iv x10),(29,.bool y39)]→Sm W F w' F [box b28 #[iv ((nth qC.z x.f6 x10).f0),.slice A25 (((nth qC.z x.f6 x10).f1).length) c26] 49,box b2 #[iv x.f0,iv x.f1,iv x.f2,iv x.f3,.slice A0_4 x.f4.length c0_4,.slice A0_5 x.f5.length c0_5,.slice (some ad21) x.f6.length c0_6] 26]→qAf.j40 kq41 x x10 y39=some r→K31 a w':=by
  intro kq41 hkq G y39 a u44 E A S H
  obtain _ | k42:=kq41
  exact zz H
  rw [qAf.j40_s]at H
  obtain ⟨J,E⟩:=E.at A
  refine hK31 _ _ (E.ib 29 H (fun c45 E H=>?_) fun c45 E H=>?_)
  refine rr E fun a E=>(wp_ret (qCB (qCA (qCA (qCB (qCA ?_))))))
  replace S:=S.pm [] 2
  obtain rfl:=si H
  exact rt1 E ⟨_,rfl,_,rfl,S⟩
  refine wp_skip ?_
  refine qCC ?_
  refine hK18 _ _ (pl0 (plc E (.r 0 2 .nil) (fun a E=>pld ?_)))
  replace S:=S.tail
  exact qCD ⟨k42,by omega,_,(w64 (x10+1)),by omega,E,.of,S,H⟩
 refine pl0 ?_
 have hb2:=S.ba 1
 refine plc E (.r 0 1<|.b 1 0 hb28<|.r 2 1<|.b 3 0 hb2<|.nil) (fun a E=>?_)
 obtain ⟨t33,h34,H⟩:=bd H
 refine plq E S en70 (qAq.calls ((nth qC.z x.f6 x10).f0) 0 x.f0 _ _ _ S.own.sub h34) fun u32 S a E=>plc E (.r 5 2 .nil) (fun a E=>E.fbn 24 H (fun c35 E H=>?_) fun c35 E H=>?_)
 refine plc E (.bn 7 0 7 (S.ba 1)<|.bn 8 0 2 (S.ba 0)<|.nil) (fun a E=>?_)
 obtain ⟨t37,h38,H⟩:=bd H
 refine plq E S en142 (qAQ.calls k13 x (nth qC.z x.f6 x10) _ _ _ _ _ _ _ _ _ _ _ S.own.sub g0_4 g0_5 g0_6 g27 h38) fun u36 S a E=>plc E (.r 10 2 .nil) (fun a E=>pld ?_)
 exact J43 _ (by omega) _ (!t37) _ _ E .of S H
 refine plc E (.r 7 5 .nil) (fun a E=>pld ?_)
 exact J43 _ (by omega) _ true _ _ E .of S H
 refine wp_exit ?_
 refine hK8 _ _ (rr E fun a E=>(wp_ret ?_))
 replace S:=S.tail
 obtain rfl:=si H
 exact rt1 E ⟨_,rfl,_,rfl,S⟩
 refine rr E fun a E=>(wp_ret (qCA ?_))
 replace S:=S.tail
 obtain rfl:=si H
 exact rt1 E ⟨_,rfl,_,rfl,S⟩
mutual
def qAD.j26:Nat→qG→Bool→Option Int
 | 0,_,_=>none
 | k+1,x,y25=>if y25=true then (some 1) else (qAD.l36 k x 0)
def qAD.l36:Nat→qG→Int→Option Int
 | 0,_,_=>none
 | k+1,x,x35=>if x35<(x.f5.length:Int) then (if 0≤x35∧x35<(x.f5.length:Int) then ((qAq.f ((nth qE.z x.f5 x35).f0) 0 (w64 (x.f3 - 1))).bind fun t58=>(if t58=true then (if x35>0 then (if 0≤(w64 (x35 - 1))∧(w64 (x35 - 1))<(x.f5.length:Int) then (if (nth qE.z x.f5 x35).f0≤(nth qE.z x.f5 (w64 (x35 - 1))).f0 then (qAD.j85 k x x35 true) else ((qAq.f (((nth qE.z x.f5 x35).f1).length:Int) 1 x.f1).bind fun t71=>(if t71=true then ((qAP.f k x.f4 ((nth qE.z x.f5 x35).f1)).bind fun t75=>(qAD.j85 k x x35 (!t75))) else (qAD.j85 k x x35 true)))) else (none)) else ((qAq.f (((nth qE.z x.f5 x35).f1).length:Int) 1 x.f1).bind fun t78=>(if t78=true then ((qAP.f k x.f4 ((nth qE.z x.f5 x35).f1)).bind fun t82=>(qAD.j85 k x x35 (!t82))) else (qAD.j85 k x x35 true)))) else (qAD.j85 k x x35 true))) else (none)) else ((qAf.f k x).bind fun t94=>(some t94))
def qAD.j85:Nat→qG→Int→Bool→Option Int
 | 0,_,_,_=>none
 | k+1,x,x35,y84=>if y84=true then (some 1) else (qAD.l36 k x (w64 (x35+1)))
end
theorem qAD.j26_s k x y25:type_of% (qAD.j26.eq_2 x y25 k):=qAD.j26.eq_2 x y25 k
theorem qAD.l36_s k x x35:type_of% (qAD.l36.eq_2 x x35 k):=qAD.l36.eq_2 x x35 k
theorem qAD.j85_s k x x35 y84:type_of% (qAD.j85.eq_2 x x35 y84 k):=qAD.j85.eq_2 x x35 y84 k
def qAD.f(k:Nat)(x:qG):Option Int:=(qAq.f x.f0 0 2147483647).bind fun t7=>(if t7=true then ((qAq.f x.f1 1 3).bind fun t11=>(if t11=true then ((qAq.f x.f2 1 x.f1).bind fun t15=>(if t15=true then ((qAq.f x.f3 1 8).bind fun t19=>(if t19=true then ((qAL.f k x.f4).bind fun t23=>(qAD.j26 k x (!(t23 == 0)))) else (qAD.j26 k x true))) else (qAD.j26 k x true))) else (qAD.j26 k x true))) else (qAD.j26 k x true))
def qAD.Post(W F:World)(r:Int)(v:Value)(w':World):Prop:=∃(F':World),v=iv r∧Sm W F w' F' []
theorem qAD.calls(k:Nat)(x:qG)(A0_4:OA)(c0_4:Nat)(A0_5:OA)(c0_5:Nat)(A0_6:OA)(c0_6:Nat)(r:Int)(W F:World)(hown:Sub F W)(g0_4:Rd qA.k F A0_4 c0_4 x.f4)(g0_5:Rd qE.k F A0_5 c0_5 x.f5)(g0_6:Rd qC.k F A0_6 c0_6 x.f6)(H:qAD.f k x=some r):
    Cr 32 #[.agg #[iv x.f0,iv x.f1,iv x.f2,iv x.f3,.slice A0_4 x.f4.length c0_4,.slice A0_5 x.f5.length c0_5,.slice A0_6 x.f6.length c0_6]] W (qAD.Post W F r):=by
 have S:=sT hown
 unfold qAD.f at H
 refine ent 86 rfl rfl rfl (fun a E=>?_)
 refine sq fun K1 hK1=>pl0 (plx (t:=26) E S [iv x.f0,iv x.f1,iv x.f2,iv x.f3,.slice A0_4 x.f4.length c0_4,.slice A0_5 x.f5.length c0_5,.slice A0_6 x.f6.length c0_6] fun b2 u3 hb2 S a E=>plc E (.r 1 1 .nil) (fun a E=>pld (hK1 _ _ (sq fun K4 hK4=>sq fun K5 hK5=>?_))))
 have J29:∀ kq27,kq27≤k→∀(G:NV)(y25:Bool)(a:Act)(w':World),Env 86 G a→At G [(1,.pointer (pb b2)),(34,.bool y25)]→Sm W F w' F [box b2 #[iv x.f0,iv x.f1,iv x.f2,iv x.f3,.slice A0_4 x.f4.length c0_4,.slice A0_5 x.f5.length c0_5,.slice A0_6 x.f6.length c0_6] 26]→qAD.j26 kq27 x y25=some r→K5 a w':=by
  intro kq27 hkq G y25 a u30 E A S H
  obtain _ | k28:=kq27
  exact zz H
  rw [qAD.j26_s]at H
  obtain ⟨J,E⟩:=E.at A
  refine hK5 _ _ (E.ib 34 H (fun c31 E H=>?_) fun c31 E H=>?_)
  refine rr E fun a E=>(wp_ret (qCA ?_))
  replace S:=S.tail
  obtain rfl:=si H
  exact rt1 E ⟨_,rfl,_,rfl,S⟩
  refine wp_skip (hK4 _ _ (sq fun K33 hK33=>sq fun K34 hK34=>pl0 ?_))
  have hb2:=S.ba 0
  refine plc E (.r 0 1<|.b 1 5 hb2<|.r 2 2<|.nil) (fun a E=>pld (hK34 _ _ (wp_block ?_)))
  refine wp_loop_ghost (fun kq37 a w'=>∃(G:NV)(x35:Int),kq37≤k28∧Env 86 G a∧At G [(1,.pointer (pb b2)),(36,.slice A0_5 x.f5.length c0_5),(37,iv (x.f5.length:Int)),(38,iv x35)]∧Sm W F w' F [box b2 #[iv x.f0,iv x.f1,iv x.f2,iv x.f3,.slice A0_4 x.f4.length c0_4,.slice A0_5 x.f5.length c0_5,.slice A0_6 x.f6.length c0_6] 26]∧qAD.l36 kq37 x x35=some r) k28 ⟨_,0,Nat.le_refl _,E,.of,S,H⟩ ?_
  rintro kq37 a u39 ⟨G,x35,hkq,E,A,S,H⟩
  obtain _ | k38:=kq37
  exact zz H
  rw [qAD.l36_s]at H
  obtain ⟨J,E⟩:=E.at A
  refine rr E fun a E=>(sq fun K41 hK41=>E.ik 39 H (fun c42 E H=>?_) fun c42 E H=>?_)
  refine wp_skip (hK41 _ _ (sq fun K43 hK43=>wp_block (sq fun K44 hK44=>pl0 ?_)))
  obtain ⟨c45,H⟩:=gd H
  have hE_:=E
  obtain ⟨ad46,rfl⟩:=g0_5.addr c45.1 c45.2
  replace E:=hE_
  obtain ⟨cs48,⟨A50,c51,rfl,g52⟩,hc49⟩:=g0_5.el qE.z x35 c45.1 c45.2
  refine plc E (.r 0 1<|.x 1 c45<|.cs 2 (S.fcs hc49)<|.nil) (fun a E=>pla (t:=97) E S [iv 0,.slice none 0 0] fun b53 u54 hb53 S a E=>plc E (.r 4 1 .nil) (fun a E=>pls E S [iv ((nth qE.z x.f5 x35).f0),.slice A50 (((nth qE.z x.f5 x35).f1).length) c51] fun u55 hb53 S a E=>pld (hK44 _ _ (sq fun K56 hK56=>?_))))
  have J88:∀ kq86,kq86≤k38→∀(G:NV)(y84:Bool)(a:Act)(w':World),Env 86 G a→At G [(1,.pointer (pb b2)),(36,.slice (some ad46) x.f5.length c0_5),(37,iv (x.f5.length:Int)),(38,iv x35),(82,.bool y84)]→Sm W F w' F [box b53 #[iv ((nth qE.z x.f5 x35).f0),.slice A50 (((nth qE.z x.f5 x35).f1).length) c51] 97,box b2 #[iv x.f0,iv x.f1,iv x.f2,iv x.f3,.slice A0_4 x.f4.length c0_4,.slice (some ad46) x.f5.length c0_5,.slice A0_6 x.f6.length c0_6] 26]→qAD.j85 kq86 x x35 y84=some r→K56 a w':=by
   intro kq86 hkq G y84 a u89 E A S H
   obtain _ | k87:=kq86
   exact zz H
   rw [qAD.j85_s]at H
   obtain ⟨J,E⟩:=E.at A
   refine hK56 _ _ (E.ib 82 H (fun c90 E H=>?_) fun c90 E H=>?_)
   refine rr E fun a E=>(wp_ret (qCB (qCA (qCA (qCB (qCA ?_))))))
   replace S:=S.pm [] 2
   obtain rfl:=si H
   exact rt1 E ⟨_,rfl,_,rfl,S⟩
   refine wp_skip ?_
   refine qCC ?_
   refine hK43 _ _ (pl0 (plc E (.r 0 2 .nil) (fun a E=>pld ?_)))
   replace S:=S.tail
   exact qCD ⟨k87,by omega,_,(w64 (x35+1)),by omega,E,.of,S,H⟩
  refine drawn 40 ⟨[],[],fun q=>False⟩ mixed rfl (by kernel_rfl) (fun hst=>?_)
  replace S:=S.drew
  have hb53:=S.ba 0
  have hb2:=S.ba 1
  refine mny 35 hst E (.r 0 1<|.b 1 0 hb53<|.r 2 1<|.b 3 3 hb2<|.r 4 1<|.nil) (fun a E=>?_)
  obtain ⟨t58,h59,H⟩:=bd H
  refine on1 5 E (.cl en70 (qAq.calls ((nth qE.z x.f5 x35).f0) 0 (w64 (x.f3 - 1)) _ _ _ S.own.sub h59)) ?_
  rintro _ u57 a ⟨_,rfl,hC⟩ E
  refine ⟨.of hC.agr,?_⟩
  replace S:=S.lent hC
  refine mny 32 hst E (.r 6 2 .nil) (fun a E=>?_)
  refine E.fbn 50 H (fun c60 E H=>?_) fun c60 E H=>?_
  refine mny 29 hst E (.r 8 3 .nil) (fun a E=>?_)
  refine E.fk 53 H (fun c61 E H=>?_) fun c61 E H=>?_
  have hb53:=S.ba 0
  have hb2:=S.ba 1
  obtain ⟨c62,H⟩:=gd H
  obtain ⟨cs64,⟨A66,c67,rfl,g68⟩,hc65⟩:=g0_5.el qE.z (w64 (x35 - 1)) c62.1 c62.2
  refine mny 16 hst E (.r 11 1<|.b 12 0 hb53<|.r 13 1<|.b 14 5 hb2<|.r 15 2<|.x 17 c62<|.r 18 1<|.c 19 (S.fc hc65 0)<|.r 20 4<|.nil) (fun a E=>?_)
  refine E.fk 66 H (fun c69 E H=>?_) fun c69 E H=>?_
  refine mny 0 hst E (.r 24 16 .nil) (fun a E=>?_)
  refine dn ?_
  exact J88 _ (by omega) _ true _ _ E .of S H
  refine mny 11 hst E (.r 24 1<|.b 25 1 hb53<|.r 26 2<|.b 28 1 hb2<|.nil) (fun a E=>?_)
  obtain ⟨t71,h72,H⟩:=bd H
  refine on1 29 E (.cl en70 (qAq.calls (((nth qE.z x.f5 x35).f1).length:Int) 1 x.f1 _ _ _ S.own.sub h72)) ?_
  rintro _ u70 a ⟨_,rfl,hC⟩ E
  refine ⟨.of hC.agr,?_⟩
  replace S:=S.lent hC
  refine mny 7 hst E (.r 30 3 .nil) (fun a E=>?_)
  refine E.fbn 75 H (fun c73 E H=>?_) fun c73 E H=>?_
  have hb2:=S.ba 1
  have hb53:=S.ba 0
  refine mny 3 hst E (.r 33 1<|.b 34 4 hb2<|.r 35 1<|.b 36 1 hb53<|.nil) (fun a E=>?_)
  obtain ⟨t75,h76,H⟩:=bd H
  refine on1 37 E (.cl en81 (qAP.calls k38 x.f4 ((nth qE.z x.f5 x35).f1) _ _ _ _ _ _ _ S.own.sub g0_4 g52 h76)) ?_
  rintro _ u74 a ⟨_,rfl,hC⟩ E
  refine ⟨.of hC.agr,?_⟩
  replace S:=S.lent hC
  refine mny 0 hst E (.r 38 2 .nil) (fun a E=>?_)
  refine dn ?_
  exact J88 _ (by omega) _ (!t75) _ _ E .of S H
  refine mny 0 hst E (.r 33 7 .nil) (fun a E=>?_)
  refine dn ?_
  exact J88 _ (by omega) _ true _ _ E .of S H
  have hb53:=S.ba 0
  have hb2:=S.ba 1
  refine mny 11 hst E (.r 11 14<|.b 25 1 hb53<|.r 26 2<|.b 28 1 hb2<|.nil) (fun a E=>?_)
  obtain ⟨t78,h79,H⟩:=bd H
  refine on1 29 E (.cl en70 (qAq.calls (((nth qE.z x.f5 x35).f1).length:Int) 1 x.f1 _ _ _ S.own.sub h79)) ?_
  rintro _ u77 a ⟨_,rfl,hC⟩ E
  refine ⟨.of hC.agr,?_⟩
  replace S:=S.lent hC
  refine mny 7 hst E (.r 30 3 .nil) (fun a E=>?_)
  refine E.fbn 75 H (fun c80 E H=>?_) fun c80 E H=>?_
  have hb2:=S.ba 1
  have hb53:=S.ba 0
  refine mny 3 hst E (.r 33 1<|.b 34 4 hb2<|.r 35 1<|.b 36 1 hb53<|.nil) (fun a E=>?_)
  obtain ⟨t82,h83,H⟩:=bd H
  refine on1 37 E (.cl en81 (qAP.calls k38 x.f4 ((nth qE.z x.f5 x35).f1) _ _ _ _ _ _ _ S.own.sub g0_4 g52 h83)) ?_
  rintro _ u81 a ⟨_,rfl,hC⟩ E
  refine ⟨.of hC.agr,?_⟩
  replace S:=S.lent hC
  refine mny 0 hst E (.r 38 2 .nil) (fun a E=>?_)
  refine dn ?_
  exact J88 _ (by omega) _ (!t82) _ _ E .of S H
  refine mny 0 hst E (.r 33 7 .nil) (fun a E=>?_)
  refine dn ?_
  exact J88 _ (by omega) _ true _ _ E .of S H
  refine mny 0 hst E (.r 8 32 .nil) (fun a E=>?_)
  refine dn ?_
  exact J88 _ (by omega) _ true _ _ E .of S H
  refine wp_exit ?_
  refine hK33 _ _ (sq fun K92 hK92=>pl0 (plc E (.bn 0 0 7 (S.ba 0) .nil) (fun a E=>?_)))
  obtain ⟨t94,h95,H⟩:=bd H
  refine plq E S en82 (qAf.calls k38 x _ _ _ _ _ _ _ _ _ S.own.sub g0_4 g0_5 g0_6 h95) fun u93 S a E=>plc E (.r 2 1 .nil) (fun a E=>pld (hK92 _ _ (wp_ret ?_)))
  replace S:=S.tail
  obtain rfl:=si H
  exact rt1 E ⟨_,rfl,_,rfl,S⟩
 refine pl0 (plc E (.r 0 1<|.b 1 0 hb2<|.nil) (fun a E=>?_))
 obtain ⟨t7,h8,H⟩:=bd H
 refine plq E S en70 (qAq.calls x.f0 0 2147483647 _ _ _ S.own.sub h8) fun u6 S a E=>plc E (.r 3 2 .nil) (fun a E=>E.fbn 9 H (fun c9 E H=>?_) fun c9 E H=>?_)
 have hb2:=S.ba 0
 refine plc E (.r 5 1<|.b 6 1 hb2<|.nil) (fun a E=>?_)
 obtain ⟨t11,h12,H⟩:=bd H
 refine plq E S en70 (qAq.calls x.f1 1 3 _ _ _ S.own.sub h12) fun u10 S a E=>plc E (.r 8 3 .nil) (fun a E=>E.fbn 15 H (fun c13 E H=>?_) fun c13 E H=>?_)
 have hb2:=S.ba 0
 refine plc E (.r 11 1<|.b 12 2 hb2<|.r 13 1<|.b 14 1 hb2<|.nil) (fun a E=>?_)
 obtain ⟨t15,h16,H⟩:=bd H
 refine plq E S en70 (qAq.calls x.f2 1 x.f1 _ _ _ S.own.sub h16) fun u14 S a E=>plc E (.r 16 3 .nil) (fun a E=>E.fbn 23 H (fun c17 E H=>?_) fun c17 E H=>?_)
 have hb2:=S.ba 0
 refine plc E (.r 19 1<|.b 20 3 hb2<|.nil) (fun a E=>?_)
 obtain ⟨t19,h20,H⟩:=bd H
 refine plq E S en70 (qAq.calls x.f3 1 8 _ _ _ S.own.sub h20) fun u18 S a E=>plc E (.r 22 3 .nil) (fun a E=>E.fbn 29 H (fun c21 E H=>?_) fun c21 E H=>?_)
 refine plc E (.r 25 1<|.b 26 4 (S.ba 0)<|.nil) (fun a E=>?_)
 obtain ⟨t23,h24,H⟩:=bd H
 refine plq E S en80 (qAL.calls k x.f4 _ _ _ _ _ S.own.sub g0_4 h24) fun u22 S a E=>plc E (.r 28 2 .nil) (fun a E=>pld ?_)
 exact J29 _ (by omega) _ (!(t23 == 0)) _ _ E .of S H
 refine plc E (.r 25 5 .nil) (fun a E=>pld ?_)
 exact J29 _ (by omega) _ true _ _ E .of S H
 refine plc E (.r 19 11 .nil) (fun a E=>pld ?_)
 exact J29 _ (by omega) _ true _ _ E .of S H
 refine plc E (.r 11 19 .nil) (fun a E=>pld ?_)
 exact J29 _ (by omega) _ true _ _ E .of S H
 refine plc E (.r 5 25 .nil) (fun a E=>pld ?_)
 exact J29 _ (by omega) _ true _ _ E .of S H
def qAN.f(x:List Int):Option (List Int):=if ((([]:List Int).length:Int)+(x.length:Int)) * 8≤140737488355328 then (some (([]:List Int)++x)) else (none)
def qAN.Post(W F:World)(r:List Int)(v:Value)(w':World):Prop:=∃(F':World)(RA0_0:OA)(rc0_0:Nat),v = .slice RA0_0 r.length rc0_0∧Sm W F w' F' [row ki 3 (.slice RA0_0 r.length rc0_0) r]
theorem qAN.calls(x:List Int)(A0_0:OA)(c0_0:Nat)(r:List Int)(W F:World)(hown:Sub F W)(g0_0:Rd ki F A0_0 c0_0 x)(H:qAN.f x=some r):
    Cr 112 #[.slice A0_0 x.length c0_0] W (qAN.Post W F r):=by
 have S:=sT hown
 unfold qAN.f at H
 refine ent 8 rfl rfl rfl (fun a E=>?_)
 rcases A0_0 with _ | ad1
 have hnil:=g0_0.none_nil
 replace H:(some [])=some r:=by simpa [hnil] using H
 refine rr E fun a E=>(sq fun K3 hK3=>rr E fun a E=>(ct E (rr E fun a E=>(wp_ret (qCA ?_)))))
 replace S:=S.nilrow ki 3
 obtain rfl:=si H
 exact rt1 E ⟨_,rfl,_,_,_,rfl,S⟩
 refine rr E fun a E=>(sq fun K8 hK8=>rr E fun a E=>(cf E (wp_skip (hK8 _ _ (sq fun K10 hK10=>pl0 (ple E (.lit (d:=ki) (e:=3) S ([]:List Int) (.nil)) ?_))))))
 rintro _ u11 a ⟨A12,c13,rfl,S,hg⟩ E
 refine plc E (.r 1 1 .nil) (fun a E=>?_)
 obtain ⟨c15,H⟩:=gd H
 refine ple E (.ap (d:=ki) 8 S (g0_0.src S.own.sub) c15 c0_0) ?_
 rintro _ u18 a ⟨A16,c17,rfl,S,hz⟩ E
 refine plc E (.r 3 1 .nil) (fun a E=>pld (hK10 _ _ (wp_ret ?_)))
 obtain rfl:=si H
 exact rt1 E ⟨_,rfl,_,_,_,rfl,S⟩
def qAz.f(x:Int):Option Bool:=some (!(x == x))
def qAz.Post(W F:World)(r:Bool)(v:Value)(w':World):Prop:=∃(F':World),v = .bool r∧Sm W F w' F' []
theorem qAz.calls(x:Int)(r:Bool)(W F:World)(hown:Sub F W)(H:qAz.f x=some r):
    Cr 202 #[iv x] W (qAz.Post W F r):=by
 have S:=sT hown
 unfold qAz.f at H
 refine ent 6 rfl rfl rfl (fun a E=>?_)
 refine rr E fun a E=>(rr E fun a E=>(wp_ret ?_))
 obtain rfl:=si H
 exact rt1 E ⟨_,rfl,_,rfl,S⟩
def qAR.f(x:Int)(y:Int):Option Int:=(qAz.f x).bind fun t4=>((qAz.f y).bind fun t8=>(if t4=true then (if t8=true then (some 0) else (some (-1))) else (if t8=true then (some 1) else (if x<y then (some (-1)) else (if x>y then (some 1) else (some 0))))))
def qAR.Post(W F:World)(r:Int)(v:Value)(w':World):Prop:=∃(F':World),v=iv r∧Sm W F w' F' []
theorem qAR.calls(x:Int)(y:Int)(r:Int)(W F:World)(hown:Sub F W)(H:qAR.f x y=some r):
    Cr 161 #[iv x,iv y] W (qAR.Post W F r):=by
 have S:=sT hown
 unfold qAR.f at H
 refine ent 20 rfl rfl rfl (fun a E=>?_)
 refine rr E fun a E=>(sq fun K2 hK2=>pl0 (plc E (.r 0 1 .nil) (fun a E=>?_)))
 obtain ⟨t4,h5,H⟩:=bd H
 refine plq E S en202 (qAz.calls x _ _ _ S.own.sub h5) fun u3 S a E=>plc E (.r 2 1 .nil) (fun a E=>pld (hK2 _ _ (sq fun K6 hK6=>pl0 (plc E (.r 0 1 .nil) (fun a E=>?_)))))
 obtain ⟨t8,h9,H⟩:=bd H
 refine plq E S en202 (qAz.calls y _ _ _ S.own.sub h9) fun u7 S a E=>plc E (.r 2 1 .nil) (fun a E=>pld (hK6 _ _ (sq fun K10 hK10=>rr E fun a E=>(E.ib 11 H (fun c12 E H=>?_) fun c12 E H=>?_))))
 refine sq fun K13 hK13=>rr E fun a E=>(E.ib 12 H (fun c15 E H=>?_) fun c15 E H=>?_)
 refine rr E fun a E=>(wp_ret (qCA (qCA ?_)))
 obtain rfl:=si H
 exact rt1 E ⟨_,rfl,_,rfl,S⟩
 refine wp_skip (hK13 _ _ (rr E fun a E=>(wp_ret (qCA ?_))))
 obtain rfl:=si H
 exact rt1 E ⟨_,rfl,_,rfl,S⟩
 refine wp_skip (hK10 _ _ (sq fun K18 hK18=>rr E fun a E=>(E.ib 13 H (fun c20 E H=>?_) fun c20 E H=>?_)))
 refine rr E fun a E=>(wp_ret (qCA ?_))
 obtain rfl:=si H
 exact rt1 E ⟨_,rfl,_,rfl,S⟩
 refine wp_skip (hK18 _ _ (sq fun K22 hK22=>rr E fun a E=>(E.ik 16 H (fun c24 E H=>?_) fun c24 E H=>?_)))
 refine rr E fun a E=>(wp_ret (qCA ?_))
 obtain rfl:=si H
 exact rt1 E ⟨_,rfl,_,rfl,S⟩
 refine wp_skip (hK22 _ _ (sq fun K26 hK26=>rr E fun a E=>(E.ik 19 H (fun c28 E H=>?_) fun c28 E H=>?_)))
 refine rr E fun a E=>(wp_ret (qCA ?_))
 obtain rfl:=si H
 exact rt1 E ⟨_,rfl,_,rfl,S⟩
 refine wp_skip (hK26 _ _ (rr E fun a E=>(wp_ret ?_)))
 obtain rfl:=si H
 exact rt1 E ⟨_,rfl,_,rfl,S⟩
def qBP.f(x:qE)(y:Int):Option Int:=(qAR.f x.f0 y).bind fun t6=>(some t6)
def qBP.Post(W F:World)(r:Int)(v:Value)(w':World):Prop:=∃(F':World),v=iv r∧Sm W F w' F' []
theorem qBP.calls(x:qE)(y:Int)(A0_1:OA)(c0_1:Nat)(r:Int)(W F:World)(hown:Sub F W)(g0_1:Rd ki F A0_1 c0_1 x.f1)(H:qBP.f x y=some r):
    Cr 165 #[.agg #[iv x.f0,.slice A0_1 x.f1.length c0_1],iv y] W (qBP.Post W F r):=by
 have S:=sT hown
 unfold qBP.f at H
 refine ent 9 rfl rfl rfl (fun a E=>?_)
 refine sq fun K1 hK1=>pl0 (plx (t:=97) E S [iv x.f0,.slice A0_1 x.f1.length c0_1] fun b2 u3 hb2 S a E=>plc E (.r 1 1 .nil) (fun a E=>pld (hK1 _ _ (sq fun K4 hK4=>pl0 (plc E (.r 0 1<|.b 1 0 hb2<|.r 2 1<|.nil) (fun a E=>?_))))))
 obtain ⟨t6,h7,H⟩:=bd H
 refine plq E S en161 (qAR.calls x.f0 y _ _ _ S.own.sub h7) fun u5 S a E=>plc E (.r 4 1 .nil) (fun a E=>pld (hK4 _ _ (wp_ret ?_)))
 replace S:=S.tail
 obtain rfl:=si H
 exact rt1 E ⟨_,rfl,_,rfl,S⟩
def qO.l7:Nat→List qE→Int→Int→Int→Option (Int × Bool)
 | 0,_,_,_,_=>none
 | k+1,x,y,x5,x6=>if x5<x6 then (if 0≤(w64 ((IntKind.u64.wrap (w64 (x5+x6))).fdiv 2))∧(w64 ((IntKind.u64.wrap (w64 (x5+x6))).fdiv 2))<(x.length:Int) then ((qBP.f (nth qE.z x (w64 ((IntKind.u64.wrap (w64 (x5+x6))).fdiv 2))) y).bind fun t25=>(if t25<0 then (qO.l7 k x y (w64 ((w64 ((IntKind.u64.wrap (w64 (x5+x6))).fdiv 2))+1)) x6) else (qO.l7 k x y x5 (w64 ((IntKind.u64.wrap (w64 (x5+x6))).fdiv 2))))) else (none)) else (if x5<(x.length:Int) then (if 0≤x5∧x5<(x.length:Int) then ((qBP.f (nth qE.z x x5) y).bind fun t39=>(some (x5,(t39 == 0)))) else (none)) else (some (x5,false)))
theorem qO.l7_s k x y x5 x6:type_of% (qO.l7.eq_2 x y x5 x6 k):=qO.l7.eq_2 x y x5 x6 k
def qO.f(k:Nat)(x:List qE)(y:Int):Option (Int × Bool):=qO.l7 k x y 0 (x.length:Int)
def qO.Post(W F:World)(r:Int × Bool)(v:Value)(w':World):Prop:=∃(F':World),v = .tuple #[iv r.1,.bool r.2]∧Sm W F w' F' []
theorem qO.calls(k:Nat)(x:List qE)(y:Int)(A0_0:OA)(c0_0:Nat)(r:Int × Bool)(W F:World)(hown:Sub F W)(g0_0:Rd qE.k F A0_0 c0_0 x)(H:qO.f k x y=some r):
    Cr 164 #[.slice A0_0 x.length c0_0,iv y,.func (.func 165) #[] #[]] W (qO.Post W F r):=by
 have S:=sT hown
 unfold qO.f at H
 refine ent 49 rfl rfl rfl (fun a E=>?_)
 refine rr E fun a E=>(rr E fun a E=>(rr E fun a E=>(sq fun K4 hK4=>wp_block ?_)))
 refine wp_loop_ghost (fun kq8 a w'=>∃(G:NV)(x5:Int)(x6:Int),kq8≤k∧Env 49 G a∧At G [(0,.slice A0_0 x.length c0_0),(1,iv y),(2,.func (.func 165) #[] #[]),(8,iv (x.length:Int)),(9,iv x5),(10,iv x6)]∧Sm W F w' F []∧qO.l7 kq8 x y x5 x6=some r) k ⟨_,0,(x.length:Int),Nat.le_refl _,E,.of,S,H⟩ ?_
 rintro kq8 a u10 ⟨G,x5,x6,hkq,E,A,S,H⟩
 obtain _ | k9:=kq8
 exact zz H
 rw [qO.l7_s]at H
 obtain ⟨J,E⟩:=E.at A
 refine sq fun K11 hK11=>rr E fun a E=>(E.ik 17 H (fun c13 E H=>?_) fun c13 E H=>?_)
 refine wp_skip (hK11 _ _ (wp_block (rr E fun a E=>(sq fun K15 hK15=>pl0 ?_))))
 obtain ⟨c16,H⟩:=gd H
 have hE_:=E
 obtain ⟨ad17,rfl⟩:=g0_0.addr c16.1 c16.2
 replace E:=hE_
 obtain ⟨cs19,⟨A21,c22,rfl,g23⟩,hc20⟩:=g0_0.el qE.z (w64 ((IntKind.u64.wrap (w64 (x5+x6))).fdiv 2)) c16.1 c16.2
 refine plc E (.r 0 3<|.x 3 c16<|.cs 4 (S.fcs hc20)<|.r 5 1<|.nil) (fun a E=>?_)
 obtain ⟨t25,h26,H⟩:=bd H
 refine plq E S en165 (qBP.calls (nth qE.z x (w64 ((IntKind.u64.wrap (w64 (x5+x6))).fdiv 2))) y _ _ _ _ _ S.own.sub g23 h26) fun u24 S a E=>plc E (.r 7 1 .nil) (fun a E=>pld (hK15 _ _ (E.ik 31 H (fun c27 E H=>?_) fun c27 E H=>?_)))
 refine pl0 (plc E (.r 0 3 .nil) (fun a E=>pld ?_))
 refine qCC ?_
 exact qCD ⟨k9,by omega,_,(w64 ((w64 ((IntKind.u64.wrap (w64 (x5+x6))).fdiv 2))+1)),x6,by omega,E,.of,S,H⟩
 refine pl0 (plc E (.r 0 2 .nil) (fun a E=>pld ?_))
 refine qCC ?_
 exact qCD ⟨k9,by omega,_,x5,(w64 ((IntKind.u64.wrap (w64 (x5+x6))).fdiv 2)),by omega,E,.of,S,H⟩
 refine wp_exit ?_
 refine hK4 _ _ (sq fun K28 hK28=>pl0 (plc E (.r 0 5 .nil) (fun a E=>E.fk 39 H (fun c29 E H=>?_) fun c29 E H=>?_)))
 obtain ⟨c30,H⟩:=gd H
 have hE_:=E
 obtain ⟨ad31,rfl⟩:=g0_0.addr c30.1 c30.2
 replace E:=hE_
 obtain ⟨cs33,⟨A35,c36,rfl,g37⟩,hc34⟩:=g0_0.el qE.z x5 c30.1 c30.2
 refine plc E (.r 5 3<|.x 8 c30<|.cs 9 (S.fcs hc34)<|.r 10 1<|.nil) (fun a E=>?_)
 obtain ⟨t39,h40,H⟩:=bd H
 refine plq E S en165 (qBP.calls (nth qE.z x x5) y _ _ _ _ _ S.own.sub g37 h40) fun u38 S a E=>plc E (.r 12 4 .nil) (fun a E=>pld (hK28 _ _ (wp_ret ?_)))
 obtain rfl:=si H
 exact rtN E ⟨_,rfl,_,rfl,S⟩
 refine plc E (.r 5 11 .nil) (fun a E=>pld (hK28 _ _ (wp_ret ?_)))
 obtain rfl:=si H
 exact rtN E ⟨_,rfl,_,rfl,S⟩
def qBf.f(k:Nat)(x:qG)(y:Int):Option (Int × Bool):=(qO.f k x.f5 y).bind fun t6=>(some (t6.1,t6.2))
def qBf.Post(W F:World)(r:Int × Bool)(v:Value)(w':World):Prop:=∃(F':World),v = .tuple #[iv r.1,.bool r.2]∧Sm W F w' F' []
theorem qBf.calls(k:Nat)(x:qG)(y:Int)(A0_4:OA)(c0_4:Nat)(A0_5:OA)(c0_5:Nat)(A0_6:OA)(c0_6:Nat)(r:Int × Bool)(W F:World)(hown:Sub F W)(g0_4:Rd qA.k F A0_4 c0_4 x.f4)(g0_5:Rd qE.k F A0_5 c0_5 x.f5)(g0_6:Rd qC.k F A0_6 c0_6 x.f6)(H:qBf.f k x y=some r):
    Cr 121 #[.agg #[iv x.f0,iv x.f1,iv x.f2,iv x.f3,.slice A0_4 x.f4.length c0_4,.slice A0_5 x.f5.length c0_5,.slice A0_6 x.f6.length c0_6],iv y] W (qBf.Post W F r):=by
 have S:=sT hown
 unfold qBf.f at H
 refine ent 12 rfl rfl rfl (fun a E=>?_)
 refine sq fun K1 hK1=>pl0 (plx (t:=26) E S [iv x.f0,iv x.f1,iv x.f2,iv x.f3,.slice A0_4 x.f4.length c0_4,.slice A0_5 x.f5.length c0_5,.slice A0_6 x.f6.length c0_6] fun b2 u3 hb2 S a E=>plc E (.r 1 2 .nil) (fun a E=>pld (hK1 _ _ (sq fun K4 hK4=>pl0 (plc E (.r 0 1<|.b 1 5 hb2<|.r 2 1<|.nil) (fun a E=>?_))))))
 obtain ⟨t6,h7,H⟩:=bd H
 refine plq E S en164 (qO.calls k x.f5 y _ _ _ _ _ S.own.sub g0_5 h7) fun u5 S a E=>plc E (.r 4 4 .nil) (fun a E=>pld (hK4 _ _ (wp_ret ?_)))
 replace S:=S.tail
 obtain rfl:=si H
 exact rtN E ⟨_,rfl,_,rfl,S⟩
def qAt.j23:Nat→Int→ql→Bool→Option (Int × Bool)
 | 0,_,_,_=>none
 | k+1,x,y,y22=>if x=(-1) then (some (y.f1,false)) else (if y22=true then (if y.f2≥1 then (some (y.f1,(decide (y.f2≤12)))) else (some (y.f1,false))) else (some (y.f1,false)))
theorem qAt.j23_s k x y y22:type_of% (qAt.j23.eq_2 x y y22 k):=qAt.j23.eq_2 x y y22 k
def qAt.f(k:Nat)(x:Int)(y:ql):Option (Int × Bool):=if y.f0=1 then (if x=(-1) then (if y.f1=0 then (some (0,(y.f2 == 0))) else (some (0,false))) else (some (0,false))) else (if y.f0=3 then (if x=3 then (if y.f1=0 then (some ((-1),(y.f2 == 0))) else (some ((-1),false))) else (some ((-1),false))) else (if y.f0=2 then (if y.f1>x then (if y.f1≤3 then (if y.f1=2 then (qAt.j23 k x y (x == 1)) else (qAt.j23 k x y true)) else (qAt.j23 k x y false)) else (qAt.j23 k x y false)) else (some ((-1),false))))
def qAt.Post(W F:World)(r:Int × Bool)(v:Value)(w':World):Prop:=∃(F':World),v = .tuple #[iv r.1,.bool r.2]∧Sm W F w' F' []
theorem qAt.calls(k:Nat)(x:Int)(y:ql)(r:Int × Bool)(W F:World)(hown:Sub F W)(H:qAt.f k x y=some r):
    Cr 224 #[iv x,.agg #[iv y.f0,iv y.f1,iv y.f2]] W (qAt.Post W F r):=by
 have S:=sT hown
 unfold qAt.f at H
 refine ent 74 rfl rfl rfl (fun a E=>?_)
 refine sq fun K1 hK1=>pl0 (plx (t:=175) E S [iv y.f0,iv y.f1,iv y.f2] fun b2 u3 hb2 S a E=>plc E (.r 1 2 .nil) (fun a E=>pld (hK1 _ _ (sq fun K4 hK4=>rg E (.r 0 1<|.b 1 0 hb2<|.nil) fun a E=>(wp_block (rr E fun a E=>(E.ik 9 H (fun c7 E H=>?_) fun c7 E H=>?_)))))))
 refine sq fun K8 hK8=>?_
 refine drawn 14 ⟨[],[],fun q=>False⟩ mixed rfl (by kernel_rfl) (fun hst=>?_)
 replace S:=S.drew
 refine mny 11 hst E (.r 0 3 .nil) (fun a E=>?_)
 refine E.fk 13 H (fun c9 E H=>?_) fun c9 E H=>?_
 have hb2:=S.ba 0
 refine mny 5 hst E (.r 3 1<|.b 4 1 hb2<|.r 5 3<|.r 12 1<|.nil) (fun a E=>?_)
 refine E.fk 18 H (fun c10 E H=>?_) fun c10 E H=>?_
 refine mny 0 hst E (.r 8 1<|.b 9 2 hb2<|.r 10 2<|.r 13 1<|.nil) (fun a E=>?_)
 refine dn ?_
 refine hK8 _ _ (wp_ret (qCB (qCA ?_)))
 replace S:=S.tail
 obtain rfl:=si H
 exact rtN E ⟨_,rfl,_,rfl,S⟩
 refine mny 0 hst E (.r 8 4<|.r 13 1<|.nil) (fun a E=>?_)
 refine dn ?_
 refine hK8 _ _ (wp_ret (qCB (qCA ?_)))
 replace S:=S.tail
 obtain rfl:=si H
 exact rtN E ⟨_,rfl,_,rfl,S⟩
 refine mny 0 hst E (.r 3 11 .nil) (fun a E=>?_)
 refine dn ?_
 refine hK8 _ _ (wp_ret (qCB (qCA ?_)))
 replace S:=S.tail
 obtain rfl:=si H
 exact rtN E ⟨_,rfl,_,rfl,S⟩
 refine rr E fun a E=>(E.ik 23 H (fun c12 E H=>?_) fun c12 E H=>?_)
 refine sq fun K13 hK13=>?_
 refine drawn 14 ⟨[],[],fun q=>False⟩ mixed rfl (by kernel_rfl) (fun hst=>?_)
 replace S:=S.drew
 refine mny 11 hst E (.r 0 3 .nil) (fun a E=>?_)
 refine E.fk 27 H (fun c14 E H=>?_) fun c14 E H=>?_
 have hb2:=S.ba 0
 refine mny 5 hst E (.r 3 1<|.b 4 1 hb2<|.r 5 3<|.r 12 1<|.nil) (fun a E=>?_)
 refine E.fk 32 H (fun c15 E H=>?_) fun c15 E H=>?_
 refine mny 0 hst E (.r 8 1<|.b 9 2 hb2<|.r 10 2<|.r 13 1<|.nil) (fun a E=>?_)
 refine dn ?_
 refine hK13 _ _ (wp_ret (qCB (qCA ?_)))
 replace S:=S.tail
 obtain rfl:=si H
 exact rtN E ⟨_,rfl,_,rfl,S⟩
 refine mny 0 hst E (.r 8 4<|.r 13 1<|.nil) (fun a E=>?_)
 refine dn ?_
 refine hK13 _ _ (wp_ret (qCB (qCA ?_)))
 replace S:=S.tail
 obtain rfl:=si H
 exact rtN E ⟨_,rfl,_,rfl,S⟩
 refine mny 0 hst E (.r 3 11 .nil) (fun a E=>?_)
 refine dn ?_
 refine hK13 _ _ (wp_ret (qCB (qCA ?_)))
 replace S:=S.tail
 obtain rfl:=si H
 exact rtN E ⟨_,rfl,_,rfl,S⟩
 refine rr E fun a E=>(E.ik 37 H (fun c17 E H=>?_) fun c17 E H=>?_)
 refine sq fun K18 hK18=>?_
 have J26:∀ kq24,kq24≤k→∀(G:NV)(y22:Bool)(a:Act)(w':World),Env 74 G a→At G [(0,iv x),(3,.pointer (pb b2)),(6,.bool y22)]→Sm W F w' F [box b2 #[iv y.f0,iv y.f1,iv y.f2] 175]→qAt.j23 kq24 x y y22=some r→K18 a w':=by
  intro kq24 hkq G y22 a u27 E A S H
  obtain _ | k25:=kq24
  exact zz H
  rw [qAt.j23_s]at H
  obtain ⟨J,E⟩:=E.at A
  refine hK18 _ _ (sq fun K28 hK28=>?_)
  refine drawn 19 ⟨[],[],fun q=>False⟩ mixed rfl (by kernel_rfl) (fun hst=>?_)
  replace S:=S.drew
  have hb2:=S.ba 0
  refine mny 14 hst E (.r 0 1<|.b 1 1 hb2<|.r 2 3<|.nil) (fun a E=>?_)
  refine E.fkn 61 H (fun c29 E H=>?_) fun c29 E H=>?_
  refine mny 0 hst E (.r 5 14 .nil) (fun a E=>?_)
  refine dn ?_
  refine hK28 _ _ (wp_ret (qCB (qCA ?_)))
  replace S:=S.tail
  obtain rfl:=si H
  exact rtN E ⟨_,rfl,_,rfl,S⟩
  refine mny 11 hst E (.r 5 3 .nil) (fun a E=>?_)
  refine E.fb 64 H (fun c30 E H=>?_) fun c30 E H=>?_
  refine mny 5 hst E (.r 8 1<|.b 9 2 hb2<|.r 10 3<|.r 17 1<|.nil) (fun a E=>?_)
  refine E.fk 69 H (fun c31 E H=>?_) fun c31 E H=>?_
  refine mny 0 hst E (.r 13 1<|.b 14 2 hb2<|.r 15 2<|.r 18 1<|.nil) (fun a E=>?_)
  refine dn ?_
  refine hK28 _ _ (wp_ret (qCB (qCA ?_)))
  replace S:=S.tail
  obtain rfl:=si H
  exact rtN E ⟨_,rfl,_,rfl,S⟩
  refine mny 0 hst E (.r 13 4<|.r 18 1<|.nil) (fun a E=>?_)
  refine dn ?_
  refine hK28 _ _ (wp_ret (qCB (qCA ?_)))
  replace S:=S.tail
  obtain rfl:=si H
  exact rtN E ⟨_,rfl,_,rfl,S⟩
  refine mny 0 hst E (.r 8 11 .nil) (fun a E=>?_)
  refine dn ?_
  refine hK28 _ _ (wp_ret (qCB (qCA ?_)))
  replace S:=S.tail
  obtain rfl:=si H
  exact rtN E ⟨_,rfl,_,rfl,S⟩
 refine pl0 (plc E (.r 0 1<|.b 1 1 hb2<|.r 2 3<|.nil) (fun a E=>E.fk 43 H (fun c19 E H=>?_) fun c19 E H=>?_))
 refine plc E (.r 5 1<|.b 6 1 hb2<|.r 7 3<|.nil) (fun a E=>E.fk 48 H (fun c20 E H=>?_) fun c20 E H=>?_)
 refine plc E (.r 10 1<|.b 11 1 hb2<|.r 12 2<|.nil) (fun a E=>E.fkn 52 H (fun c21 E H=>?_) fun c21 E H=>?_)
 refine plc E (.r 14 5 .nil) (fun a E=>pld ?_)
 exact J26 _ (by omega) _ (x == 1) _ _ E .of S H
 refine plc E (.r 14 5 .nil) (fun a E=>pld ?_)
 exact J26 _ (by omega) _ true _ _ E .of S H
 refine plc E (.r 10 9 .nil) (fun a E=>pld ?_)
 exact J26 _ (by omega) _ false _ _ E .of S H
 refine plc E (.r 5 14 .nil) (fun a E=>pld ?_)
 exact J26 _ (by omega) _ false _ _ E .of S H
 refine wp_skip ?_
 refine qCC ?_
 refine hK4 _ _ (rr E fun a E=>(wp_ret ?_))
 replace S:=S.tail
 obtain rfl:=si H
 exact rtN E ⟨_,rfl,_,rfl,S⟩
mutual
def qAd.j6:Nat→List ql→Bool→Option Int
 | 0,_,_=>none
 | k+1,x,y5=>if y5=true then (some 1) else (qAd.l18 k x (-1) 0)
def qAd.l18:Nat→List ql→Int→Int→Option Int
 | 0,_,_,_=>none
 | k+1,x,x16,x17=>if x17<(x.length:Int) then (if 0≤x17∧x17<(x.length:Int) then ((qAt.f k x16 (nth ql.z x x17)).bind fun t37=>(if t37.2=true then (qAd.l18 k x t37.1 (w64 (x17+1))) else (some 1))) else (none)) else (some 0)
end
theorem qAd.j6_s k x y5:type_of% (qAd.j6.eq_2 x y5 k):=qAd.j6.eq_2 x y5 k
theorem qAd.l18_s k x x16 x17:type_of% (qAd.l18.eq_2 x x16 x17 k):=qAd.l18.eq_2 x x16 x17 k
def qAd.f(k:Nat)(x:List ql):Option Int:=if (x.length:Int)=0 then (qAd.j6 k x true) else (qAd.j6 k x (decide ((x.length:Int)>8)))
def qAd.Post(W F:World)(r:Int)(v:Value)(w':World):Prop:=∃(F':World),v=iv r∧Sm W F w' F' []
theorem qAd.calls(k:Nat)(x:List ql)(A0_0:OA)(c0_0:Nat)(r:Int)(W F:World)(hown:Sub F W)(g0_0:Rd ql.k F A0_0 c0_0 x)(H:qAd.f k x=some r):
    Cr 203 #[.slice A0_0 x.length c0_0] W (qAd.Post W F r):=by
 have S:=sT hown
 unfold qAd.f at H
 refine ent 32 rfl rfl rfl (fun a E=>?_)
 refine rr E fun a E=>(sq fun K2 hK2=>sq fun K3 hK3=>?_)
 have J9:∀ kq7,kq7≤k→∀(G:NV)(y5:Bool)(a:Act)(w':World),Env 32 G a→At G [(0,.slice A0_0 x.length c0_0),(15,.bool y5)]→Sm W F w' F []→qAd.j6 kq7 x y5=some r→K3 a w':=by
  intro kq7 hkq G y5 a u10 E A S H
  obtain _ | k8:=kq7
  exact zz H
  rw [qAd.j6_s]at H
  obtain ⟨J,E⟩:=E.at A
  refine hK3 _ _ (E.ib 15 H (fun c11 E H=>?_) fun c11 E H=>?_)
  refine rr E fun a E=>(wp_ret (qCA ?_))
  obtain rfl:=si H
  exact rt1 E ⟨_,rfl,_,rfl,S⟩
  refine wp_skip (hK2 _ _ (rr E fun a E=>(sq fun K14 hK14=>rr E fun a E=>(wp_block ?_))))
  refine wp_loop_ghost (fun kq19 a w'=>∃(G:NV)(x16:Int)(x17:Int),kq19≤k8∧Env 32 G a∧At G [(3,iv x16),(16,.slice A0_0 x.length c0_0),(17,iv (x.length:Int)),(18,iv x17)]∧Sm W F w' F []∧qAd.l18 kq19 x x16 x17=some r) k8 ⟨_,(-1),0,Nat.le_refl _,E,.of,S,H⟩ ?_
  rintro kq19 a u21 ⟨G,x16,x17,hkq,E,A,S,H⟩
  obtain _ | k20:=kq19
  exact zz H
  rw [qAd.l18_s]at H
  obtain ⟨J,E⟩:=E.at A
  refine rr E fun a E=>(sq fun K23 hK23=>E.ik 19 H (fun c24 E H=>?_) fun c24 E H=>?_)
  refine wp_skip (hK23 _ _ (sq fun K25 hK25=>wp_block (sq fun K26 hK26=>pl0 ?_)))
  obtain ⟨c27,H⟩:=gd H
  have hE_:=E
  obtain ⟨ad28,rfl⟩:=g0_0.addr c27.1 c27.2
  replace E:=hE_
  obtain ⟨cs30,rfl,hc31⟩:=g0_0.el ql.z x17 c27.1 c27.2
  refine plc E (.x 0 c27<|.cs 1 (S.fcs hc31)<|.nil) (fun a E=>pla (t:=175) E S [iv 0,iv 0,iv 0] fun b32 u33 hb32 S a E=>pls E S [iv ((nth ql.z x x17).f0),iv ((nth ql.z x x17).f1),iv ((nth ql.z x x17).f2)] fun u34 hb32 S a E=>pld (hK26 _ _ (sq fun K35 hK35=>pl0 (plc E (.r 0 1<|.bn 1 0 3 hb32<|.nil) (fun a E=>?_)))))
  obtain ⟨t37,h38,H⟩:=bd H
  refine plq E S en224 (qAt.calls k20 x16 (nth ql.z x x17) _ _ _ S.own.sub h38) fun u36 S a E=>plc E (.r 3 5 .nil) (fun a E=>pld (hK35 _ _ (sq fun K39 hK39=>rr E fun a E=>(E.ibn 29 H (fun c41 E H=>?_) fun c41 E H=>?_))))
  refine wp_skip (hK39 _ _ (pl0 (plc E (.r 0 2 .nil) (fun a E=>pld ?_))))
  refine qCC ?_
  refine hK25 _ _ (pl0 (plc E (.r 0 2 .nil) (fun a E=>pld ?_)))
  replace S:=S.tail
  exact qCD ⟨k20,by omega,_,t37.1,(w64 (x17+1)),by omega,E,.of,S,H⟩
  refine rr E fun a E=>(wp_ret (qCA (qCB (qCA (qCA (qCB (qCA ?_)))))))
  replace S:=S.tail
  obtain rfl:=si H
  exact rt1 E ⟨_,rfl,_,rfl,S⟩
  refine wp_exit ?_
  refine hK14 _ _ (rr E fun a E=>(wp_ret ?_))
  obtain rfl:=si H
  exact rt1 E ⟨_,rfl,_,rfl,S⟩
 refine pl0 (plc E (.r 0 4 .nil) (fun a E=>E.fk 11 H (fun c4 E H=>?_) fun c4 E H=>?_))
 refine plc E (.r 4 4 .nil) (fun a E=>pld ?_)
 exact J9 _ (by omega) _ true _ _ E .of S H
 refine plc E (.r 4 4 .nil) (fun a E=>pld ?_)
 exact J9 _ (by omega) _ (decide ((x.length:Int)>8)) _ _ E .of S H
def qBJ.f(x:qB)(y:Int):Option Int:=(qAR.f x.f0 y).bind fun t6=>(some t6)
def qBJ.Post(W F:World)(r:Int)(v:Value)(w':World):Prop:=∃(F':World),v=iv r∧Sm W F w' F' []
theorem qBJ.calls(x:qB)(y:Int)(r:Int)(W F:World)(hown:Sub F W)(H:qBJ.f x y=some r):
    Cr 255 #[.agg #[iv x.f0,iv x.f1],iv y] W (qBJ.Post W F r):=by
 have S:=sT hown
 unfold qBJ.f at H
 refine ent 9 rfl rfl rfl (fun a E=>?_)
 refine sq fun K1 hK1=>pl0 (plx (t:=216) E S [iv x.f0,iv x.f1] fun b2 u3 hb2 S a E=>plc E (.r 1 1 .nil) (fun a E=>pld (hK1 _ _ (sq fun K4 hK4=>pl0 (plc E (.r 0 1<|.b 1 0 hb2<|.r 2 1<|.nil) (fun a E=>?_))))))
 obtain ⟨t6,h7,H⟩:=bd H
 refine plq E S en161 (qAR.calls x.f0 y _ _ _ S.own.sub h7) fun u5 S a E=>plc E (.r 4 1 .nil) (fun a E=>pld (hK4 _ _ (wp_ret ?_)))
 replace S:=S.tail
 obtain rfl:=si H
 exact rt1 E ⟨_,rfl,_,rfl,S⟩
def qBZ.f(x:qA):Option Bool:=some true
def qBZ.Post(W F:World)(r:Bool)(v:Value)(w':World):Prop:=∃(F':World),v = .bool r∧Sm W F w' F' []
theorem qBZ.calls(x:qA)(r:Bool)(W F:World)(hown:Sub F W)(H:qBZ.f x=some r):
    Cr 237 #[.agg #[iv x.f0,iv x.f1,iv x.f2,iv x.f3,.bool x.f4,.bool x.f5]] W (qBZ.Post W F r):=by
 have S:=sT hown
 unfold qBZ.f at H
 refine ent 3 rfl rfl rfl (fun a E=>?_)
 refine sq fun K1 hK1=>pl0 (plx (t:=104) E S [iv x.f0,iv x.f1,iv x.f2,iv x.f3,.bool x.f4,.bool x.f5] fun b2 u3 hb2 S a E=>plc E (.r 1 1 .nil) (fun a E=>pld (hK1 _ _ (rr E fun a E=>(wp_ret ?_)))))
 replace S:=S.tail
 obtain rfl:=si H
 exact rt1 E ⟨_,rfl,_,rfl,S⟩
def qBM.f(x:qA):Option Int:=some x.f1
def qBM.Post(W F:World)(r:Int)(v:Value)(w':World):Prop:=∃(F':World),v=iv r∧Sm W F w' F' []
theorem qBM.calls(x:qA)(r:Int)(W F:World)(hown:Sub F W)(H:qBM.f x=some r):
    Cr 238 #[.agg #[iv x.f0,iv x.f1,iv x.f2,iv x.f3,.bool x.f4,.bool x.f5]] W (qBM.Post W F r):=by
 have S:=sT hown
 unfold qBM.f at H
 refine ent 5 rfl rfl rfl (fun a E=>?_)
 refine sq fun K1 hK1=>pl0 (plx (t:=104) E S [iv x.f0,iv x.f1,iv x.f2,iv x.f3,.bool x.f4,.bool x.f5] fun b2 u3 hb2 S a E=>plc E (.r 1 1 .nil) (fun a E=>pld (hK1 _ _ (rg E (.r 0 1<|.b 1 1 hb2<|.r 2 1<|.nil) fun a E=>(wp_ret ?_)))))
 replace S:=S.tail
 obtain rfl:=si H
 exact rt1 E ⟨_,rfl,_,rfl,S⟩
def qH.l7:Nat→List qB→Int→Int→Int→Option (Int × Bool)
 | 0,_,_,_,_=>none
 | k+1,x,y,x5,x6=>if x5<x6 then (if 0≤(w64 ((IntKind.u64.wrap (w64 (x5+x6))).fdiv 2))∧(w64 ((IntKind.u64.wrap (w64 (x5+x6))).fdiv 2))<(x.length:Int) then ((qBJ.f (nth qB.z x (w64 ((IntKind.u64.wrap (w64 (x5+x6))).fdiv 2))) y).bind fun t22=>(if t22<0 then (qH.l7 k x y (w64 ((w64 ((IntKind.u64.wrap (w64 (x5+x6))).fdiv 2))+1)) x6) else (qH.l7 k x y x5 (w64 ((IntKind.u64.wrap (w64 (x5+x6))).fdiv 2))))) else (none)) else (if x5<(x.length:Int) then (if 0≤x5∧x5<(x.length:Int) then ((qBJ.f (nth qB.z x x5) y).bind fun t33=>(some (x5,(t33 == 0)))) else (none)) else (some (x5,false)))
theorem qH.l7_s k x y x5 x6:type_of% (qH.l7.eq_2 x y x5 x6 k):=qH.l7.eq_2 x y x5 x6 k
def qH.f(k:Nat)(x:List qB)(y:Int):Option (Int × Bool):=qH.l7 k x y 0 (x.length:Int)
def qH.Post(W F:World)(r:Int × Bool)(v:Value)(w':World):Prop:=∃(F':World),v = .tuple #[iv r.1,.bool r.2]∧Sm W F w' F' []
theorem qH.calls(k:Nat)(x:List qB)(y:Int)(A0_0:OA)(c0_0:Nat)(r:Int × Bool)(W F:World)(hown:Sub F W)(g0_0:Rd qB.k F A0_0 c0_0 x)(H:qH.f k x y=some r):
    Cr 254 #[.slice A0_0 x.length c0_0,iv y,.func (.func 255) #[] #[]] W (qH.Post W F r):=by
 have S:=sT hown
 unfold qH.f at H
 refine ent 49 rfl rfl rfl (fun a E=>?_)
 refine rr E fun a E=>(rr E fun a E=>(rr E fun a E=>(sq fun K4 hK4=>wp_block ?_)))
 refine wp_loop_ghost (fun kq8 a w'=>∃(G:NV)(x5:Int)(x6:Int),kq8≤k∧Env 49 G a∧At G [(0,.slice A0_0 x.length c0_0),(1,iv y),(2,.func (.func 255) #[] #[]),(8,iv (x.length:Int)),(9,iv x5),(10,iv x6)]∧Sm W F w' F []∧qH.l7 kq8 x y x5 x6=some r) k ⟨_,0,(x.length:Int),Nat.le_refl _,E,.of,S,H⟩ ?_
 rintro kq8 a u10 ⟨G,x5,x6,hkq,E,A,S,H⟩
 obtain _ | k9:=kq8
 exact zz H
 rw [qH.l7_s]at H
 obtain ⟨J,E⟩:=E.at A
 refine sq fun K11 hK11=>rr E fun a E=>(E.ik 17 H (fun c13 E H=>?_) fun c13 E H=>?_)
 refine wp_skip (hK11 _ _ (wp_block (rr E fun a E=>(sq fun K15 hK15=>pl0 ?_))))
 obtain ⟨c16,H⟩:=gd H
 have hE_:=E
 obtain ⟨ad17,rfl⟩:=g0_0.addr c16.1 c16.2
 replace E:=hE_
 obtain ⟨cs19,rfl,hc20⟩:=g0_0.el qB.z (w64 ((IntKind.u64.wrap (w64 (x5+x6))).fdiv 2)) c16.1 c16.2
 refine plc E (.r 0 3<|.x 3 c16<|.cs 4 (S.fcs hc20)<|.r 5 1<|.nil) (fun a E=>?_)
 obtain ⟨t22,h23,H⟩:=bd H
 refine plq E S en255 (qBJ.calls (nth qB.z x (w64 ((IntKind.u64.wrap (w64 (x5+x6))).fdiv 2))) y _ _ _ S.own.sub h23) fun u21 S a E=>plc E (.r 7 1 .nil) (fun a E=>pld (hK15 _ _ (E.ik 31 H (fun c24 E H=>?_) fun c24 E H=>?_)))
 refine pl0 (plc E (.r 0 3 .nil) (fun a E=>pld ?_))
 refine qCC ?_
 exact qCD ⟨k9,by omega,_,(w64 ((w64 ((IntKind.u64.wrap (w64 (x5+x6))).fdiv 2))+1)),x6,by omega,E,.of,S,H⟩
 refine pl0 (plc E (.r 0 2 .nil) (fun a E=>pld ?_))
 refine qCC ?_
 exact qCD ⟨k9,by omega,_,x5,(w64 ((IntKind.u64.wrap (w64 (x5+x6))).fdiv 2)),by omega,E,.of,S,H⟩
 refine wp_exit ?_
 refine hK4 _ _ (sq fun K25 hK25=>pl0 (plc E (.r 0 5 .nil) (fun a E=>E.fk 39 H (fun c26 E H=>?_) fun c26 E H=>?_)))
 obtain ⟨c27,H⟩:=gd H
 have hE_:=E
 obtain ⟨ad28,rfl⟩:=g0_0.addr c27.1 c27.2
 replace E:=hE_
 obtain ⟨cs30,rfl,hc31⟩:=g0_0.el qB.z x5 c27.1 c27.2
 refine plc E (.r 5 3<|.x 8 c27<|.cs 9 (S.fcs hc31)<|.r 10 1<|.nil) (fun a E=>?_)
 obtain ⟨t33,h34,H⟩:=bd H
 refine plq E S en255 (qBJ.calls (nth qB.z x x5) y _ _ _ S.own.sub h34) fun u32 S a E=>plc E (.r 12 4 .nil) (fun a E=>pld (hK25 _ _ (wp_ret ?_)))
 obtain rfl:=si H
 exact rtN E ⟨_,rfl,_,rfl,S⟩
 refine plc E (.r 5 11 .nil) (fun a E=>pld (hK25 _ _ (wp_ret ?_)))
 obtain rfl:=si H
 exact rtN E ⟨_,rfl,_,rfl,S⟩
def qw.f(p:List qB)(s:Int)(t:List qB):Option (List qB):=match t with
 | [x]=>if 0≤s∧s≤(p.length:Int)∧p.length≤1000000 then some (p.take s.toNat++x :: p.drop s.toNat) else none
 | _=>none
def qw.Post(p:List qB)(s:Int)(t:List qB)(A0_0:OA)(c0_0:Nat)(A2_0:OA)(c2_0:Nat)(W F:World)(r:List qB)(v:Value)(w':World):Prop:=∃(F':World)(RA0_0:OA)(rc0_0:Nat),v = .slice RA0_0 r.length rc0_0∧St W (mine W [row qB.k 216 (.slice A0_0 p.length c0_0) p,row qB.k 216 (.slice A2_0 t.length c2_0) t]) F w' F' [row qB.k 216 (.slice RA0_0 r.length rc0_0) r]
set_option maxHeartbeats 4000000 in
set_option maxRecDepth 100000 in
theorem qw.calls(p:List qB)(s:Int)(t:List qB)(A0_0:OA)(c0_0:Nat)(A2_0:OA)(c2_0:Nat)(r:List qB)(W F:World)(hown:Own W F [row qB.k 216 (.slice A0_0 p.length c0_0) p,row qB.k 216 (.slice A2_0 t.length c2_0) t])(H:qw.f p s t=some r):
    Cr 256 #[.slice A0_0 p.length c0_0,iv s,.slice A2_0 t.length c2_0] W (qw.Post p s t A0_0 c0_0 A2_0 c2_0 W F r):=by
 have S:=St.start hown
 unfold qw.f at H
 rcases t with _ | ⟨x,_ | ⟨y,l⟩⟩
 ·
  cases H
 rotate_left
 ·
  cases H
 replace H:(if 0≤s∧s≤(p.length:Int)∧p.length≤1000000 then some (p.take s.toNat++x :: p.drop s.toNat) else none)=some r:=H
 by_cases hc:0≤s∧s≤(p.length:Int)∧p.length≤1000000
 rotate_left
 ·
  rw [if_neg hc]at H; cases H
 rw [if_pos hc]at H
 have hr:=Option.some.inj H
 clear H
 obtain ⟨h0,h1,hm⟩:=hc
 obtain ⟨j,rfl⟩:∃ j:Nat,s=j:=⟨s.toNat,by omega⟩
 simp only [Int.toNat_natCast]at hr
 refine enter (n:=95) rfl rfl rfl (Nat.le_of_ble_eq_true rfl) (fun a E=>?_)
 obtain ⟨A12,c12,hA12,hv12⟩:=y_suf (P:=Tryz.prog) (k:=.i64) (S.row_at (i:=0) rfl) ⟨h0,h1⟩
 refine rr E fun a E=>(rg E (.r 0 2<|.y 2 (hv12 (by kernel_rfl)) .nil) fun a E=>(rr E fun a E=>(sq fun K3 hK3=>rr E fun a E=>(cf E (wp_skip (hK3 _ _ (rr E fun a E=>(sq fun K6 hK6=>rr E fun a E=>?_))))))))
 by_cases hi:(j:Int)=(p.length:Int)
 ·
  replace E:=E.kt 22 hi
  refine ct E ?_
  obtain rfl:j=p.length:=by omega
  obtain rfl:p++[x]=r:=by rw [← hr]; simp
  refine sq fun K8 hK8=>pl0 (plc E (.r 0 2 .nil) (fun a E=>ple E (.ap (d:=qB.k) 16 S (qCT (S.row_at (i:=1) rfl)) (by simp only [List.length_cons,List.length_nil]; omega) c2_0) ?_))
  rintro _ w1 a ⟨A1,c1,rfl,S,hz⟩ E
  refine plc E (.r 3 1 .nil) (fun a E=>pld (hK8 _ _ (wp_ret (qCA ?_))))
  replace S:=S.pm [0] 2
  exact rt1 E ⟨_,rfl,F,_,_,rfl,S⟩
 replace E:=E.kf 22 hi
 refine cf E (wp_skip (hK6 _ _ ?_))
 have hlt:j<p.length:=by omega
 have hxc:p.length≤c0_0∧c0_0≤maxLen:=by
  obtain ⟨_,q1,q2,_⟩:=qCE (S.row_at (i:=0) rfl)
  exact ⟨q1,q2⟩
 have hxc2:[x].length≤c2_0:=(qCE (S.row_at (i:=1) rfl)).2.1
 have hE_:=E
 obtain ⟨g,cur,rfl,hsz,hrep,S⟩:=S.unrow (by omega)
 replace S:=S.front 1 rfl
 obtain ⟨g2,cur2,rfl,hsz2,hrep2,S⟩:=S.unrow (by simp)
 replace E:=hE_
 have hne:g2≠g:=S.ne (i:=0) (j:=1) rfl rfl (by decide)
 obtain ⟨cs,hcs⟩:∃ cs,cs=cur2.toList.take 2:=⟨_,rfl⟩
 have hx:(qB.k).K F x cs:=by
  have h5:=hrep2.2 0 x rfl
  rw [Nat.zero_mul,List.drop_zero,List.take_take]at h5
  rw [hcs]
  exact h5
 have hcl:cs.length=2:=(qB.k).len hx
 have hcget:∀ q u,cs[q]? = some u→cur2[q]? = some u:=fun q u hq=>by
  rw [hcs,List.getElem?_take]at hq
  split at hq
  ·
   rwa [Array.getElem?_toList]at hq
  ·
   cases hq
 have hcone:∀ u ∈ cs,u.oneCell'=true:=(qB.k).one hx
 obtain ⟨inner,hin⟩:∃ inner,inner=cur.toList.take (p.length * 2):=⟨_,rfl⟩
 replace hrep:RepsK qB.k F p inner:=by rw [hin]; exact hrep
 have hil:inner.length=p.length * 2:=hrep.1
 have hione:∀ u ∈ inner.drop (j * 2),u.oneCell'=true:=fun u hu=>hrep.one u (List.mem_of_mem_drop hu)
 have hidl:(inner.drop (j * 2)).length=(p.length - j) * 2:=by rw [List.length_drop,hil,Nat.sub_mul]
 have higet:∀ q u,(inner.drop (j * 2))[q]? = some u→cur[j * 2+q]? = some u:=fun q u hq=>by
  rw [List.getElem?_drop,hin,List.getElem?_take]at hq
  split at hq
  ·
   rwa [Array.getElem?_toList]at hq
  ·
   cases hq
 replace hsz:cur.size=c0_0 * 2:=hsz
 have hw1:w64 ((p.length:Int)+(([x].length:Nat):Int))=((p.length+1:Nat):Int):=by
  simp only [List.length_cons,List.length_nil]
  rw [qCI (by omega) (by omega)]
  omega
 have hw2:w64 ((j:Int)+(([x].length:Nat):Int))=((j+1:Nat):Int):=by
  simp only [List.length_cons,List.length_nil]
  rw [qCI (by omega) (by omega)]
  omega
 refine sq fun K9 hK9=>rg E (.r 0 4<|.y 4 (y_cap (A:=some ⟨g,0,none⟩) (n:=p.length) (c:=c0_0))<|.r 5 1 .nil) fun a E=>?_
 by_cases hroom:w64 ((p.length:Int)+(([x].length:Nat):Int))>(c0_0:Int)
 ·
  replace E:=E.kt 31 hroom
  rw [hw1]at hroom
  refine ct E ?_
  have hw3:w64 (w64 ((p.length:Int)+(([x].length:Nat):Int)) - (j:Int))=((p.length+1 - j:Nat):Int):=by
   rw [hw1,qCI (by omega) (by omega)]
   omega
  refine sq fun K11 hK11=>pl0 (plc E (.r 0 2<|.y 2 (y_hi (e:=216) (z:=2) (g:=g) (n:=p.length) (c:=c0_0) (k:=.i64) (hi:=(j:Int)) ⟨by omega,by omega⟩)<|.r 3 5 .nil) (fun a E=>ple E (.gro (e:=216) (g:=g) (c:=c0_0) (j:=j) (z:=2) (bytes:=16) (k:=w64 (w64 ((p.length:Int)+(([x].length:Nat):Int)) - (j:Int))) S (S.ba 1) (by omega) (by omega) (by rw [hsz]; exact Nat.mul_le_mul_right _ (by omega)) (by rw [hw3]; omega) (by kernel_rfl)) ?_))
  rintro _ w1 a ⟨b,arr,cc,rfl,has,hc1,hc2,hpre,S,hag⟩ E
  rw [hw3]at hc1 E
  have hnb:g2≠b:=S.ne (i:=1) (j:=0) rfl rfl (by decide)
  have hgb:g≠b:=S.ne (i:=2) (j:=0) rfl rfl (by decide)
  have hk3:j+((p.length+1 - j:Nat):Int).toNat=p.length+1:=by rw [Int.toNat_natCast]; omega
  rw [hk3]at hc1 E
  have hpi:arr.toList.take (j * 2)=inner.take (j * 2):=by
   rw [hpre,hin,List.take_take,Nat.min_eq_left (Nat.mul_le_mul_right _ (by omega))]
  obtain ⟨s1,s2,s3⟩:=qCz (sz:=2) (n:=p.length) (i:=j) (cap:=cc) (c0:=arr.toList) (inner:=inner) (cs:=cs) hpi hil hcl (by omega) hc1 (by rw [Array.length_toList]; exact has)
  obtain ⟨C1,hC1⟩:∃ C1,C1=arr.toList.take (j * 2)++cs++arr.toList.drop (j * 2+cs.length):=⟨_,rfl⟩
  rw [← hC1]at s1 s2 s3
  obtain ⟨C2,hC2⟩:∃ C2,C2=C1.take ((j+1) * 2)++inner.drop (j * 2)++C1.drop ((j+1) * 2+(inner.drop (j * 2)).length):=⟨_,rfl⟩
  rw [← hC2]at s1 s2
  refine plc E (.r 9 1 .nil) (fun a E=>pld (hK11 _ _ (sq fun K12 hK12=>pl0 (plc E (.r 0 2<|.y 2 (y_lo (e:=216) (z:=2) (g:=b) (n:=p.length+1) (c:=cc) (k:=.i64) (lo:=(j:Int)) ⟨by omega,by omega⟩ (by omega))<|.r 3 1 .nil) (fun a E=>?_)))))
  have hb2:=S.ba 1
  have hbg:=S.ba 2
  have hmin1:Nat.min [x].length (p.length+1 - (j:Int).toNat)=1:=by
   rw [Int.toNat_natCast]
   simp only [List.length_cons,List.length_nil]
   exact Nat.min_eq_left (by omega)
  refine ple E (.cpy (e:=216) (z:=2) (off:=(j:Int).toNat * 2) (dn:=p.length+1 - (j:Int).toNat) (dc:=cc - (j:Int).toNat) (sn:=[x].length) (sc:=c2_0) (sa:=⟨g2,0,none⟩) S cs (by rw [hmin1,hcl]) (fun q u hq=>by rw [qCK,Nat.zero_add]; exact qCH hb2 (hcget q u hq)) hcone (by
      rw [Int.toNat_natCast,has,hcl]
      have:=Nat.mul_le_mul_right 2 (show j+1≤cc by omega)
      omega) (by kernel_rfl)) ?_
  rintro _ w2 a ⟨rfl,S,hz,hnew,hoth⟩ E
  simp only [Int.toNat_natCast]at S hnew
  rw [← hC1]at S hnew
  refine pld (hK12 _ _ (sq fun K13 hK13=>?_))
  refine drawn 9 ⟨[8],[],fun q=>False⟩ mixed rfl (by kernel_rfl) (fun hst=>?_)
  replace S:=S.drew
  have hbg2:=S.ba 2
  refine mny 1 hst E (.r 0 4<|.y 4 (y_lo (e:=216) (z:=2) (g:=b) (n:=p.length+1) (c:=cc) (k:=.i64) (lo:=w64 ((j:Int)+(([x].length:Nat):Int))) ⟨by omega,by omega⟩ (by omega))<|.r 5 2<|.y 7 (y_lo (e:=216) (z:=2) (g:=g) (n:=p.length) (c:=c0_0) (k:=.i64) (lo:=(j:Int)) ⟨by omega,by omega⟩ (by omega)) .nil) (fun a E=>?_)
  refine on1 8 E (.cpy (e:=216) (z:=2) (off:=(w64 ((j:Int)+(([x].length:Nat):Int))).toNat * 2) (dn:=p.length+1 - (w64 ((j:Int)+(([x].length:Nat):Int))).toNat) (dc:=cc - (w64 ((j:Int)+(([x].length:Nat):Int))).toNat) (sn:=p.length - (j:Int).toNat) (sc:=c0_0 - (j:Int).toNat) (sa:=⟨g,(j:Int).toNat * 2,none⟩) S (inner.drop (j * 2)) (by
      rw [hw2,Int.toNat_natCast,Int.toNat_natCast,hidl,show p.length+1 - (j+1)=p.length - j by omega]
      congr 1
      exact (Nat.min_self _).symm) (fun q u hq=>by rw [qCK,Int.toNat_natCast]; exact qCH hbg2 (higet q u hq)) hione (by
      rw [hw2,Int.toNat_natCast,hidl,List.size_toArray,s3,← Nat.add_mul]
      exact Nat.mul_le_mul_right _ (by omega)) (by kernel_rfl)) ?_
  rintro _ w3 a ⟨rfl,S,hz,hnew,hoth⟩ E
  refine ⟨.d,?_⟩
  refine dn ?_
  rw [hw2,Int.toNat_natCast]at S
  simp only [List.toList_toArray]at S
  rw [← hC2]at S
  refine hK13 _ _ (rr E fun a E=>(wp_ret (qCA ?_)))
  have hrl:r.length=p.length+1:=by rw [← hr]; simp; omega
  have hrr:RepsK qB.k F r (C2.toArray.toList.take (r.length * (qB.k).sz)):=by
   rw [hrl]
   show RepsK qB.k F r (C2.take ((p.length+1) * 2))
   rw [s1,← hr]
   exact qCU hrep hx (by omega) rfl
  have hS2:=S.rerow (c:=cc) r (show C2.toArray.size=cc * 2 by simpa using s2) (by omega) hc2 hrr
  replace hS2:=hS2.front 1 rfl
  replace hS2:=hS2.tail
  replace hS2:=hS2.front 1 rfl
  replace hS2:=hS2.tail
  rw [← hrl]at E
  exact rt1 E ⟨_,rfl,F,_,_,rfl,hS2⟩
 replace E:=E.kf 31 hroom
 rw [hw1]at hroom
 have hrm:p.length+1≤c0_0:=by omega
 refine cf E (wp_skip (hK9 _ _ ?_))
 obtain ⟨s1,s2,s3⟩:=qDS (sz:=2) (n:=p.length) (i:=j) (cap:=c0_0) (cur:=cur.toList) (inner:=inner) (cs:=cs) hin.symm hcl (by omega) hrm (by rw [Array.length_toList]; exact hsz)
 obtain ⟨C1,hC1⟩:∃ C1,C1=cur.toList.take ((j+1) * 2)++inner.drop (j * 2)++cur.toList.drop ((j+1) * 2+(inner.drop (j * 2)).length):=⟨_,rfl⟩
 rw [← hC1]at s1 s2 s3
 obtain ⟨C2,hC2⟩:∃ C2,C2=C1.take (j * 2)++cs++C1.drop (j * 2+cs.length):=⟨_,rfl⟩
 rw [← hC2]at s1 s2
 refine rg E (.r 0 4<|.y 4 (y_hi (e:=216) (z:=2) (g:=g) (n:=p.length) (c:=c0_0) (k:=.i64) (hi:=w64 ((p.length:Int)+(([x].length:Nat):Int))) ⟨by omega,by omega⟩)<|.r 5 1 .nil) fun a E=>?_
 have hn1:(w64 ((p.length:Int)+(([x].length:Nat):Int))).toNat=p.length+1:=by rw [hw1,Int.toNat_natCast]
 rw [hn1]at E
 refine sq fun K16 hK16=>sq fun K17 hK17=>pl0 (plc E (.r 0 5<|.y 5 (y_lo (e:=216) (z:=2) (g:=g) (n:=p.length+1) (c:=c0_0) (k:=.i64) (lo:=w64 ((j:Int)+(([x].length:Nat):Int))) ⟨by omega,by omega⟩ (by omega)) .nil) (fun a E=>?_))
 have hb2:=S.ba 0
 have hbg:=S.ba 1
 have hcz:cur.size≠0:=by rw [hsz]; exact Nat.mul_ne_zero (by omega) (by decide)
 refine ple E (.ext (f:=261) (args:=[.slice (pb g2) [x].length c2_0,.slice (some ⟨g,(w64 ((j:Int)+(([x].length:Nat):Int))).toNat * 2,none⟩) (p.length+1 - (w64 ((j:Int)+(([x].length:Nat):Int))).toNat) (c0_0 - (w64 ((j:Int)+(([x].length:Nat):Int))).toNat)]) (v:=.bool false) (R:=fun v w'=>v = .bool false∧w'=_) (by
    rw [run_callFunc_extern Tryz.func261 (by kernel_rfl) (by kernel_rfl) (by kernel_rfl) (e:=Extern.SlicesOverlaps.overlaps #[177,177] #[4]) (by kernel_rfl)]
    refine (congrArg (fun r:Result Value=>r.andThen fun v w'=>Result.ok (Next.value v) w') (Lib.run_overlaps_apart _ 177 4 216 Tryz.underlying177 2 (fun _=>by kernel_rfl) ⟨g2,0,none⟩ ⟨g,(w64 ((j:Int)+(([x].length:Nat):Int))).toNat * 2,none⟩ [x].length c2_0 _ _ hne 216 216 cur2.size cur.size (by simp [World.shape?,hb2]) (by simp [World.shape?,hbg]) hcz (by simp [World.frozen?,hb2]) (by simp [World.frozen?,hb2]))).trans rfl) ⟨rfl,rfl⟩) ?_
 rintro _ _ a ⟨rfl,rfl⟩ E
 refine plc E (.r 7 1 .nil) (fun a E=>pld (hK17 _ _ (ct E (sq fun K18 hK18=>?_))))
 refine drawn 9 ⟨[8],[],fun q=>False⟩ mixed rfl (by kernel_rfl) (fun hst=>?_)
 replace S:=S.drew
 replace S:=S.front 1 rfl
 have hbg2:=S.ba 0
 refine mny 1 hst E (.r 0 4<|.y 4 (y_lo (e:=216) (z:=2) (g:=g) (n:=p.length+1) (c:=c0_0) (k:=.i64) (lo:=w64 ((j:Int)+(([x].length:Nat):Int))) ⟨by omega,by omega⟩ (by omega))<|.r 5 2<|.y 7 (y_lo (e:=216) (z:=2) (g:=g) (n:=p.length+1) (c:=c0_0) (k:=.i64) (lo:=(j:Int)) ⟨by omega,by omega⟩ (by omega)) .nil) (fun a E=>?_)
 refine on1 8 E (.cpy (e:=216) (z:=2) (off:=(w64 ((j:Int)+(([x].length:Nat):Int))).toNat * 2) (dn:=p.length+1 - (w64 ((j:Int)+(([x].length:Nat):Int))).toNat) (dc:=c0_0 - (w64 ((j:Int)+(([x].length:Nat):Int))).toNat) (sn:=p.length+1 - (j:Int).toNat) (sc:=c0_0 - (j:Int).toNat) (sa:=⟨g,(j:Int).toNat * 2,none⟩) S (inner.drop (j * 2)) (by
    rw [hw2,Int.toNat_natCast,Int.toNat_natCast,hidl,show p.length+1 - (j+1)=p.length - j by omega]
    congr 1
    exact (Nat.min_eq_right (by omega)).symm) (fun q u hq=>by rw [qCK,Int.toNat_natCast]; exact qCH hbg2 (higet q u hq)) hione (by
    rw [hw2,Int.toNat_natCast,hidl,hsz,← Nat.add_mul]
    exact Nat.mul_le_mul_right _ (by omega)) (by kernel_rfl)) ?_
 rintro _ w2 a ⟨rfl,S,hz,hnew,hoth⟩ E
 refine ⟨.d,?_⟩
 refine dn ?_
 rw [hw2,Int.toNat_natCast,← hC1]at S
 refine hK18 _ _ (sq fun K19 hK19=>pl0 ?_)
 have hb3:=S.ba 1
 refine plc E (.r 0 2<|.y 2 (y_lo (e:=216) (z:=2) (g:=g) (n:=p.length+1) (c:=c0_0) (k:=.i64) (lo:=(j:Int)) ⟨by omega,by omega⟩ (by omega))<|.r 3 1 .nil) (fun a E=>?_)
 have hmin1:Nat.min [x].length (p.length+1 - (j:Int).toNat)=1:=by
  rw [Int.toNat_natCast]
  simp only [List.length_cons,List.length_nil]
  exact Nat.min_eq_left (by omega)
 refine ple E (.cpy (e:=216) (z:=2) (off:=(j:Int).toNat * 2) (dn:=p.length+1 - (j:Int).toNat) (dc:=c0_0 - (j:Int).toNat) (sn:=[x].length) (sc:=c2_0) (sa:=⟨g2,0,none⟩) S cs (by rw [hmin1,hcl]) (fun q u hq=>by rw [qCK,Nat.zero_add]; exact qCH hb3 (hcget q u hq)) hcone (by
    rw [Int.toNat_natCast,List.size_toArray,s3,hcl]
    have:=Nat.mul_le_mul_right 2 (show j+1≤c0_0 by omega)
    omega) (by kernel_rfl)) ?_
 rintro _ w3 a ⟨rfl,S,hz,hnew,hoth⟩ E
 simp only [Int.toNat_natCast,List.toList_toArray]at S
 rw [← hC2]at S
 refine pld (hK19 _ _ (rr E fun a E=>(wp_ret (qCA ?_))))
 have hrl:r.length=p.length+1:=by rw [← hr]; simp; omega
 have hrr:RepsK qB.k F r (C2.toArray.toList.take (r.length * (qB.k).sz)):=by
  rw [hrl]
  show RepsK qB.k F r (C2.take ((p.length+1) * 2))
  rw [s1,← hr]
  exact qCU hrep hx (by omega) rfl
 have hS2:=S.rerow (c:=c0_0) r (show C2.toArray.size=c0_0 * 2 by simpa using s2) (by omega) hxc.2 hrr
 replace hS2:=hS2.front 1 rfl
 replace hS2:=hS2.tail
 rw [← hrl]at E
 exact rt1 E ⟨_,rfl,F,_,_,rfl,hS2⟩
mutual
def qT.l19:Nat→List qA→List qB→Int→Option (List qB)
 | 0,_,_,_=>none
 | k+1,x,l16,x17=>if x17<(x.length:Int) then (if 0≤x17∧x17<(x.length:Int) then ((qBZ.f (nth qA.z x x17)).bind fun t39=>(if t39=true then ((qBM.f (nth qA.z x x17)).bind fun t44=>((qH.f k l16 t44).bind fun t47=>(if t47.2=true then (qT.j72 k x x17 t47 l16) else ((qBM.f (nth qA.z x x17)).bind fun t53=>((qw.f l16 t47.1 [(⟨t53,0⟩:qB)]).bind fun t60=>(qT.j72 k x x17 t47 t60)))))) else (qT.l19 k x l16 (w64 (x17+1))))) else (none)) else (some l16)
def qT.j72:Nat→List qA→Int→Int × Bool→List qB→Option (List qB)
 | 0,_,_,_,_=>none
 | k+1,x,x17,t47,l70=>if ((nth qA.z x x17).f5)=true then (if 0≤t47.1∧t47.1<(l70.length:Int) then (qT.l19 k x (l70.set (t47.1).toNat (⟨(nth qB.z l70 t47.1).f0,(if (w64 ((nth qB.z l70 t47.1).f1+(nth qA.z x x17).f3))<65536 then (w64 ((nth qB.z l70 t47.1).f1+(nth qA.z x x17).f3)) else 65536)⟩:qB)) (w64 (x17+1))) else (none)) else (qT.l19 k x l70 (w64 (x17+1)))
end
theorem qT.l19_s k x l16 x17:type_of% (qT.l19.eq_2 x l16 x17 k):=qT.l19.eq_2 x l16 x17 k
theorem qT.j72_s k x x17 t47 l70:type_of% (qT.j72.eq_2 x x17 t47 l70 k):=qT.j72.eq_2 x x17 t47 l70 k
def qT.f(k:Nat)(x:List qA):Option (List qB):=(qAL.f k x).bind fun t6=>(if t6=0 then (qT.l19 k x [] 0) else (some []))
def qT.Post(W F:World)(r:List qB)(v:Value)(w':World):Prop:=∃(F':World)(RA0_0:OA)(rc0_0:Nat),v = .slice RA0_0 r.length rc0_0∧Sm W F w' F' [row qB.k 216 (.slice RA0_0 r.length rc0_0) r]
theorem qT.calls(k:Nat)(x:List qA)(A0_0:OA)(c0_0:Nat)(r:List qB)(W F:World)(hown:Sub F W)(g0_0:Rd qA.k F A0_0 c0_0 x)(H:qT.f k x=some r):
    Cr 236 #[.slice A0_0 x.length c0_0,.func (.func 237) #[] #[],.func (.func 238) #[] #[]] W (qT.Post W F r):=by
 have S:=sT hown
 unfold qT.f at H
 refine ent 60 rfl rfl rfl (fun a E=>?_)
 refine rr E fun a E=>(rr E fun a E=>(sq fun K3 hK3=>sq fun K4 hK4=>pl0 (plc E (.r 0 1 .nil) (fun a E=>?_))))
 obtain ⟨t6,h7,H⟩:=bd H
 refine plq E S en80 (qAL.calls k x _ _ _ _ _ S.own.sub g0_0 h7) fun u5 S a E=>plc E (.r 2 1 .nil) (fun a E=>pld (hK4 _ _ (E.ikn 14 H (fun c8 E H=>?_) fun c8 E H=>?_)))
 refine wp_skip (hK3 _ _ (sq fun K11 hK11=>rr E fun a E=>(wp_block ?_)))
 replace S:=S.nilrow qB.k 216
 refine wp_loop_ghost (fun kq20 a w'=>∃(G:NV)(A14:OA)(c15:Nat)(l16:List qB)(x17:Int)(F18:World),kq20≤k∧Env 60 G a∧At G [(1,.func (.func 237) #[] #[]),(2,.func (.func 238) #[] #[]),(7,.slice A14 l16.length c15),(15,.slice A0_0 x.length c0_0),(16,iv (x.length:Int)),(17,iv x17)]∧Sm W F w' F18 [row qB.k 216 (.slice A14 l16.length c15) l16]∧Rd qA.k F18 A0_0 c0_0 x∧qT.l19 kq20 x l16 x17=some r) k ⟨_,none,0,[],0,F,Nat.le_refl _,E,.of,S,g0_0,H⟩ ?_
 rintro kq20 a u22 ⟨G,A14,c15,l16,x17,F18,hkq,E,A,S,g0_0,H⟩
 obtain _ | k21:=kq20
 exact zz H
 rw [qT.l19_s]at H
 obtain ⟨J,E⟩:=E.at A
 refine rr E fun a E=>(sq fun K24 hK24=>E.ik 18 H (fun c25 E H=>?_) fun c25 E H=>?_)
 refine wp_skip (hK24 _ _ (sq fun K26 hK26=>wp_block (sq fun K27 hK27=>pl0 ?_)))
 obtain ⟨c28,H⟩:=gd H
 have hE_:=E
 obtain ⟨ad29,rfl⟩:=g0_0.addr c28.1 c28.2
 replace E:=hE_
 obtain ⟨cs31,rfl,hc32⟩:=g0_0.el qA.z x17 c28.1 c28.2
 refine plc E (.x 0 c28<|.cs 1 (S.fcs hc32)<|.nil) (fun a E=>pla (t:=104) E S [iv 0,iv 0,iv 0,iv 0,.bool false,.bool false] fun b33 u34 hb33 S a E=>pls E S [iv ((nth qA.z x x17).f0),iv ((nth qA.z x x17).f1),iv ((nth qA.z x x17).f2),iv ((nth qA.z x x17).f3),.bool ((nth qA.z x x17).f4),.bool ((nth qA.z x x17).f5)] fun u35 hb33 S a E=>pld (hK27 _ _ (sq fun K36 hK36=>sq fun K37 hK37=>pl0 (plc E (.r 0 1<|.bn 1 0 6 hb33<|.nil) (fun a E=>?_)))))
 obtain ⟨t39,h40,H⟩:=bd H
 refine plq E S en237 (qBZ.calls (nth qA.z x x17) _ _ _ S.own.sub h40) fun u38 S a E=>plc E (.r 3 1 .nil) (fun a E=>pld (hK37 _ _ (E.ibn 24 H (fun c41 E H=>?_) fun c41 E H=>?_)))
 refine wp_skip (hK36 _ _ (sq fun K42 hK42=>pl0 ?_))
 have hb33:=S.ba 0
 refine plc E (.r 0 2<|.bn 2 0 6 hb33<|.nil) (fun a E=>?_)
 obtain ⟨t44,h45,H⟩:=bd H
 refine plq E S en238 (qBM.calls (nth qA.z x x17) _ _ _ S.own.sub h45) fun u43 S a E=>?_
 obtain ⟨t47,h48,H⟩:=bd H
 refine plq E S en254 (qH.calls k21 l16 t44 _ _ _ _ _ (Sub.refl _) (S.rd_at (i:=1) rfl) h48) fun u46 S a E=>plc E (.r 5 5 .nil) (fun a E=>pld (hK42 _ _ (sq fun K49 hK49=>?_)))
 have J75:∀ kq73,kq73≤k21→∀(G:NV)(A68:OA)(c69:Nat)(l70:List qB)(F71:World)(a:Act)(w':World),Env 60 G a→At G [(1,.func (.func 237) #[] #[]),(2,.func (.func 238) #[] #[]),(7,.slice A68 l70.length c69),(9,.pointer (pb b33)),(10,iv t47.1),(15,.slice (some ad29) x.length c0_0),(16,iv (x.length:Int)),(17,iv x17)]→Sm W F w' F71 [box b33 #[iv ((nth qA.z x x17).f0),iv ((nth qA.z x x17).f1),iv ((nth qA.z x x17).f2),iv ((nth qA.z x x17).f3),.bool ((nth qA.z x x17).f4),.bool ((nth qA.z x x17).f5)] 104,row qB.k 216 (.slice A68 l70.length c69) l70]→Rd qA.k F71 (some ad29) c0_0 x→qT.j72 kq73 x x17 t47 l70=some r→K49 a w':=by
  intro kq73 hkq G A68 c69 l70 F71 a u76 E A S g0_0 H
  obtain _ | k74:=kq73
  exact zz H
  rw [qT.j72_s]at H
  obtain ⟨J,E⟩:=E.at A
  refine hK49 _ _ (sq fun K77 hK77=>pl0 ?_)
  have hb33:=S.ba 0
  refine plc E (.r 0 1<|.b 1 5 hb33<|.nil) (fun a E=>pld (hK77 _ _ (E.ib 44 H (fun c78 E H=>?_) fun c78 E H=>?_)))
  refine drawn 14 ⟨[13],[],fun q=>False⟩ mixed rfl (by kernel_rfl) (fun hst=>?_)
  replace S:=S.drew
  obtain ⟨c79,H⟩:=gd H
  have hr80:=S.ra 1
  have hE_:=E
  obtain ⟨b81,rfl⟩:=qCJ hr80 c79.1 c79.2
  replace E:=hE_
  have hr_:=S.ra 1
  obtain ⟨cs83,rfl,hc84⟩:=qCF hr_ qB.z t47.1 c79.1 c79.2
  have hb33:=S.ba 0
  have hr85:=S.ra 1
  refine mny 1 hst E (.r 0 4<|.x 4 c79<|.r 5 1<|.c 6 (hc84 1 _ rfl)<|.r 7 1<|.b 8 3 hb33<|.r 9 2<|.x 11 c79<|.r 12 1<|.nil) (fun a E=>?_)
  replace S:=S.front 1 rfl
  obtain ⟨cs90,rfl,hc91⟩:=qCF (S.row_at (i:=0) rfl) qB.z t47.1 c79.1 c79.2
  refine on1 13 E (.set (d:=qB.k) (n:=l70.length) (i:=t47.1) (⟨(nth qB.z l70 t47.1).f0,(if (w64 ((nth qB.z l70 t47.1).f1+(nth qA.z x x17).f3))<65536 then (w64 ((nth qB.z l70 t47.1).f1+(nth qA.z x x17).f3)) else 65536)⟩:qB) 1 (ea1 _ _ _) S c79 [iv ((nth qB.z l70 t47.1).f0),iv ((nth qB.z l70 t47.1).f1)] hc91 [iv ((nth qB.z l70 t47.1).f0),iv (if (w64 ((nth qB.z l70 t47.1).f1+(nth qA.z x x17).f3))<65536 then (w64 ((nth qB.z l70 t47.1).f1+(nth qA.z x x17).f3)) else 65536)] rfl) ?_
  rintro _ u89 a ⟨rfl,S,hz⟩ E
  refine ⟨.d,?_⟩
  refine dn ?_
  refine qCC ?_
  refine hK26 _ _ (pl0 (plc E (.r 0 2 .nil) (fun a E=>pld ?_)))
  have hn92:=(qCE (S.row_at (i:=0) rfl)).1
  replace E:=E.set (d:=7) (v:=.slice (pb b81) ((l70.set (t47.1).toNat (⟨(nth qB.z l70 t47.1).f0,(if (w64 ((nth qB.z l70 t47.1).f1+(nth qA.z x x17).f3))<65536 then (w64 ((nth qB.z l70 t47.1).f1+(nth qA.z x x17).f3)) else 65536)⟩:qB)).length) c69) (Eq.trans (b:=.slice (pb b81) l70.length c69) (by kernel_rfl) (by rw [← hn92]))
  replace S:Sm W F u89 F71 [row qB.k 216 (.slice (pb b81) ((l70.set (t47.1).toNat (⟨(nth qB.z l70 t47.1).f0,(if (w64 ((nth qB.z l70 t47.1).f1+(nth qA.z x x17).f3))<65536 then (w64 ((nth qB.z l70 t47.1).f1+(nth qA.z x x17).f3)) else 65536)⟩:qB)).length) c69) (l70.set (t47.1).toNat (⟨(nth qB.z l70 t47.1).f0,(if (w64 ((nth qB.z l70 t47.1).f1+(nth qA.z x x17).f3))<65536 then (w64 ((nth qB.z l70 t47.1).f1+(nth qA.z x x17).f3)) else 65536)⟩:qB)),box b33 #[iv ((nth qA.z x x17).f0),iv ((nth qA.z x x17).f1),iv ((nth qA.z x x17).f2),iv ((nth qA.z x x17).f3),.bool ((nth qA.z x x17).f4),.bool ((nth qA.z x x17).f5)] 104]:=by rw [← hn92]; exact S
  replace S:=S.pm [0] 2
  exact qCD ⟨k74,by omega,_,(pb b81),c69,(l70.set (t47.1).toNat (⟨(nth qB.z l70 t47.1).f0,(if (w64 ((nth qB.z l70 t47.1).f1+(nth qA.z x x17).f3))<65536 then (w64 ((nth qB.z l70 t47.1).f1+(nth qA.z x x17).f3)) else 65536)⟩:qB)),(w64 (x17+1)),F71,by omega,E,.of,S,g0_0,H⟩
  refine wp_skip ?_
  refine qCC ?_
  refine hK26 _ _ (pl0 (plc E (.r 0 2 .nil) (fun a E=>pld ?_)))
  replace S:=S.tail
  exact qCD ⟨k74,by omega,_,A68,c69,l70,(w64 (x17+1)),F71,by omega,E,.of,S,g0_0,H⟩
 refine rr E fun a E=>(E.ibn 34 H (fun c51 E H=>?_) fun c51 E H=>?_)
 refine wp_skip ?_
 exact J75 _ (by omega) _ A14 c15 l16 F18 _ _ E .of S g0_0 H
 refine pl0 (plc E (.r 0 3<|.bn 3 0 6 (S.ba 0)<|.nil) (fun a E=>?_))
 obtain ⟨t53,h54,H⟩:=bd H
 refine plq E S en238 (qBM.calls (nth qA.z x x17) _ _ _ S.own.sub h54) fun u52 S a E=>plc E (.r 5 1 .nil) (fun a E=>ple E (.lit (d:=qB.k) (e:=216) S [(⟨t53,0⟩:qB)] (.cons rfl .nil)) ?_)
 rintro _ u55 a ⟨A56,c57,rfl,S,hg⟩ E
 replace S:=S.front 2 rfl
 obtain ⟨t60,h61,H⟩:=bd H
 refine ple E (.cl en256 (qw.calls l16 t47.1 [(⟨t53,0⟩:qB)] _ _ _ _ _ _ _ (Own.left (X:=[row qB.k 216 (.slice A14 l16.length c15) l16,row qB.k 216 (.slice A56 ([(⟨t53,0⟩:qB)].length) c57) [(⟨t53,0⟩:qB)]]) S.own) h61)) ?_
 rintro _ u59 a ⟨F62,A63,c64,rfl,hC⟩ E
 have hs:=hC.sub
 replace S:=S.called (X:=[row qB.k 216 (.slice A14 l16.length c15) l16,row qB.k 216 (.slice A56 ([(⟨t53,0⟩:qB)].length) c57) [(⟨t53,0⟩:qB)]]) hC
 replace g0_0:=g0_0.mono hs
 refine plc E (.r 8 1 .nil) (fun a E=>pld ?_)
 replace S:=S.front 1 rfl
 exact J75 _ (by omega) _ A63 c64 t60 F62 _ _ E .of S g0_0 H
 refine wp_exit ?_
 refine hK26 _ _ (pl0 (plc E (.r 0 2 .nil) (fun a E=>pld ?_)))
 replace S:=S.tail
 exact qCD ⟨k21,by omega,_,A14,c15,l16,(w64 (x17+1)),F18,by omega,E,.of,S,g0_0,H⟩
 refine wp_exit ?_
 refine hK11 _ _ (rr E fun a E=>(wp_ret ?_))
 obtain rfl:=si H
 exact rt1 E ⟨_,rfl,_,_,_,rfl,S⟩
 refine rr E fun a E=>(wp_ret (qCA ?_))
 replace S:=S.nilrow qB.k 216
 obtain rfl:=si H
 exact rt1 E ⟨_,rfl,_,_,_,rfl,S⟩
def qBk.f(k:Nat)(x:List qA):Option (List qB):=(qT.f k x).bind fun t4=>(some t4)
def qBk.Post(W F:World)(r:List qB)(v:Value)(w':World):Prop:=∃(F':World)(RA0_0:OA)(rc0_0:Nat),v = .slice RA0_0 r.length rc0_0∧Sm W F w' F' [row qB.k 216 (.slice RA0_0 r.length rc0_0) r]
theorem qBk.calls(k:Nat)(x:List qA)(A0_0:OA)(c0_0:Nat)(r:List qB)(W F:World)(hown:Sub F W)(g0_0:Rd qA.k F A0_0 c0_0 x)(H:qBk.f k x=some r):
    Cr 225 #[.slice A0_0 x.length c0_0] W (qBk.Post W F r):=by
 have S:=sT hown
 unfold qBk.f at H
 refine ent 5 rfl rfl rfl (fun a E=>?_)
 refine rr E fun a E=>(sq fun K2 hK2=>pl0 (plc E (.r 0 1 .nil) (fun a E=>?_)))
 obtain ⟨t4,h5,H⟩:=bd H
 refine ple E (.cl en236 (qT.calls k x _ _ _ _ _ S.own.sub g0_0 h5)) ?_
 rintro _ u3 a ⟨F6,A7,c8,rfl,hC⟩ E
 have hs:=hC.sub
 replace S:=S.called (X:=[]) hC
 replace g0_0:=g0_0.mono hs
 refine plc E (.r 2 1 .nil) (fun a E=>pld (hK2 _ _ (wp_ret ?_)))
 obtain rfl:=si H
 exact rt1 E ⟨_,rfl,_,_,_,rfl,S⟩
def qBN.f(x:qA):Option Int:=some x.f2
def qBN.Post(W F:World)(r:Int)(v:Value)(w':World):Prop:=∃(F':World),v=iv r∧Sm W F w' F' []
theorem qBN.calls(x:qA)(r:Int)(W F:World)(hown:Sub F W)(H:qBN.f x=some r):
    Cr 240 #[.agg #[iv x.f0,iv x.f1,iv x.f2,iv x.f3,.bool x.f4,.bool x.f5]] W (qBN.Post W F r):=by
 have S:=sT hown
 unfold qBN.f at H
 refine ent 5 rfl rfl rfl (fun a E=>?_)
 refine sq fun K1 hK1=>pl0 (plx (t:=104) E S [iv x.f0,iv x.f1,iv x.f2,iv x.f3,.bool x.f4,.bool x.f5] fun b2 u3 hb2 S a E=>plc E (.r 1 1 .nil) (fun a E=>pld (hK1 _ _ (rg E (.r 0 1<|.b 1 2 hb2<|.r 2 1<|.nil) fun a E=>(wp_ret ?_)))))
 replace S:=S.tail
 obtain rfl:=si H
 exact rt1 E ⟨_,rfl,_,rfl,S⟩
def qBa.f(x:qA)(xf0_:Int):Option Bool:=some (x.f1 == xf0_)
def qBa.Post(W F:World)(r:Bool)(v:Value)(w':World):Prop:=∃(F':World),v = .bool r∧Sm W F w' F' []
theorem qBa.calls(x:qA)(xf0_:Int)(pf0_:Nat)(r:Bool)(W F:World)(hown:Sub F W)(hpf0_:F.heap[pf0_]? = some (.cells #[iv xf0_] 3 (0,0)))(H:qBa.f x xf0_=some r):
    Cr 239 #[.agg #[iv x.f0,iv x.f1,iv x.f2,iv x.f3,.bool x.f4,.bool x.f5],.pointer (pb pf0_)] W (qBa.Post W F r):=by
 have S:=sT hown
 unfold qBa.f at H
 refine ent 8 rfl rfl rfl (fun a E=>?_)
 refine sq fun K1 hK1=>pl0 (plx (t:=104) E S [iv x.f0,iv x.f1,iv x.f2,iv x.f3,.bool x.f4,.bool x.f5] fun b2 u3 hb2 S a E=>plc E (.r 1 1 .nil) (fun a E=>pld (hK1 _ _ (rg E (.r 0 1<|.b 1 1 hb2<|.b 2 0 (S.own.sub _ _ _ _ hpf0_)<|.r 3 2<|.nil) fun a E=>(wp_ret ?_)))))
 replace S:=S.tail
 obtain rfl:=si H
 exact rt1 E ⟨_,rfl,_,rfl,S⟩
mutual
def qU.l19:Nat→List qA→Int→List qB→Int→Option (List qB)
 | 0,_,_,_,_=>none
 | k+1,x,x1c0_,l16,x17=>if x17<(x.length:Int) then (if 0≤x17∧x17<(x.length:Int) then ((qBa.f (nth qA.z x x17) x1c0_).bind fun t39=>(if t39=true then ((qBN.f (nth qA.z x x17)).bind fun t44=>((qH.f k l16 t44).bind fun t47=>(if t47.2=true then (qU.j72 k x x1c0_ x17 t47 l16) else ((qBN.f (nth qA.z x x17)).bind fun t53=>((qw.f l16 t47.1 [(⟨t53,0⟩:qB)]).bind fun t60=>(qU.j72 k x x1c0_ x17 t47 t60)))))) else (qU.l19 k x x1c0_ l16 (w64 (x17+1))))) else (none)) else (some l16)
def qU.j72:Nat→List qA→Int→Int→Int × Bool→List qB→Option (List qB)
 | 0,_,_,_,_,_=>none
 | k+1,x,x1c0_,x17,t47,l70=>if ((nth qA.z x x17).f5)=true then (if 0≤t47.1∧t47.1<(l70.length:Int) then (qU.l19 k x x1c0_ (l70.set (t47.1).toNat (⟨(nth qB.z l70 t47.1).f0,(if (w64 ((nth qB.z l70 t47.1).f1+(nth qA.z x x17).f3))<65536 then (w64 ((nth qB.z l70 t47.1).f1+(nth qA.z x x17).f3)) else 65536)⟩:qB)) (w64 (x17+1))) else (none)) else (qU.l19 k x x1c0_ l70 (w64 (x17+1)))
end
theorem qU.l19_s k x x1c0_ l16 x17:type_of% (qU.l19.eq_2 x x1c0_ l16 x17 k):=qU.l19.eq_2 x x1c0_ l16 x17 k
theorem qU.j72_s k x x1c0_ x17 t47 l70:type_of% (qU.j72.eq_2 x x1c0_ x17 t47 l70 k):=qU.j72.eq_2 x x1c0_ x17 t47 l70 k
def qU.f(k:Nat)(x:List qA)(x1c0_:Int):Option (List qB):=(qAL.f k x).bind fun t6=>(if t6=0 then (qU.l19 k x x1c0_ [] 0) else (some []))
def qU.Post(W F:World)(r:List qB)(v:Value)(w':World):Prop:=∃(F':World)(RA0_0:OA)(rc0_0:Nat),v = .slice RA0_0 r.length rc0_0∧Sm W F w' F' [row qB.k 216 (.slice RA0_0 r.length rc0_0) r]
theorem qU.calls(k:Nat)(x:List qA)(x1c0_:Int)(A0_0:OA)(c0_0:Nat)(p1c0_:Nat)(r:List qB)(W F:World)(hown:Sub F W)(g0_0:Rd qA.k F A0_0 c0_0 x)(hp1c0_:F.heap[p1c0_]? = some (.cells #[iv x1c0_] 3 (0,0)))(H:qU.f k x x1c0_=some r):
    Cr 236 #[.slice A0_0 x.length c0_0,.func (.func 239) #[] #[.pointer (pb p1c0_)],.func (.func 240) #[] #[]] W (qU.Post W F r):=by
 have S:=sT hown
 unfold qU.f at H
 refine ent 60 rfl rfl rfl (fun a E=>?_)
 refine rr E fun a E=>(rr E fun a E=>(sq fun K3 hK3=>sq fun K4 hK4=>pl0 (plc E (.r 0 1 .nil) (fun a E=>?_))))
 obtain ⟨t6,h7,H⟩:=bd H
 refine plq E S en80 (qAL.calls k x _ _ _ _ _ S.own.sub g0_0 h7) fun u5 S a E=>plc E (.r 2 1 .nil) (fun a E=>pld (hK4 _ _ (E.ikn 14 H (fun c8 E H=>?_) fun c8 E H=>?_)))
 refine wp_skip (hK3 _ _ (sq fun K11 hK11=>rr E fun a E=>(wp_block ?_)))
 replace S:=S.nilrow qB.k 216
 refine wp_loop_ghost (fun kq20 a w'=>∃(G:NV)(A14:OA)(c15:Nat)(l16:List qB)(x17:Int)(F18:World),kq20≤k∧Env 60 G a∧At G [(1,.func (.func 239) #[] #[.pointer (pb p1c0_)]),(2,.func (.func 240) #[] #[]),(7,.slice A14 l16.length c15),(15,.slice A0_0 x.length c0_0),(16,iv (x.length:Int)),(17,iv x17)]∧Sm W F w' F18 [row qB.k 216 (.slice A14 l16.length c15) l16]∧Rd qA.k F18 A0_0 c0_0 x∧F18.heap[p1c0_]? = some (.cells #[iv x1c0_] 3 (0,0))∧qU.l19 kq20 x x1c0_ l16 x17=some r) k ⟨_,none,0,[],0,F,Nat.le_refl _,E,.of,S,g0_0,hp1c0_,H⟩ ?_
 rintro kq20 a u22 ⟨G,A14,c15,l16,x17,F18,hkq,E,A,S,g0_0,hp1c0_,H⟩
 obtain _ | k21:=kq20
 exact zz H
 rw [qU.l19_s]at H
 obtain ⟨J,E⟩:=E.at A
 refine rr E fun a E=>(sq fun K24 hK24=>E.ik 18 H (fun c25 E H=>?_) fun c25 E H=>?_)
 refine wp_skip (hK24 _ _ (sq fun K26 hK26=>wp_block (sq fun K27 hK27=>pl0 ?_)))
 obtain ⟨c28,H⟩:=gd H
 have hE_:=E
 obtain ⟨ad29,rfl⟩:=g0_0.addr c28.1 c28.2
 replace E:=hE_
 obtain ⟨cs31,rfl,hc32⟩:=g0_0.el qA.z x17 c28.1 c28.2
 refine plc E (.x 0 c28<|.cs 1 (S.fcs hc32)<|.nil) (fun a E=>pla (t:=104) E S [iv 0,iv 0,iv 0,iv 0,.bool false,.bool false] fun b33 u34 hb33 S a E=>pls E S [iv ((nth qA.z x x17).f0),iv ((nth qA.z x x17).f1),iv ((nth qA.z x x17).f2),iv ((nth qA.z x x17).f3),.bool ((nth qA.z x x17).f4),.bool ((nth qA.z x x17).f5)] fun u35 hb33 S a E=>pld (hK27 _ _ (sq fun K36 hK36=>sq fun K37 hK37=>pl0 (plc E (.r 0 1<|.bn 1 0 6 hb33<|.nil) (fun a E=>?_)))))
 obtain ⟨t39,h40,H⟩:=bd H
 refine plq E S en239 (qBa.calls (nth qA.z x x17) x1c0_ _ _ _ _ S.own.sub hp1c0_ h40) fun u38 S a E=>plc E (.r 3 1 .nil) (fun a E=>pld (hK37 _ _ (E.ibn 24 H (fun c41 E H=>?_) fun c41 E H=>?_)))
 refine wp_skip (hK36 _ _ (sq fun K42 hK42=>pl0 ?_))
 have hb33:=S.ba 0
 refine plc E (.r 0 2<|.bn 2 0 6 hb33<|.nil) (fun a E=>?_)
 obtain ⟨t44,h45,H⟩:=bd H
 refine plq E S en240 (qBN.calls (nth qA.z x x17) _ _ _ S.own.sub h45) fun u43 S a E=>?_
 obtain ⟨t47,h48,H⟩:=bd H
 refine plq E S en254 (qH.calls k21 l16 t44 _ _ _ _ _ (Sub.refl _) (S.rd_at (i:=1) rfl) h48) fun u46 S a E=>plc E (.r 5 5 .nil) (fun a E=>pld (hK42 _ _ (sq fun K49 hK49=>?_)))
 have J75:∀ kq73,kq73≤k21→∀(G:NV)(A68:OA)(c69:Nat)(l70:List qB)(F71:World)(a:Act)(w':World),Env 60 G a→At G [(1,.func (.func 239) #[] #[.pointer (pb p1c0_)]),(2,.func (.func 240) #[] #[]),(7,.slice A68 l70.length c69),(9,.pointer (pb b33)),(10,iv t47.1),(15,.slice (some ad29) x.length c0_0),(16,iv (x.length:Int)),(17,iv x17)]→Sm W F w' F71 [box b33 #[iv ((nth qA.z x x17).f0),iv ((nth qA.z x x17).f1),iv ((nth qA.z x x17).f2),iv ((nth qA.z x x17).f3),.bool ((nth qA.z x x17).f4),.bool ((nth qA.z x x17).f5)] 104,row qB.k 216 (.slice A68 l70.length c69) l70]→Rd qA.k F71 (some ad29) c0_0 x→F71.heap[p1c0_]? = some (.cells #[iv x1c0_] 3 (0,0))→qU.j72 kq73 x x1c0_ x17 t47 l70=some r→K49 a w':=by
  intro kq73 hkq G A68 c69 l70 F71 a u76 E A S g0_0 hp1c0_ H
  obtain _ | k74:=kq73
  exact zz H
  rw [qU.j72_s]at H
  obtain ⟨J,E⟩:=E.at A
  refine hK49 _ _ (sq fun K77 hK77=>pl0 ?_)
  have hb33:=S.ba 0
  refine plc E (.r 0 1<|.b 1 5 hb33<|.nil) (fun a E=>pld (hK77 _ _ (E.ib 44 H (fun c78 E H=>?_) fun c78 E H=>?_)))
  refine drawn 14 ⟨[13],[],fun q=>False⟩ mixed rfl (by kernel_rfl) (fun hst=>?_)
  replace S:=S.drew
  obtain ⟨c79,H⟩:=gd H
  have hr80:=S.ra 1
  have hE_:=E
  obtain ⟨b81,rfl⟩:=qCJ hr80 c79.1 c79.2
  replace E:=hE_
  have hr_:=S.ra 1
  obtain ⟨cs83,rfl,hc84⟩:=qCF hr_ qB.z t47.1 c79.1 c79.2
  have hb33:=S.ba 0
  have hr85:=S.ra 1
  refine mny 1 hst E (.r 0 4<|.x 4 c79<|.r 5 1<|.c 6 (hc84 1 _ rfl)<|.r 7 1<|.b 8 3 hb33<|.r 9 2<|.x 11 c79<|.r 12 1<|.nil) (fun a E=>?_)
  replace S:=S.front 1 rfl
  obtain ⟨cs90,rfl,hc91⟩:=qCF (S.row_at (i:=0) rfl) qB.z t47.1 c79.1 c79.2
  refine on1 13 E (.set (d:=qB.k) (n:=l70.length) (i:=t47.1) (⟨(nth qB.z l70 t47.1).f0,(if (w64 ((nth qB.z l70 t47.1).f1+(nth qA.z x x17).f3))<65536 then (w64 ((nth qB.z l70 t47.1).f1+(nth qA.z x x17).f3)) else 65536)⟩:qB) 1 (ea1 _ _ _) S c79 [iv ((nth qB.z l70 t47.1).f0),iv ((nth qB.z l70 t47.1).f1)] hc91 [iv ((nth qB.z l70 t47.1).f0),iv (if (w64 ((nth qB.z l70 t47.1).f1+(nth qA.z x x17).f3))<65536 then (w64 ((nth qB.z l70 t47.1).f1+(nth qA.z x x17).f3)) else 65536)] rfl) ?_
  rintro _ u89 a ⟨rfl,S,hz⟩ E
  refine ⟨.d,?_⟩
  refine dn ?_
  refine qCC ?_
  refine hK26 _ _ (pl0 (plc E (.r 0 2 .nil) (fun a E=>pld ?_)))
  have hn92:=(qCE (S.row_at (i:=0) rfl)).1
  replace E:=E.set (d:=7) (v:=.slice (pb b81) ((l70.set (t47.1).toNat (⟨(nth qB.z l70 t47.1).f0,(if (w64 ((nth qB.z l70 t47.1).f1+(nth qA.z x x17).f3))<65536 then (w64 ((nth qB.z l70 t47.1).f1+(nth qA.z x x17).f3)) else 65536)⟩:qB)).length) c69) (Eq.trans (b:=.slice (pb b81) l70.length c69) (by kernel_rfl) (by rw [← hn92]))
  replace S:Sm W F u89 F71 [row qB.k 216 (.slice (pb b81) ((l70.set (t47.1).toNat (⟨(nth qB.z l70 t47.1).f0,(if (w64 ((nth qB.z l70 t47.1).f1+(nth qA.z x x17).f3))<65536 then (w64 ((nth qB.z l70 t47.1).f1+(nth qA.z x x17).f3)) else 65536)⟩:qB)).length) c69) (l70.set (t47.1).toNat (⟨(nth qB.z l70 t47.1).f0,(if (w64 ((nth qB.z l70 t47.1).f1+(nth qA.z x x17).f3))<65536 then (w64 ((nth qB.z l70 t47.1).f1+(nth qA.z x x17).f3)) else 65536)⟩:qB)),box b33 #[iv ((nth qA.z x x17).f0),iv ((nth qA.z x x17).f1),iv ((nth qA.z x x17).f2),iv ((nth qA.z x x17).f3),.bool ((nth qA.z x x17).f4),.bool ((nth qA.z x x17).f5)] 104]:=by rw [← hn92]; exact S
  replace S:=S.pm [0] 2
  exact qCD ⟨k74,by omega,_,(pb b81),c69,(l70.set (t47.1).toNat (⟨(nth qB.z l70 t47.1).f0,(if (w64 ((nth qB.z l70 t47.1).f1+(nth qA.z x x17).f3))<65536 then (w64 ((nth qB.z l70 t47.1).f1+(nth qA.z x x17).f3)) else 65536)⟩:qB)),(w64 (x17+1)),F71,by omega,E,.of,S,g0_0,hp1c0_,H⟩
  refine wp_skip ?_
  refine qCC ?_
  refine hK26 _ _ (pl0 (plc E (.r 0 2 .nil) (fun a E=>pld ?_)))
  replace S:=S.tail
  exact qCD ⟨k74,by omega,_,A68,c69,l70,(w64 (x17+1)),F71,by omega,E,.of,S,g0_0,hp1c0_,H⟩
 refine rr E fun a E=>(E.ibn 34 H (fun c51 E H=>?_) fun c51 E H=>?_)
 refine wp_skip ?_
 exact J75 _ (by omega) _ A14 c15 l16 F18 _ _ E .of S g0_0 hp1c0_ H
 refine pl0 (plc E (.r 0 3<|.bn 3 0 6 (S.ba 0)<|.nil) (fun a E=>?_))
 obtain ⟨t53,h54,H⟩:=bd H
 refine plq E S en240 (qBN.calls (nth qA.z x x17) _ _ _ S.own.sub h54) fun u52 S a E=>plc E (.r 5 1 .nil) (fun a E=>ple E (.lit (d:=qB.k) (e:=216) S [(⟨t53,0⟩:qB)] (.cons rfl .nil)) ?_)
 rintro _ u55 a ⟨A56,c57,rfl,S,hg⟩ E
 replace S:=S.front 2 rfl
 obtain ⟨t60,h61,H⟩:=bd H
 refine ple E (.cl en256 (qw.calls l16 t47.1 [(⟨t53,0⟩:qB)] _ _ _ _ _ _ _ (Own.left (X:=[row qB.k 216 (.slice A14 l16.length c15) l16,row qB.k 216 (.slice A56 ([(⟨t53,0⟩:qB)].length) c57) [(⟨t53,0⟩:qB)]]) S.own) h61)) ?_
 rintro _ u59 a ⟨F62,A63,c64,rfl,hC⟩ E
 have hs:=hC.sub
 replace S:=S.called (X:=[row qB.k 216 (.slice A14 l16.length c15) l16,row qB.k 216 (.slice A56 ([(⟨t53,0⟩:qB)].length) c57) [(⟨t53,0⟩:qB)]]) hC
 replace g0_0:=g0_0.mono hs
 replace hp1c0_:=hs _ _ _ _ hp1c0_
 refine plc E (.r 8 1 .nil) (fun a E=>pld ?_)
 replace S:=S.front 1 rfl
 exact J75 _ (by omega) _ A63 c64 t60 F62 _ _ E .of S g0_0 hp1c0_ H
 refine wp_exit ?_
 refine hK26 _ _ (pl0 (plc E (.r 0 2 .nil) (fun a E=>pld ?_)))
 replace S:=S.tail
 exact qCD ⟨k21,by omega,_,A14,c15,l16,(w64 (x17+1)),F18,by omega,E,.of,S,g0_0,hp1c0_,H⟩
 refine wp_exit ?_
 refine hK11 _ _ (rr E fun a E=>(wp_ret ?_))
 obtain rfl:=si H
 exact rt1 E ⟨_,rfl,_,_,_,rfl,S⟩
 refine rr E fun a E=>(wp_ret (qCA ?_))
 replace S:=S.nilrow qB.k 216
 obtain rfl:=si H
 exact rt1 E ⟨_,rfl,_,_,_,rfl,S⟩
def qBl.f(k:Nat)(x:List qA)(y:Int):Option (List qB):=(qU.f k x y).bind fun t8=>(some t8)
def qBl.Post(W F:World)(r:List qB)(v:Value)(w':World):Prop:=∃(F':World)(RA0_0:OA)(rc0_0:Nat),v = .slice RA0_0 r.length rc0_0∧Sm W F w' F' [row qB.k 216 (.slice RA0_0 r.length rc0_0) r]
theorem qBl.calls(k:Nat)(x:List qA)(y:Int)(A0_0:OA)(c0_0:Nat)(r:List qB)(W F:World)(hown:Sub F W)(g0_0:Rd qA.k F A0_0 c0_0 x)(H:qBl.f k x y=some r):
    Cr 226 #[.slice A0_0 x.length c0_0,iv y] W (qBl.Post W F r):=by
 have S:=sT hown
 unfold qBl.f at H
 refine ent 8 rfl rfl rfl (fun a E=>?_)
 refine sq fun K1 hK1=>pl0 (plx (t:=3) E S [iv y] fun b2 u3 hb2 S a E=>plc E (.r 1 1 .nil) (fun a E=>pld (hK1 _ _ (sq fun K4 hK4=>pl0 (plc E (.r 0 2 .nil) (fun a E=>?_))))))
 obtain ⟨F5,hs,g6,S⟩:=S.giveb
 replace g0_0:=g0_0.mono hs
 obtain ⟨t8,h9,H⟩:=bd H
 refine ple E (.cl en236 (qU.calls k x y _ _ _ _ _ _ S.own.sub g0_0 g6 h9)) ?_
 rintro _ u7 a ⟨F10,A11,c12,rfl,hC⟩ E
 have hs:=hC.sub
 replace S:=S.called (X:=[]) hC
 replace g0_0:=g0_0.mono hs
 replace g6:=hs _ _ _ _ g6
 refine plc E (.r 3 1 .nil) (fun a E=>pld (hK4 _ _ (wp_ret ?_)))
 obtain rfl:=si H
 exact rt1 E ⟨_,rfl,_,_,_,rfl,S⟩
def qBF.f(x:qA):Option Int:=some x.f0
def qBF.Post(W F:World)(r:Int)(v:Value)(w':World):Prop:=∃(F':World),v=iv r∧Sm W F w' F' []
theorem qBF.calls(x:qA)(r:Int)(W F:World)(hown:Sub F W)(H:qBF.f x=some r):
    Cr 242 #[.agg #[iv x.f0,iv x.f1,iv x.f2,iv x.f3,.bool x.f4,.bool x.f5]] W (qBF.Post W F r):=by
 have S:=sT hown
 unfold qBF.f at H
 refine ent 5 rfl rfl rfl (fun a E=>?_)
 refine sq fun K1 hK1=>pl0 (plx (t:=104) E S [iv x.f0,iv x.f1,iv x.f2,iv x.f3,.bool x.f4,.bool x.f5] fun b2 u3 hb2 S a E=>plc E (.r 1 1 .nil) (fun a E=>pld (hK1 _ _ (rg E (.r 0 1<|.b 1 0 hb2<|.r 2 1<|.nil) fun a E=>(wp_ret ?_)))))
 replace S:=S.tail
 obtain rfl:=si H
 exact rt1 E ⟨_,rfl,_,rfl,S⟩
def qBG.f(x:qA)(xf0_:Int)(xf1_:Int):Option Bool:=if xf0_=0 then (if xf1_=0 then (some true) else (some (x.f2 == xf1_))) else (if x.f1=xf0_ then (if xf1_=0 then (some true) else (some (x.f2 == xf1_))) else (some false))
def qBG.Post(W F:World)(r:Bool)(v:Value)(w':World):Prop:=∃(F':World),v = .bool r∧Sm W F w' F' []
theorem qBG.calls(x:qA)(xf0_:Int)(xf1_:Int)(pf0_:Nat)(pf1_:Nat)(r:Bool)(W F:World)(hown:Sub F W)(hpf0_:F.heap[pf0_]? = some (.cells #[iv xf0_] 3 (0,0)))(hpf1_:F.heap[pf1_]? = some (.cells #[iv xf1_] 3 (0,0)))(H:qBG.f x xf0_ xf1_=some r):
    Cr 241 #[.agg #[iv x.f0,iv x.f1,iv x.f2,iv x.f3,.bool x.f4,.bool x.f5],.pointer (pb pf0_),.pointer (pb pf1_)] W (qBG.Post W F r):=by
 have S:=sT hown
 unfold qBG.f at H
 refine ent 23 rfl rfl rfl (fun a E=>?_)
 refine sq fun K1 hK1=>pl0 (plx (t:=104) E S [iv x.f0,iv x.f1,iv x.f2,iv x.f3,.bool x.f4,.bool x.f5] fun b2 u3 hb2 S a E=>plc E (.r 1 1 .nil) (fun a E=>pld (hK1 _ _ (sq fun K4 hK4=>pl0 (plc E (.b 0 0 (S.own.sub _ _ _ _ hpf0_)<|.r 1 2<|.nil) (fun a E=>E.fk 7 H (fun c5 E H=>?_) fun c5 E H=>?_))))))
 refine plc E (.r 3 6<|.b 9 0 (S.own.sub _ _ _ _ hpf1_)<|.r 10 2<|.nil) (fun a E=>E.fk 16 H (fun c6 E H=>?_) fun c6 E H=>?_)
 refine plc E (.r 12 7 .nil) (fun a E=>pld (hK4 _ _ (wp_ret ?_)))
 replace S:=S.tail
 obtain rfl:=si H
 exact rt1 E ⟨_,rfl,_,rfl,S⟩
 refine plc E (.r 12 1<|.b 13 2 hb2<|.b 14 0 (S.own.sub _ _ _ _ hpf1_)<|.r 15 4<|.nil) (fun a E=>pld (hK4 _ _ (wp_ret ?_)))
 replace S:=S.tail
 obtain rfl:=si H
 exact rt1 E ⟨_,rfl,_,rfl,S⟩
 refine plc E (.r 3 1<|.b 4 1 hb2<|.b 5 0 (S.own.sub _ _ _ _ hpf0_)<|.r 6 3<|.nil) (fun a E=>E.fk 13 H (fun c7 E H=>?_) fun c7 E H=>?_)
 refine plc E (.b 9 0 (S.own.sub _ _ _ _ hpf1_)<|.r 10 2<|.nil) (fun a E=>E.fk 16 H (fun c8 E H=>?_) fun c8 E H=>?_)
 refine plc E (.r 12 7 .nil) (fun a E=>pld (hK4 _ _ (wp_ret ?_)))
 replace S:=S.tail
 obtain rfl:=si H
 exact rt1 E ⟨_,rfl,_,rfl,S⟩
 refine plc E (.r 12 1<|.b 13 2 hb2<|.b 14 0 (S.own.sub _ _ _ _ hpf1_)<|.r 15 4<|.nil) (fun a E=>pld (hK4 _ _ (wp_ret ?_)))
 replace S:=S.tail
 obtain rfl:=si H
 exact rt1 E ⟨_,rfl,_,rfl,S⟩
 refine plc E (.r 9 10 .nil) (fun a E=>pld (hK4 _ _ (wp_ret ?_)))
 replace S:=S.tail
 obtain rfl:=si H
 exact rt1 E ⟨_,rfl,_,rfl,S⟩
mutual
def qP.l19:Nat→List qA→Int→Int→List qB→Int→Option (List qB)
 | 0,_,_,_,_,_=>none
 | k+1,x,x1c0_,x1c1_,l16,x17=>if x17<(x.length:Int) then (if 0≤x17∧x17<(x.length:Int) then ((qBG.f (nth qA.z x x17) x1c0_ x1c1_).bind fun t39=>(if t39=true then ((qBF.f (nth qA.z x x17)).bind fun t44=>((qH.f k l16 t44).bind fun t47=>(if t47.2=true then (qP.j72 k x x1c0_ x1c1_ x17 t47 l16) else ((qBF.f (nth qA.z x x17)).bind fun t53=>((qw.f l16 t47.1 [(⟨t53,0⟩:qB)]).bind fun t60=>(qP.j72 k x x1c0_ x1c1_ x17 t47 t60)))))) else (qP.l19 k x x1c0_ x1c1_ l16 (w64 (x17+1))))) else (none)) else (some l16)
def qP.j72:Nat→List qA→Int→Int→Int→Int × Bool→List qB→Option (List qB)
 | 0,_,_,_,_,_,_=>none
 | k+1,x,x1c0_,x1c1_,x17,t47,l70=>if ((nth qA.z x x17).f5)=true then (if 0≤t47.1∧t47.1<(l70.length:Int) then (qP.l19 k x x1c0_ x1c1_ (l70.set (t47.1).toNat (⟨(nth qB.z l70 t47.1).f0,(if (w64 ((nth qB.z l70 t47.1).f1+(nth qA.z x x17).f3))<65536 then (w64 ((nth qB.z l70 t47.1).f1+(nth qA.z x x17).f3)) else 65536)⟩:qB)) (w64 (x17+1))) else (none)) else (qP.l19 k x x1c0_ x1c1_ l70 (w64 (x17+1)))
end
theorem qP.l19_s k x x1c0_ x1c1_ l16 x17:type_of% (qP.l19.eq_2 x x1c0_ x1c1_ l16 x17 k):=qP.l19.eq_2 x x1c0_ x1c1_ l16 x17 k
theorem qP.j72_s k x x1c0_ x1c1_ x17 t47 l70:type_of% (qP.j72.eq_2 x x1c0_ x1c1_ x17 t47 l70 k):=qP.j72.eq_2 x x1c0_ x1c1_ x17 t47 l70 k
def qP.f(k:Nat)(x:List qA)(x1c0_:Int)(x1c1_:Int):Option (List qB):=(qAL.f k x).bind fun t6=>(if t6=0 then (qP.l19 k x x1c0_ x1c1_ [] 0) else (some []))
def qP.Post(W F:World)(r:List qB)(v:Value)(w':World):Prop:=∃(F':World)(RA0_0:OA)(rc0_0:Nat),v = .slice RA0_0 r.length rc0_0∧Sm W F w' F' [row qB.k 216 (.slice RA0_0 r.length rc0_0) r]
theorem qP.calls(k:Nat)(x:List qA)(x1c0_:Int)(x1c1_:Int)(A0_0:OA)(c0_0:Nat)(p1c0_:Nat)(p1c1_:Nat)(r:List qB)(W F:World)(hown:Sub F W)(g0_0:Rd qA.k F A0_0 c0_0 x)(hp1c0_:F.heap[p1c0_]? = some (.cells #[iv x1c0_] 3 (0,0)))(hp1c1_:F.heap[p1c1_]? = some (.cells #[iv x1c1_] 3 (0,0)))(H:qP.f k x x1c0_ x1c1_=some r):
    Cr 236 #[.slice A0_0 x.length c0_0,.func (.func 241) #[] #[.pointer (pb p1c0_),.pointer (pb p1c1_)],.func (.func 242) #[] #[]] W (qP.Post W F r):=by
 have S:=sT hown
 unfold qP.f at H
 refine ent 60 rfl rfl rfl (fun a E=>?_)
 refine rr E fun a E=>(rr E fun a E=>(sq fun K3 hK3=>sq fun K4 hK4=>pl0 (plc E (.r 0 1 .nil) (fun a E=>?_))))
 obtain ⟨t6,h7,H⟩:=bd H
 refine plq E S en80 (qAL.calls k x _ _ _ _ _ S.own.sub g0_0 h7) fun u5 S a E=>plc E (.r 2 1 .nil) (fun a E=>pld (hK4 _ _ (E.ikn 14 H (fun c8 E H=>?_) fun c8 E H=>?_)))
 refine wp_skip (hK3 _ _ (sq fun K11 hK11=>rr E fun a E=>(wp_block ?_)))
 replace S:=S.nilrow qB.k 216
 refine wp_loop_ghost (fun kq20 a w'=>∃(G:NV)(A14:OA)(c15:Nat)(l16:List qB)(x17:Int)(F18:World),kq20≤k∧Env 60 G a∧At G [(1,.func (.func 241) #[] #[.pointer (pb p1c0_),.pointer (pb p1c1_)]),(2,.func (.func 242) #[] #[]),(7,.slice A14 l16.length c15),(15,.slice A0_0 x.length c0_0),(16,iv (x.length:Int)),(17,iv x17)]∧Sm W F w' F18 [row qB.k 216 (.slice A14 l16.length c15) l16]∧Rd qA.k F18 A0_0 c0_0 x∧F18.heap[p1c0_]? = some (.cells #[iv x1c0_] 3 (0,0))∧F18.heap[p1c1_]? = some (.cells #[iv x1c1_] 3 (0,0))∧qP.l19 kq20 x x1c0_ x1c1_ l16 x17=some r) k ⟨_,none,0,[],0,F,Nat.le_refl _,E,.of,S,g0_0,hp1c0_,hp1c1_,H⟩ ?_
 rintro kq20 a u22 ⟨G,A14,c15,l16,x17,F18,hkq,E,A,S,g0_0,hp1c0_,hp1c1_,H⟩
 obtain _ | k21:=kq20
 exact zz H
 rw [qP.l19_s]at H
 obtain ⟨J,E⟩:=E.at A
 refine rr E fun a E=>(sq fun K24 hK24=>E.ik 18 H (fun c25 E H=>?_) fun c25 E H=>?_)
 refine wp_skip (hK24 _ _ (sq fun K26 hK26=>wp_block (sq fun K27 hK27=>pl0 ?_)))
 obtain ⟨c28,H⟩:=gd H
 have hE_:=E
 obtain ⟨ad29,rfl⟩:=g0_0.addr c28.1 c28.2
 replace E:=hE_
 obtain ⟨cs31,rfl,hc32⟩:=g0_0.el qA.z x17 c28.1 c28.2
 refine plc E (.x 0 c28<|.cs 1 (S.fcs hc32)<|.nil) (fun a E=>pla (t:=104) E S [iv 0,iv 0,iv 0,iv 0,.bool false,.bool false] fun b33 u34 hb33 S a E=>pls E S [iv ((nth qA.z x x17).f0),iv ((nth qA.z x x17).f1),iv ((nth qA.z x x17).f2),iv ((nth qA.z x x17).f3),.bool ((nth qA.z x x17).f4),.bool ((nth qA.z x x17).f5)] fun u35 hb33 S a E=>pld (hK27 _ _ (sq fun K36 hK36=>sq fun K37 hK37=>pl0 (plc E (.r 0 1<|.bn 1 0 6 hb33<|.nil) (fun a E=>?_)))))
 obtain ⟨t39,h40,H⟩:=bd H
 refine plq E S en241 (qBG.calls (nth qA.z x x17) x1c0_ x1c1_ _ _ _ _ _ S.own.sub hp1c0_ hp1c1_ h40) fun u38 S a E=>plc E (.r 3 1 .nil) (fun a E=>pld (hK37 _ _ (E.ibn 24 H (fun c41 E H=>?_) fun c41 E H=>?_)))
 refine wp_skip (hK36 _ _ (sq fun K42 hK42=>pl0 ?_))
 have hb33:=S.ba 0
 refine plc E (.r 0 2<|.bn 2 0 6 hb33<|.nil) (fun a E=>?_)
 obtain ⟨t44,h45,H⟩:=bd H
 refine plq E S en242 (qBF.calls (nth qA.z x x17) _ _ _ S.own.sub h45) fun u43 S a E=>?_
 obtain ⟨t47,h48,H⟩:=bd H
 refine plq E S en254 (qH.calls k21 l16 t44 _ _ _ _ _ (Sub.refl _) (S.rd_at (i:=1) rfl) h48) fun u46 S a E=>plc E (.r 5 5 .nil) (fun a E=>pld (hK42 _ _ (sq fun K49 hK49=>?_)))
 have J75:∀ kq73,kq73≤k21→∀(G:NV)(A68:OA)(c69:Nat)(l70:List qB)(F71:World)(a:Act)(w':World),Env 60 G a→At G [(1,.func (.func 241) #[] #[.pointer (pb p1c0_),.pointer (pb p1c1_)]),(2,.func (.func 242) #[] #[]),(7,.slice A68 l70.length c69),(9,.pointer (pb b33)),(10,iv t47.1),(15,.slice (some ad29) x.length c0_0),(16,iv (x.length:Int)),(17,iv x17)]→Sm W F w' F71 [box b33 #[iv ((nth qA.z x x17).f0),iv ((nth qA.z x x17).f1),iv ((nth qA.z x x17).f2),iv ((nth qA.z x x17).f3),.bool ((nth qA.z x x17).f4),.bool ((nth qA.z x x17).f5)] 104,row qB.k 216 (.slice A68 l70.length c69) l70]→Rd qA.k F71 (some ad29) c0_0 x→F71.heap[p1c0_]? = some (.cells #[iv x1c0_] 3 (0,0))→F71.heap[p1c1_]? = some (.cells #[iv x1c1_] 3 (0,0))→qP.j72 kq73 x x1c0_ x1c1_ x17 t47 l70=some r→K49 a w':=by
  intro kq73 hkq G A68 c69 l70 F71 a u76 E A S g0_0 hp1c0_ hp1c1_ H
  obtain _ | k74:=kq73
  exact zz H
  rw [qP.j72_s]at H
  obtain ⟨J,E⟩:=E.at A
  refine hK49 _ _ (sq fun K77 hK77=>pl0 ?_)
  have hb33:=S.ba 0
  refine plc E (.r 0 1<|.b 1 5 hb33<|.nil) (fun a E=>pld (hK77 _ _ (E.ib 44 H (fun c78 E H=>?_) fun c78 E H=>?_)))
  refine drawn 14 ⟨[13],[],fun q=>False⟩ mixed rfl (by kernel_rfl) (fun hst=>?_)
  replace S:=S.drew
  obtain ⟨c79,H⟩:=gd H
  have hr80:=S.ra 1
  have hE_:=E
  obtain ⟨b81,rfl⟩:=qCJ hr80 c79.1 c79.2
  replace E:=hE_
  have hr_:=S.ra 1
  obtain ⟨cs83,rfl,hc84⟩:=qCF hr_ qB.z t47.1 c79.1 c79.2
  have hb33:=S.ba 0
  have hr85:=S.ra 1
  refine mny 1 hst E (.r 0 4<|.x 4 c79<|.r 5 1<|.c 6 (hc84 1 _ rfl)<|.r 7 1<|.b 8 3 hb33<|.r 9 2<|.x 11 c79<|.r 12 1<|.nil) (fun a E=>?_)
  replace S:=S.front 1 rfl
  obtain ⟨cs90,rfl,hc91⟩:=qCF (S.row_at (i:=0) rfl) qB.z t47.1 c79.1 c79.2
  refine on1 13 E (.set (d:=qB.k) (n:=l70.length) (i:=t47.1) (⟨(nth qB.z l70 t47.1).f0,(if (w64 ((nth qB.z l70 t47.1).f1+(nth qA.z x x17).f3))<65536 then (w64 ((nth qB.z l70 t47.1).f1+(nth qA.z x x17).f3)) else 65536)⟩:qB) 1 (ea1 _ _ _) S c79 [iv ((nth qB.z l70 t47.1).f0),iv ((nth qB.z l70 t47.1).f1)] hc91 [iv ((nth qB.z l70 t47.1).f0),iv (if (w64 ((nth qB.z l70 t47.1).f1+(nth qA.z x x17).f3))<65536 then (w64 ((nth qB.z l70 t47.1).f1+(nth qA.z x x17).f3)) else 65536)] rfl) ?_
  rintro _ u89 a ⟨rfl,S,hz⟩ E
  refine ⟨.d,?_⟩
  refine dn ?_
  refine qCC ?_
  refine hK26 _ _ (pl0 (plc E (.r 0 2 .nil) (fun a E=>pld ?_)))
  have hn92:=(qCE (S.row_at (i:=0) rfl)).1
  replace E:=E.set (d:=7) (v:=.slice (pb b81) ((l70.set (t47.1).toNat (⟨(nth qB.z l70 t47.1).f0,(if (w64 ((nth qB.z l70 t47.1).f1+(nth qA.z x x17).f3))<65536 then (w64 ((nth qB.z l70 t47.1).f1+(nth qA.z x x17).f3)) else 65536)⟩:qB)).length) c69) (Eq.trans (b:=.slice (pb b81) l70.length c69) (by kernel_rfl) (by rw [← hn92]))
  replace S:Sm W F u89 F71 [row qB.k 216 (.slice (pb b81) ((l70.set (t47.1).toNat (⟨(nth qB.z l70 t47.1).f0,(if (w64 ((nth qB.z l70 t47.1).f1+(nth qA.z x x17).f3))<65536 then (w64 ((nth qB.z l70 t47.1).f1+(nth qA.z x x17).f3)) else 65536)⟩:qB)).length) c69) (l70.set (t47.1).toNat (⟨(nth qB.z l70 t47.1).f0,(if (w64 ((nth qB.z l70 t47.1).f1+(nth qA.z x x17).f3))<65536 then (w64 ((nth qB.z l70 t47.1).f1+(nth qA.z x x17).f3)) else 65536)⟩:qB)),box b33 #[iv ((nth qA.z x x17).f0),iv ((nth qA.z x x17).f1),iv ((nth qA.z x x17).f2),iv ((nth qA.z x x17).f3),.bool ((nth qA.z x x17).f4),.bool ((nth qA.z x x17).f5)] 104]:=by rw [← hn92]; exact S
  replace S:=S.pm [0] 2
  exact qCD ⟨k74,by omega,_,(pb b81),c69,(l70.set (t47.1).toNat (⟨(nth qB.z l70 t47.1).f0,(if (w64 ((nth qB.z l70 t47.1).f1+(nth qA.z x x17).f3))<65536 then (w64 ((nth qB.z l70 t47.1).f1+(nth qA.z x x17).f3)) else 65536)⟩:qB)),(w64 (x17+1)),F71,by omega,E,.of,S,g0_0,hp1c0_,hp1c1_,H⟩
  refine wp_skip ?_
  refine qCC ?_
  refine hK26 _ _ (pl0 (plc E (.r 0 2 .nil) (fun a E=>pld ?_)))
  replace S:=S.tail
  exact qCD ⟨k74,by omega,_,A68,c69,l70,(w64 (x17+1)),F71,by omega,E,.of,S,g0_0,hp1c0_,hp1c1_,H⟩
 refine rr E fun a E=>(E.ibn 34 H (fun c51 E H=>?_) fun c51 E H=>?_)
 refine wp_skip ?_
 exact J75 _ (by omega) _ A14 c15 l16 F18 _ _ E .of S g0_0 hp1c0_ hp1c1_ H
 refine pl0 (plc E (.r 0 3<|.bn 3 0 6 (S.ba 0)<|.nil) (fun a E=>?_))
 obtain ⟨t53,h54,H⟩:=bd H
 refine plq E S en242 (qBF.calls (nth qA.z x x17) _ _ _ S.own.sub h54) fun u52 S a E=>plc E (.r 5 1 .nil) (fun a E=>ple E (.lit (d:=qB.k) (e:=216) S [(⟨t53,0⟩:qB)] (.cons rfl .nil)) ?_)
 rintro _ u55 a ⟨A56,c57,rfl,S,hg⟩ E
 replace S:=S.front 2 rfl
 obtain ⟨t60,h61,H⟩:=bd H
 refine ple E (.cl en256 (qw.calls l16 t47.1 [(⟨t53,0⟩:qB)] _ _ _ _ _ _ _ (Own.left (X:=[row qB.k 216 (.slice A14 l16.length c15) l16,row qB.k 216 (.slice A56 ([(⟨t53,0⟩:qB)].length) c57) [(⟨t53,0⟩:qB)]]) S.own) h61)) ?_
 rintro _ u59 a ⟨F62,A63,c64,rfl,hC⟩ E
 have hs:=hC.sub
 replace S:=S.called (X:=[row qB.k 216 (.slice A14 l16.length c15) l16,row qB.k 216 (.slice A56 ([(⟨t53,0⟩:qB)].length) c57) [(⟨t53,0⟩:qB)]]) hC
 replace g0_0:=g0_0.mono hs
 replace hp1c0_:=hs _ _ _ _ hp1c0_
 replace hp1c1_:=hs _ _ _ _ hp1c1_
 refine plc E (.r 8 1 .nil) (fun a E=>pld ?_)
 replace S:=S.front 1 rfl
 exact J75 _ (by omega) _ A63 c64 t60 F62 _ _ E .of S g0_0 hp1c0_ hp1c1_ H
 refine wp_exit ?_
 refine hK26 _ _ (pl0 (plc E (.r 0 2 .nil) (fun a E=>pld ?_)))
 replace S:=S.tail
 exact qCD ⟨k21,by omega,_,A14,c15,l16,(w64 (x17+1)),F18,by omega,E,.of,S,g0_0,hp1c0_,hp1c1_,H⟩
 refine wp_exit ?_
 refine hK11 _ _ (rr E fun a E=>(wp_ret ?_))
 obtain rfl:=si H
 exact rt1 E ⟨_,rfl,_,_,_,rfl,S⟩
 refine rr E fun a E=>(wp_ret (qCA ?_))
 replace S:=S.nilrow qB.k 216
 obtain rfl:=si H
 exact rt1 E ⟨_,rfl,_,_,_,rfl,S⟩
def qBd.f(k:Nat)(x:List qA)(y:Int)(z:Int):Option (List qB):=(qP.f k x y z).bind fun t12=>(some t12)
def qBd.Post(W F:World)(r:List qB)(v:Value)(w':World):Prop:=∃(F':World)(RA0_0:OA)(rc0_0:Nat),v = .slice RA0_0 r.length rc0_0∧Sm W F w' F' [row qB.k 216 (.slice RA0_0 r.length rc0_0) r]
theorem qBd.calls(k:Nat)(x:List qA)(y:Int)(z:Int)(A0_0:OA)(c0_0:Nat)(r:List qB)(W F:World)(hown:Sub F W)(g0_0:Rd qA.k F A0_0 c0_0 x)(H:qBd.f k x y z=some r):
    Cr 227 #[.slice A0_0 x.length c0_0,iv y,iv z] W (qBd.Post W F r):=by
 have S:=sT hown
 unfold qBd.f at H
 refine ent 10 rfl rfl rfl (fun a E=>?_)
 refine sq fun K1 hK1=>pl0 (plx (t:=3) E S [iv y] fun b2 u3 hb2 S a E=>plx (t:=3) E S [iv z] fun b4 u5 hb4 S a E=>plc E (.r 2 1 .nil) (fun a E=>pld (hK1 _ _ (sq fun K6 hK6=>pl0 (plc E (.r 0 2 .nil) (fun a E=>?_))))))
 replace S:=S.front 1 rfl
 obtain ⟨F7,hs,g8,S⟩:=S.giveb
 replace g0_0:=g0_0.mono hs
 obtain ⟨F9,hs,g10,S⟩:=S.giveb
 replace g0_0:=g0_0.mono hs
 replace g8:=hs _ _ _ _ g8
 obtain ⟨t12,h13,H⟩:=bd H
 refine ple E (.cl en236 (qP.calls k x y z _ _ _ _ _ _ _ S.own.sub g0_0 g8 g10 h13)) ?_
 rintro _ u11 a ⟨F14,A15,c16,rfl,hC⟩ E
 have hs:=hC.sub
 replace S:=S.called (X:=[]) hC
 replace g0_0:=g0_0.mono hs
 replace g8:=hs _ _ _ _ g8
 replace g10:=hs _ _ _ _ g10
 refine plc E (.r 3 1 .nil) (fun a E=>pld (hK6 _ _ (wp_ret ?_)))
 obtain rfl:=si H
 exact rt1 E ⟨_,rfl,_,_,_,rfl,S⟩
end Go.Proofs.YtpohepinmjmbkaaGreat.QK
