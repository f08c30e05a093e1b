import Derived.Test.YthgfhlbjkmjlpaaGreatPG1
namespace Go.Proofs.YthgfhlbjkmjlpaaGreat.PG
open Go Go.RowKit Go.Proofs.YthgfhlbjkmjlpaaGreat.Sl
set_option linter.unusedVariables false
set_option linter.unusedSimpArgs false
set_option maxHeartbeats 4000000
set_option maxRecDepth 100000
mutual
def qAp.l11:Nat→qD→Int→Option Int
 | 0,_,_=>none
 | k+1,x,x10=>if x10<(x.f6.length:Int) then (if 0≤x10∧x10<(x.f6.length:Int) then ((qBK.f ((nth qC.z x.f6 x10).f0) 0 x.f0).bind fun t33=>(if t33=true then ((qAT.f k x (nth qC.z x.f6 x10)).bind fun t37=>(qAp.j40 k x x10 (!t37))) else (qAp.j40 k x x10 true))) else (none)) else (some 0)
def qAp.j40:Nat→qD→Int→Bool→Option Int
 | 0,_,_,_=>none
 | k+1,x,x10,y39=>if y39=true then (some 1) else (qAp.l11 k x (w64 (x10+1)))
end
theorem qAp.l11_s k x x10:type_of% (qAp.l11.eq_2 x x10 k):=qAp.l11.eq_2 x x10 k
theorem qAp.j40_s k x x10 y39:type_of% (qAp.j40.eq_2 x x10 y39 k):=qAp.j40.eq_2 x x10 y39 k
def qAp.f(k:Nat)(x:qD):Option Int:=if (x.f6.length:Int)=x.f3 then (qAp.l11 k x 0) else (some 1)
def qAp.Post(W F:World)(r:Int)(v:Value)(w':World):Prop:=∃(F':World),v=iv r∧Sm W F w' F' []
theorem qAp.calls(k:Nat)(x:qD)(A0_4:OA)(c0_4:Nat)(A0_5:OA)(c0_5:Nat)(A0_6:OA)(c0_6:Nat)(r:Int)(W F:World)(hown:Sub F W)(g0_4:Rd qA.k F A0_4 c0_4 x.f4)(g0_5:Rd qE.k F A0_5 c0_5 x.f5)(g0_6:Rd qC.k F A0_6 c0_6 x.f6)(H:qAp.f k x=some r):
    Cr 95 #[.agg #[iv x.f0,iv x.f1,iv x.f2,iv x.f3,.slice A0_4 x.f4.length c0_4,.slice A0_5 x.f5.length c0_5,.slice A0_6 x.f6.length c0_6]] W (qAp.Post W F r):=by
 have S:=sT hown
 unfold qAp.f at H
 refine ent 31 rfl rfl rfl (fun a E=>?_)
 refine sq fun K1 hK1=>pl0 (plx (t:=26) E S [iv x.f0,iv x.f1,iv x.f2,iv x.f3,.slice A0_4 x.f4.length c0_4,.slice A0_5 x.f5.length c0_5,.slice A0_6 x.f6.length c0_6] fun b2 u3 hb2 S a E=>plc E (.r 1 1 .nil) (fun a E=>pld (hK1 _ _ (sq fun K4 hK4=>rg E (.r 0 1<|.b 1 6 hb2<|.r 2 2<|.b 4 3 hb2<|.r 5 1<|.nil) fun a E=>(E.ikn 10 H (fun c6 E H=>?_) fun c6 E H=>?_)))))
 refine wp_skip (hK4 _ _ (sq fun K8 hK8=>rg E (.r 0 1<|.b 1 6 hb2<|.r 2 2<|.nil) fun a E=>(wp_block ?_)))
 refine wp_loop_ghost (fun kq12 a w'=>∃(G:NV)(x10:Int),kq12≤k∧Env 31 G a∧At G [(1,.pointer (pb b2)),(12,.slice A0_6 x.f6.length c0_6),(13,iv (x.f6.length:Int)),(14,iv x10)]∧Sm W F w' F [box b2 #[iv x.f0,iv x.f1,iv x.f2,iv x.f3,.slice A0_4 x.f4.length c0_4,.slice A0_5 x.f5.length c0_5,.slice A0_6 x.f6.length c0_6] 26]∧qAp.l11 kq12 x x10=some r) k ⟨_,0,Nat.le_refl _,E,.of,S,H⟩ ?_
 rintro kq12 a u14 ⟨G,x10,hkq,E,A,S,H⟩
 obtain _ | k13:=kq12
 exact zz H
 rw [qAp.l11_s]at H
 obtain ⟨J,E⟩:=E.at A
 refine rr E fun a E=>(sq fun K16 hK16=>E.ik 15 H (fun c17 E H=>?_) fun c17 E H=>?_)
 refine wp_skip (hK16 _ _ (sq fun K18 hK18=>wp_block (sq fun K19 hK19=>pl0 ?_)))
 obtain ⟨c20,H⟩:=gd H
 have hE_:=E
 obtain ⟨ad21,rfl⟩:=g0_6.addr c20.1 c20.2
 replace E:=hE_
 obtain ⟨cs23,⟨A25,c26,rfl,g27⟩,hc24⟩:=g0_6.el qC.z x10 c20.1 c20.2
 refine plc E (.x 0 c20<|.cs 1 (S.fcs hc24)<|.nil) (fun a E=>pla (t:=73) E S [iv 0,.slice none 0 0] fun b28 u29 hb28 S a E=>pls E S [iv ((nth qC.z x.f6 x10).f0),.slice A25 (((nth qC.z x.f6 x10).f1).length) c26] fun u30 hb28 S a E=>pld (hK19 _ _ (sq fun K31 hK31=>?_)))
 have J43:∀ kq41,kq41≤k13→∀(G:NV)(y39:Bool)(a:Act)(w':World),Env 31 G a→At G [(1,.pointer (pb b2)),(12,.slice (some ad21) x.f6.length c0_6),(13,iv (x.f6.length:Int)),(14,iv x10),(29,.bool y39)]→Sm W F w' F [box b28 #[iv ((nth qC.z x.f6 x10).f0),.slice A25 (((nth qC.z x.f6 x10).f1).length) c26] 73,box b2 #[iv x.f0,iv x.f1,iv x.f2,iv x.f3,.slice A0_4 x.f4.length c0_4,.slice A0_5 x.f5.length c0_5,.slice (some ad21) x.f6.length c0_6] 26]→qAp.j40 kq41 x x10 y39=some r→K31 a w':=by
  intro kq41 hkq G y39 a u44 E A S H
  obtain _ | k42:=kq41
  exact zz H
  rw [qAp.j40_s]at H
  obtain ⟨J,E⟩:=E.at A
  refine hK31 _ _ (E.ib 29 H (fun c45 E H=>?_) fun c45 E H=>?_)
  refine rr E fun a E=>(wp_ret (qCR (qCQ (qCQ (qCR (qCQ ?_))))))
  replace S:=S.pm [] 2
  obtain rfl:=si H
  exact rt1 E ⟨_,rfl,_,rfl,S⟩
  refine wp_skip ?_
  refine qCS ?_
  refine hK18 _ _ (pl0 (plc E (.r 0 2 .nil) (fun a E=>pld ?_)))
  replace S:=S.tail
  exact qCT ⟨k42,by omega,_,(w64 (x10+1)),by omega,E,.of,S,H⟩
 refine pl0 ?_
 have hb2:=S.ba 1
 refine plc E (.r 0 1<|.b 1 0 hb28<|.r 2 1<|.b 3 0 hb2<|.nil) (fun a E=>?_)
 obtain ⟨t33,h34,H⟩:=bd H
 refine plq E S en93 (qBK.calls ((nth qC.z x.f6 x10).f0) 0 x.f0 _ _ _ S.own.sub h34) fun u32 S a E=>plc E (.r 5 2 .nil) (fun a E=>E.fbn 24 H (fun c35 E H=>?_) fun c35 E H=>?_)
 refine plc E (.bn 7 0 7 (S.ba 1)<|.bn 8 0 2 (S.ba 0)<|.nil) (fun a E=>?_)
 obtain ⟨t37,h38,H⟩:=bd H
 refine plq E S en122 (qAT.calls k13 x (nth qC.z x.f6 x10) _ _ _ _ _ _ _ _ _ _ _ S.own.sub g0_4 g0_5 g0_6 g27 h38) fun u36 S a E=>plc E (.r 10 2 .nil) (fun a E=>pld ?_)
 exact J43 _ (by omega) _ (!t37) _ _ E .of S H
 refine plc E (.r 7 5 .nil) (fun a E=>pld ?_)
 exact J43 _ (by omega) _ true _ _ E .of S H
 refine wp_exit ?_
 refine hK8 _ _ (rr E fun a E=>(wp_ret ?_))
 replace S:=S.tail
 obtain rfl:=si H
 exact rt1 E ⟨_,rfl,_,rfl,S⟩
 refine rr E fun a E=>(wp_ret (qCQ ?_))
 replace S:=S.tail
 obtain rfl:=si H
 exact rt1 E ⟨_,rfl,_,rfl,S⟩
mutual
def qAC.j26:Nat→qD→Bool→Option Int
 | 0,_,_=>none
 | k+1,x,y25=>if y25=true then (some 1) else (qAC.l36 k x 0)
def qAC.l36:Nat→qD→Int→Option Int
 | 0,_,_=>none
 | k+1,x,x35=>if x35<(x.f5.length:Int) then (if 0≤x35∧x35<(x.f5.length:Int) then ((qBK.f ((nth qE.z x.f5 x35).f0) 0 (w64 (x.f3 - 1))).bind fun t58=>(if t58=true then (if x35>0 then (if 0≤(w64 (x35 - 1))∧(w64 (x35 - 1))<(x.f5.length:Int) then (if (nth qE.z x.f5 x35).f0≤(nth qE.z x.f5 (w64 (x35 - 1))).f0 then (qAC.j85 k x x35 true) else ((qBK.f (((nth qE.z x.f5 x35).f1).length:Int) 1 x.f1).bind fun t71=>(if t71=true then ((qAS.f k x.f4 ((nth qE.z x.f5 x35).f1)).bind fun t75=>(qAC.j85 k x x35 (!t75))) else (qAC.j85 k x x35 true)))) else (none)) else ((qBK.f (((nth qE.z x.f5 x35).f1).length:Int) 1 x.f1).bind fun t78=>(if t78=true then ((qAS.f k x.f4 ((nth qE.z x.f5 x35).f1)).bind fun t82=>(qAC.j85 k x x35 (!t82))) else (qAC.j85 k x x35 true)))) else (qAC.j85 k x x35 true))) else (none)) else ((qAp.f k x).bind fun t94=>(some t94))
def qAC.j85:Nat→qD→Int→Bool→Option Int
 | 0,_,_,_=>none
 | k+1,x,x35,y84=>if y84=true then (some 1) else (qAC.l36 k x (w64 (x35+1)))
end
theorem qAC.j26_s k x y25:type_of% (qAC.j26.eq_2 x y25 k):=qAC.j26.eq_2 x y25 k
theorem qAC.l36_s k x x35:type_of% (qAC.l36.eq_2 x x35 k):=qAC.l36.eq_2 x x35 k
theorem qAC.j85_s k x x35 y84:type_of% (qAC.j85.eq_2 x x35 y84 k):=qAC.j85.eq_2 x x35 y84 k
def qAC.f(k:Nat)(x:qD):Option Int:=(qBK.f x.f0 0 2147483647).bind fun t7=>(if t7=true then ((qBK.f x.f1 1 3).bind fun t11=>(if t11=true then ((qBK.f x.f2 1 x.f1).bind fun t15=>(if t15=true then ((qBK.f x.f3 1 8).bind fun t19=>(if t19=true then ((qAQ.f k x.f4).bind fun t23=>(qAC.j26 k x (!(t23 == 0)))) else (qAC.j26 k x true))) else (qAC.j26 k x true))) else (qAC.j26 k x true))) else (qAC.j26 k x true))
def qAC.Post(W F:World)(r:Int)(v:Value)(w':World):Prop:=∃(F':World),v=iv r∧Sm W F w' F' []
theorem qAC.calls(k:Nat)(x:qD)(A0_4:OA)(c0_4:Nat)(A0_5:OA)(c0_5:Nat)(A0_6:OA)(c0_6:Nat)(r:Int)(W F:World)(hown:Sub F W)(g0_4:Rd qA.k F A0_4 c0_4 x.f4)(g0_5:Rd qE.k F A0_5 c0_5 x.f5)(g0_6:Rd qC.k F A0_6 c0_6 x.f6)(H:qAC.f k x=some r):
    Cr 65 #[.agg #[iv x.f0,iv x.f1,iv x.f2,iv x.f3,.slice A0_4 x.f4.length c0_4,.slice A0_5 x.f5.length c0_5,.slice A0_6 x.f6.length c0_6]] W (qAC.Post W F r):=by
 have S:=sT hown
 unfold qAC.f at H
 refine ent 86 rfl rfl rfl (fun a E=>?_)
 refine sq fun K1 hK1=>pl0 (plx (t:=26) E S [iv x.f0,iv x.f1,iv x.f2,iv x.f3,.slice A0_4 x.f4.length c0_4,.slice A0_5 x.f5.length c0_5,.slice A0_6 x.f6.length c0_6] fun b2 u3 hb2 S a E=>plc E (.r 1 1 .nil) (fun a E=>pld (hK1 _ _ (sq fun K4 hK4=>sq fun K5 hK5=>?_))))
 have J29:∀ kq27,kq27≤k→∀(G:NV)(y25:Bool)(a:Act)(w':World),Env 86 G a→At G [(1,.pointer (pb b2)),(34,.bool y25)]→Sm W F w' F [box b2 #[iv x.f0,iv x.f1,iv x.f2,iv x.f3,.slice A0_4 x.f4.length c0_4,.slice A0_5 x.f5.length c0_5,.slice A0_6 x.f6.length c0_6] 26]→qAC.j26 kq27 x y25=some r→K5 a w':=by
  intro kq27 hkq G y25 a u30 E A S H
  obtain _ | k28:=kq27
  exact zz H
  rw [qAC.j26_s]at H
  obtain ⟨J,E⟩:=E.at A
  refine hK5 _ _ (E.ib 34 H (fun c31 E H=>?_) fun c31 E H=>?_)
  refine rr E fun a E=>(wp_ret (qCQ ?_))
  replace S:=S.tail
  obtain rfl:=si H
  exact rt1 E ⟨_,rfl,_,rfl,S⟩
  refine wp_skip (hK4 _ _ (sq fun K33 hK33=>sq fun K34 hK34=>pl0 ?_))
  have hb2:=S.ba 0
  refine plc E (.r 0 1<|.b 1 5 hb2<|.r 2 2<|.nil) (fun a E=>pld (hK34 _ _ (wp_block ?_)))
  refine wp_loop_ghost (fun kq37 a w'=>∃(G:NV)(x35:Int),kq37≤k28∧Env 86 G a∧At G [(1,.pointer (pb b2)),(36,.slice A0_5 x.f5.length c0_5),(37,iv (x.f5.length:Int)),(38,iv x35)]∧Sm W F w' F [box b2 #[iv x.f0,iv x.f1,iv x.f2,iv x.f3,.slice A0_4 x.f4.length c0_4,.slice A0_5 x.f5.length c0_5,.slice A0_6 x.f6.length c0_6] 26]∧qAC.l36 kq37 x x35=some r) k28 ⟨_,0,Nat.le_refl _,E,.of,S,H⟩ ?_
  rintro kq37 a u39 ⟨G,x35,hkq,E,A,S,H⟩
  obtain _ | k38:=kq37
  exact zz H
  rw [qAC.l36_s]at H
  obtain ⟨J,E⟩:=E.at A
  refine rr E fun a E=>(sq fun K41 hK41=>E.ik 39 H (fun c42 E H=>?_) fun c42 E H=>?_)
  refine wp_skip (hK41 _ _ (sq fun K43 hK43=>wp_block (sq fun K44 hK44=>pl0 ?_)))
  obtain ⟨c45,H⟩:=gd H
  have hE_:=E
  obtain ⟨ad46,rfl⟩:=g0_5.addr c45.1 c45.2
  replace E:=hE_
  obtain ⟨cs48,⟨A50,c51,rfl,g52⟩,hc49⟩:=g0_5.el qE.z x35 c45.1 c45.2
  refine plc E (.r 0 1<|.x 1 c45<|.cs 2 (S.fcs hc49)<|.nil) (fun a E=>pla (t:=75) E S [iv 0,.slice none 0 0] fun b53 u54 hb53 S a E=>plc E (.r 4 1 .nil) (fun a E=>pls E S [iv ((nth qE.z x.f5 x35).f0),.slice A50 (((nth qE.z x.f5 x35).f1).length) c51] fun u55 hb53 S a E=>pld (hK44 _ _ (sq fun K56 hK56=>?_))))
  have J88:∀ kq86,kq86≤k38→∀(G:NV)(y84:Bool)(a:Act)(w':World),Env 86 G a→At G [(1,.pointer (pb b2)),(36,.slice (some ad46) x.f5.length c0_5),(37,iv (x.f5.length:Int)),(38,iv x35),(82,.bool y84)]→Sm W F w' F [box b53 #[iv ((nth qE.z x.f5 x35).f0),.slice A50 (((nth qE.z x.f5 x35).f1).length) c51] 75,box b2 #[iv x.f0,iv x.f1,iv x.f2,iv x.f3,.slice A0_4 x.f4.length c0_4,.slice (some ad46) x.f5.length c0_5,.slice A0_6 x.f6.length c0_6] 26]→qAC.j85 kq86 x x35 y84=some r→K56 a w':=by
   intro kq86 hkq G y84 a u89 E A S H
   obtain _ | k87:=kq86
   exact zz H
   rw [qAC.j85_s]at H
   obtain ⟨J,E⟩:=E.at A
   refine hK56 _ _ (E.ib 82 H (fun c90 E H=>?_) fun c90 E H=>?_)
   refine rr E fun a E=>(wp_ret (qCR (qCQ (qCQ (qCR (qCQ ?_))))))
   replace S:=S.pm [] 2
   obtain rfl:=si H
   exact rt1 E ⟨_,rfl,_,rfl,S⟩
   refine wp_skip ?_
   refine qCS ?_
   refine hK43 _ _ (pl0 (plc E (.r 0 2 .nil) (fun a E=>pld ?_)))
   replace S:=S.tail
   exact qCT ⟨k87,by omega,_,(w64 (x35+1)),by omega,E,.of,S,H⟩
  refine drawn 40 ⟨[],[],fun q=>False⟩ mixed rfl (by kernel_rfl) (fun hst=>?_)
  replace S:=S.drew
  have hb53:=S.ba 0
  have hb2:=S.ba 1
  refine mny 35 hst E (.r 0 1<|.b 1 0 hb53<|.r 2 1<|.b 3 3 hb2<|.r 4 1<|.nil) (fun a E=>?_)
  obtain ⟨t58,h59,H⟩:=bd H
  refine on1 5 E (.cl en93 (qBK.calls ((nth qE.z x.f5 x35).f0) 0 (w64 (x.f3 - 1)) _ _ _ S.own.sub h59)) ?_
  rintro _ u57 a ⟨_,rfl,hC⟩ E
  refine ⟨.of hC.agr,?_⟩
  replace S:=S.lent hC
  refine mny 32 hst E (.r 6 2 .nil) (fun a E=>?_)
  refine E.fbn 50 H (fun c60 E H=>?_) fun c60 E H=>?_
  refine mny 29 hst E (.r 8 3 .nil) (fun a E=>?_)
  refine E.fk 53 H (fun c61 E H=>?_) fun c61 E H=>?_
  have hb53:=S.ba 0
  have hb2:=S.ba 1
  obtain ⟨c62,H⟩:=gd H
  obtain ⟨cs64,⟨A66,c67,rfl,g68⟩,hc65⟩:=g0_5.el qE.z (w64 (x35 - 1)) c62.1 c62.2
  refine mny 16 hst E (.r 11 1<|.b 12 0 hb53<|.r 13 1<|.b 14 5 hb2<|.r 15 2<|.x 17 c62<|.r 18 1<|.c 19 (S.fc hc65 0)<|.r 20 4<|.nil) (fun a E=>?_)
  refine E.fk 66 H (fun c69 E H=>?_) fun c69 E H=>?_
  refine mny 0 hst E (.r 24 16 .nil) (fun a E=>?_)
  refine dn ?_
  exact J88 _ (by omega) _ true _ _ E .of S H
  refine mny 11 hst E (.r 24 1<|.b 25 1 hb53<|.r 26 2<|.b 28 1 hb2<|.nil) (fun a E=>?_)
  obtain ⟨t71,h72,H⟩:=bd H
  refine on1 29 E (.cl en93 (qBK.calls (((nth qE.z x.f5 x35).f1).length:Int) 1 x.f1 _ _ _ S.own.sub h72)) ?_
  rintro _ u70 a ⟨_,rfl,hC⟩ E
  refine ⟨.of hC.agr,?_⟩
  replace S:=S.lent hC
  refine mny 7 hst E (.r 30 3 .nil) (fun a E=>?_)
  refine E.fbn 75 H (fun c73 E H=>?_) fun c73 E H=>?_
  have hb2:=S.ba 1
  have hb53:=S.ba 0
  refine mny 3 hst E (.r 33 1<|.b 34 4 hb2<|.r 35 1<|.b 36 1 hb53<|.nil) (fun a E=>?_)
  obtain ⟨t75,h76,H⟩:=bd H
  refine on1 37 E (.cl en45 (qAS.calls k38 x.f4 ((nth qE.z x.f5 x35).f1) _ _ _ _ _ _ _ S.own.sub g0_4 g52 h76)) ?_
  rintro _ u74 a ⟨_,rfl,hC⟩ E
  refine ⟨.of hC.agr,?_⟩
  replace S:=S.lent hC
  refine mny 0 hst E (.r 38 2 .nil) (fun a E=>?_)
  refine dn ?_
  exact J88 _ (by omega) _ (!t75) _ _ E .of S H
  refine mny 0 hst E (.r 33 7 .nil) (fun a E=>?_)
  refine dn ?_
  exact J88 _ (by omega) _ true _ _ E .of S H
  have hb53:=S.ba 0
  have hb2:=S.ba 1
  refine mny 11 hst E (.r 11 14<|.b 25 1 hb53<|.r 26 2<|.b 28 1 hb2<|.nil) (fun a E=>?_)
  obtain ⟨t78,h79,H⟩:=bd H
  refine on1 29 E (.cl en93 (qBK.calls (((nth qE.z x.f5 x35).f1).length:Int) 1 x.f1 _ _ _ S.own.sub h79)) ?_
  rintro _ u77 a ⟨_,rfl,hC⟩ E
  refine ⟨.of hC.agr,?_⟩
  replace S:=S.lent hC
  refine mny 7 hst E (.r 30 3 .nil) (fun a E=>?_)
  refine E.fbn 75 H (fun c80 E H=>?_) fun c80 E H=>?_
  have hb2:=S.ba 1
  have hb53:=S.ba 0
  refine mny 3 hst E (.r 33 1<|.b 34 4 hb2<|.r 35 1<|.b 36 1 hb53<|.nil) (fun a E=>?_)
  obtain ⟨t82,h83,H⟩:=bd H
  refine on1 37 E (.cl en45 (qAS.calls k38 x.f4 ((nth qE.z x.f5 x35).f1) _ _ _ _ _ _ _ S.own.sub g0_4 g52 h83)) ?_
  rintro _ u81 a ⟨_,rfl,hC⟩ E
  refine ⟨.of hC.agr,?_⟩
  replace S:=S.lent hC
  refine mny 0 hst E (.r 38 2 .nil) (fun a E=>?_)
  refine dn ?_
  exact J88 _ (by omega) _ (!t82) _ _ E .of S H
  refine mny 0 hst E (.r 33 7 .nil) (fun a E=>?_)
  refine dn ?_
  exact J88 _ (by omega) _ true _ _ E .of S H
  refine mny 0 hst E (.r 8 32 .nil) (fun a E=>?_)
  refine dn ?_
  exact J88 _ (by omega) _ true _ _ E .of S H
  refine wp_exit ?_
  refine hK33 _ _ (sq fun K92 hK92=>pl0 (plc E (.bn 0 0 7 (S.ba 0) .nil) (fun a E=>?_)))
  obtain ⟨t94,h95,H⟩:=bd H
  refine plq E S en95 (qAp.calls k38 x _ _ _ _ _ _ _ _ _ S.own.sub g0_4 g0_5 g0_6 h95) fun u93 S a E=>plc E (.r 2 1 .nil) (fun a E=>pld (hK92 _ _ (wp_ret ?_)))
  replace S:=S.tail
  obtain rfl:=si H
  exact rt1 E ⟨_,rfl,_,rfl,S⟩
 refine pl0 (plc E (.r 0 1<|.b 1 0 hb2<|.nil) (fun a E=>?_))
 obtain ⟨t7,h8,H⟩:=bd H
 refine plq E S en93 (qBK.calls x.f0 0 2147483647 _ _ _ S.own.sub h8) fun u6 S a E=>plc E (.r 3 2 .nil) (fun a E=>E.fbn 9 H (fun c9 E H=>?_) fun c9 E H=>?_)
 have hb2:=S.ba 0
 refine plc E (.r 5 1<|.b 6 1 hb2<|.nil) (fun a E=>?_)
 obtain ⟨t11,h12,H⟩:=bd H
 refine plq E S en93 (qBK.calls x.f1 1 3 _ _ _ S.own.sub h12) fun u10 S a E=>plc E (.r 8 3 .nil) (fun a E=>E.fbn 15 H (fun c13 E H=>?_) fun c13 E H=>?_)
 have hb2:=S.ba 0
 refine plc E (.r 11 1<|.b 12 2 hb2<|.r 13 1<|.b 14 1 hb2<|.nil) (fun a E=>?_)
 obtain ⟨t15,h16,H⟩:=bd H
 refine plq E S en93 (qBK.calls x.f2 1 x.f1 _ _ _ S.own.sub h16) fun u14 S a E=>plc E (.r 16 3 .nil) (fun a E=>E.fbn 23 H (fun c17 E H=>?_) fun c17 E H=>?_)
 have hb2:=S.ba 0
 refine plc E (.r 19 1<|.b 20 3 hb2<|.nil) (fun a E=>?_)
 obtain ⟨t19,h20,H⟩:=bd H
 refine plq E S en93 (qBK.calls x.f3 1 8 _ _ _ S.own.sub h20) fun u18 S a E=>plc E (.r 22 3 .nil) (fun a E=>E.fbn 29 H (fun c21 E H=>?_) fun c21 E H=>?_)
 refine plc E (.r 25 1<|.b 26 4 (S.ba 0)<|.nil) (fun a E=>?_)
 obtain ⟨t23,h24,H⟩:=bd H
 refine plq E S en74 (qAQ.calls k x.f4 _ _ _ _ _ S.own.sub g0_4 h24) fun u22 S a E=>plc E (.r 28 2 .nil) (fun a E=>pld ?_)
 exact J29 _ (by omega) _ (!(t23 == 0)) _ _ E .of S H
 refine plc E (.r 25 5 .nil) (fun a E=>pld ?_)
 exact J29 _ (by omega) _ true _ _ E .of S H
 refine plc E (.r 19 11 .nil) (fun a E=>pld ?_)
 exact J29 _ (by omega) _ true _ _ E .of S H
 refine plc E (.r 11 19 .nil) (fun a E=>pld ?_)
 exact J29 _ (by omega) _ true _ _ E .of S H
 refine plc E (.r 5 25 .nil) (fun a E=>pld ?_)
 exact J29 _ (by omega) _ true _ _ E .of S H
def qCF.f(x:qF):Option Bool:=if x.f0=1 then (if x.f5=0 then (some ((x.f6.length:Int) == 0)) else (some false)) else (if x.f0=2 then (if x.f2=0 then (if x.f3=0 then (if x.f5=0 then (some ((x.f6.length:Int) == 0)) else (some false)) else (some false)) else (some false)) else (if x.f0=10 then (if x.f1=0 then (if x.f2=0 then (if x.f3=0 then (some ((x.f6.length:Int) == 0)) else (some false)) else (some false)) else (some false)) else (if x.f0=8 then (if x.f1=0 then (if x.f2=0 then (if x.f3=0 then (some (x.f4 == 0)) else (some false)) else (some false)) else (some false)) else (if x.f2=0 then (if x.f3=0 then (if x.f4=0 then (if x.f5=0 then (if (x.f6.length:Int)=0 then (if x.f0=9 then (some (x.f1 == 0)) else (some true)) else (some false)) else (some false)) else (some false)) else (some false)) else (some false)))))
def qCF.Post(W F:World)(r:Bool)(v:Value)(w':World):Prop:=∃(F':World),v = .bool r∧Sm W F w' F' []
theorem qCF.calls(x:qF)(A0_6:OA)(c0_6:Nat)(r:Bool)(W F:World)(hown:Sub F W)(g0_6:Rd ki F A0_6 c0_6 x.f6)(H:qCF.f x=some r):
    Cr 68 #[.agg #[iv x.f0,iv x.f1,iv x.f2,iv x.f3,iv x.f4,iv x.f5,.slice A0_6 x.f6.length c0_6]] W (qCF.Post W F r):=by
 have S:=sT hown
 unfold qCF.f at H
 refine ent 112 rfl rfl rfl (fun a E=>?_)
 refine sq fun K1 hK1=>pl0 (plx (t:=29) E S [iv x.f0,iv x.f1,iv x.f2,iv x.f3,iv x.f4,iv x.f5,.slice A0_6 x.f6.length c0_6] fun b2 u3 hb2 S a E=>plc E (.r 1 1 .nil) (fun a E=>pld (hK1 _ _ (sq fun K4 hK4=>rg E (.r 0 1<|.b 1 0 hb2<|.nil) fun a E=>(wp_block (rr E fun a E=>(E.ik 5 H (fun c7 E H=>?_) fun c7 E H=>?_)))))))
 refine sq fun K8 hK8=>pl0 (plc E (.r 0 1<|.b 1 5 hb2<|.r 2 2<|.nil) (fun a E=>E.fk 10 H (fun c9 E H=>?_) fun c9 E H=>?_))
 refine plc E (.r 4 1<|.b 5 6 hb2<|.r 6 4<|.nil) (fun a E=>pld (hK8 _ _ (wp_ret (qCR (qCQ ?_)))))
 replace S:=S.tail
 obtain rfl:=si H
 exact rt1 E ⟨_,rfl,_,rfl,S⟩
 refine plc E (.r 4 6 .nil) (fun a E=>pld (hK8 _ _ (wp_ret (qCR (qCQ ?_)))))
 replace S:=S.tail
 obtain rfl:=si H
 exact rt1 E ⟨_,rfl,_,rfl,S⟩
 refine rr E fun a E=>(E.ik 16 H (fun c11 E H=>?_) fun c11 E H=>?_)
 refine sq fun K12 hK12=>pl0 (plc E (.r 0 1<|.b 1 2 hb2<|.r 2 2<|.nil) (fun a E=>E.fk 21 H (fun c13 E H=>?_) fun c13 E H=>?_))
 refine plc E (.r 4 1<|.b 5 3 hb2<|.r 6 3<|.nil) (fun a E=>E.fk 26 H (fun c14 E H=>?_) fun c14 E H=>?_)
 refine plc E (.r 9 1<|.b 10 5 hb2<|.r 11 3<|.nil) (fun a E=>E.fk 31 H (fun c15 E H=>?_) fun c15 E H=>?_)
 refine plc E (.r 14 1<|.b 15 6 hb2<|.r 16 4<|.nil) (fun a E=>pld (hK12 _ _ (wp_ret (qCR (qCQ ?_)))))
 replace S:=S.tail
 obtain rfl:=si H
 exact rt1 E ⟨_,rfl,_,rfl,S⟩
 refine plc E (.r 14 6 .nil) (fun a E=>pld (hK12 _ _ (wp_ret (qCR (qCQ ?_)))))
 replace S:=S.tail
 obtain rfl:=si H
 exact rt1 E ⟨_,rfl,_,rfl,S⟩
 refine plc E (.r 9 11 .nil) (fun a E=>pld (hK12 _ _ (wp_ret (qCR (qCQ ?_)))))
 replace S:=S.tail
 obtain rfl:=si H
 exact rt1 E ⟨_,rfl,_,rfl,S⟩
 refine plc E (.r 4 16 .nil) (fun a E=>pld (hK12 _ _ (wp_ret (qCR (qCQ ?_)))))
 replace S:=S.tail
 obtain rfl:=si H
 exact rt1 E ⟨_,rfl,_,rfl,S⟩
 refine rr E fun a E=>(E.ik 37 H (fun c17 E H=>?_) fun c17 E H=>?_)
 refine sq fun K18 hK18=>pl0 (plc E (.r 0 1<|.b 1 1 hb2<|.r 2 2<|.nil) (fun a E=>E.fk 42 H (fun c19 E H=>?_) fun c19 E H=>?_))
 refine plc E (.r 4 1<|.b 5 2 hb2<|.r 6 3<|.nil) (fun a E=>E.fk 47 H (fun c20 E H=>?_) fun c20 E H=>?_)
 refine plc E (.r 9 1<|.b 10 3 hb2<|.r 11 3<|.nil) (fun a E=>E.fk 52 H (fun c21 E H=>?_) fun c21 E H=>?_)
 refine plc E (.r 14 1<|.b 15 6 hb2<|.r 16 4<|.nil) (fun a E=>pld (hK18 _ _ (wp_ret (qCR (qCQ ?_)))))
 replace S:=S.tail
 obtain rfl:=si H
 exact rt1 E ⟨_,rfl,_,rfl,S⟩
 refine plc E (.r 14 6 .nil) (fun a E=>pld (hK18 _ _ (wp_ret (qCR (qCQ ?_)))))
 replace S:=S.tail
 obtain rfl:=si H
 exact rt1 E ⟨_,rfl,_,rfl,S⟩
 refine plc E (.r 9 11 .nil) (fun a E=>pld (hK18 _ _ (wp_ret (qCR (qCQ ?_)))))
 replace S:=S.tail
 obtain rfl:=si H
 exact rt1 E ⟨_,rfl,_,rfl,S⟩
 refine plc E (.r 4 16 .nil) (fun a E=>pld (hK18 _ _ (wp_ret (qCR (qCQ ?_)))))
 replace S:=S.tail
 obtain rfl:=si H
 exact rt1 E ⟨_,rfl,_,rfl,S⟩
 refine rr E fun a E=>(E.ik 58 H (fun c23 E H=>?_) fun c23 E H=>?_)
 refine sq fun K24 hK24=>pl0 (plc E (.r 0 1<|.b 1 1 hb2<|.r 2 2<|.nil) (fun a E=>E.fk 63 H (fun c25 E H=>?_) fun c25 E H=>?_))
 refine plc E (.r 4 1<|.b 5 2 hb2<|.r 6 3<|.nil) (fun a E=>E.fk 68 H (fun c26 E H=>?_) fun c26 E H=>?_)
 refine plc E (.r 9 1<|.b 10 3 hb2<|.r 11 3<|.nil) (fun a E=>E.fk 73 H (fun c27 E H=>?_) fun c27 E H=>?_)
 refine plc E (.r 14 1<|.b 15 4 hb2<|.r 16 3<|.nil) (fun a E=>pld (hK24 _ _ (wp_ret (qCR (qCQ ?_)))))
 replace S:=S.tail
 obtain rfl:=si H
 exact rt1 E ⟨_,rfl,_,rfl,S⟩
 refine plc E (.r 14 5 .nil) (fun a E=>pld (hK24 _ _ (wp_ret (qCR (qCQ ?_)))))
 replace S:=S.tail
 obtain rfl:=si H
 exact rt1 E ⟨_,rfl,_,rfl,S⟩
 refine plc E (.r 9 10 .nil) (fun a E=>pld (hK24 _ _ (wp_ret (qCR (qCQ ?_)))))
 replace S:=S.tail
 obtain rfl:=si H
 exact rt1 E ⟨_,rfl,_,rfl,S⟩
 refine plc E (.r 4 15 .nil) (fun a E=>pld (hK24 _ _ (wp_ret (qCR (qCQ ?_)))))
 replace S:=S.tail
 obtain rfl:=si H
 exact rt1 E ⟨_,rfl,_,rfl,S⟩
 refine wp_skip ?_
 refine qCS ?_
 refine hK4 _ _ (sq fun K28 hK28=>pl0 (plc E (.r 0 1<|.b 1 2 hb2<|.r 2 2<|.nil) (fun a E=>E.fk 81 H (fun c29 E H=>?_) fun c29 E H=>?_)))
 refine plc E (.r 4 1<|.b 5 3 hb2<|.r 6 3<|.nil) (fun a E=>E.fk 86 H (fun c30 E H=>?_) fun c30 E H=>?_)
 refine plc E (.r 9 1<|.b 10 4 hb2<|.r 11 3<|.nil) (fun a E=>E.fk 91 H (fun c31 E H=>?_) fun c31 E H=>?_)
 refine plc E (.r 14 1<|.b 15 5 hb2<|.r 16 3<|.nil) (fun a E=>E.fk 96 H (fun c32 E H=>?_) fun c32 E H=>?_)
 refine plc E (.r 19 1<|.b 20 6 hb2<|.r 21 4<|.nil) (fun a E=>E.fk 102 H (fun c33 E H=>?_) fun c33 E H=>?_)
 refine plc E (.r 25 1<|.b 26 0 hb2<|.r 27 2<|.nil) (fun a E=>E.fkn 106 H (fun c34 E H=>?_) fun c34 E H=>?_)
 refine plc E (.r 29 1<|.b 30 1 hb2<|.r 31 4<|.nil) (fun a E=>pld (hK28 _ _ (wp_ret ?_)))
 replace S:=S.tail
 obtain rfl:=si H
 exact rt1 E ⟨_,rfl,_,rfl,S⟩
 refine plc E (.r 29 6 .nil) (fun a E=>pld (hK28 _ _ (wp_ret ?_)))
 replace S:=S.tail
 obtain rfl:=si H
 exact rt1 E ⟨_,rfl,_,rfl,S⟩
 refine plc E (.r 25 10 .nil) (fun a E=>pld (hK28 _ _ (wp_ret ?_)))
 replace S:=S.tail
 obtain rfl:=si H
 exact rt1 E ⟨_,rfl,_,rfl,S⟩
 refine plc E (.r 19 16 .nil) (fun a E=>pld (hK28 _ _ (wp_ret ?_)))
 replace S:=S.tail
 obtain rfl:=si H
 exact rt1 E ⟨_,rfl,_,rfl,S⟩
 refine plc E (.r 14 21 .nil) (fun a E=>pld (hK28 _ _ (wp_ret ?_)))
 replace S:=S.tail
 obtain rfl:=si H
 exact rt1 E ⟨_,rfl,_,rfl,S⟩
 refine plc E (.r 9 26 .nil) (fun a E=>pld (hK28 _ _ (wp_ret ?_)))
 replace S:=S.tail
 obtain rfl:=si H
 exact rt1 E ⟨_,rfl,_,rfl,S⟩
 refine plc E (.r 4 31 .nil) (fun a E=>pld (hK28 _ _ (wp_ret ?_)))
 replace S:=S.tail
 obtain rfl:=si H
 exact rt1 E ⟨_,rfl,_,rfl,S⟩
def qAb.f(x:List Int):Option (List Int):=if ((([]:List Int).length:Int)+(x.length:Int)) * 8≤140737488355328 then (some (([]:List Int)++x)) else (none)
def qAb.Post(W F:World)(r:List Int)(v:Value)(w':World):Prop:=∃(F':World)(RA0_0:OA)(rc0_0:Nat),v = .slice RA0_0 r.length rc0_0∧Sm W F w' F' [row ki 3 (.slice RA0_0 r.length rc0_0) r]
theorem qAb.calls(x:List Int)(A0_0:OA)(c0_0:Nat)(r:List Int)(W F:World)(hown:Sub F W)(g0_0:Rd ki F A0_0 c0_0 x)(H:qAb.f x=some r):
    Cr 54 #[.slice A0_0 x.length c0_0] W (qAb.Post W F r):=by
 have S:=sT hown
 unfold qAb.f at H
 refine ent 8 rfl rfl rfl (fun a E=>?_)
 rcases A0_0 with _ | ad1
 have hnil:=g0_0.none_nil
 replace H:(some [])=some r:=by simpa [hnil] using H
 refine rr E fun a E=>(sq fun K3 hK3=>rr E fun a E=>(ct E (rr E fun a E=>(wp_ret (qCQ ?_)))))
 replace S:=S.nilrow ki 3
 obtain rfl:=si H
 exact rt1 E ⟨_,rfl,_,_,_,rfl,S⟩
 refine rr E fun a E=>(sq fun K8 hK8=>rr E fun a E=>(cf E (wp_skip (hK8 _ _ (sq fun K10 hK10=>pl0 (ple E (.lit (d:=ki) (e:=3) S ([]:List Int) (.nil)) ?_))))))
 rintro _ u11 a ⟨A12,c13,rfl,S,hg⟩ E
 refine plc E (.r 1 1 .nil) (fun a E=>?_)
 obtain ⟨c15,H⟩:=gd H
 refine ple E (.ap (d:=ki) 8 S (g0_0.src S.own.sub) c15 c0_0) ?_
 rintro _ u18 a ⟨A16,c17,rfl,S,hz⟩ E
 refine plc E (.r 3 1 .nil) (fun a E=>pld (hK10 _ _ (wp_ret ?_)))
 obtain rfl:=si H
 exact rt1 E ⟨_,rfl,_,_,_,rfl,S⟩
def qAU.f(x:List qA):Option (List qA):=if ((([]:List qA).length:Int)+(x.length:Int)) * 40≤140737488355328 then (some (([]:List qA)++x)) else (none)
def qAU.Post(W F:World)(r:List qA)(v:Value)(w':World):Prop:=∃(F':World)(RA0_0:OA)(rc0_0:Nat),v = .slice RA0_0 r.length rc0_0∧Sm W F w' F' [row qA.k 68 (.slice RA0_0 r.length rc0_0) r]
theorem qAU.calls(x:List qA)(A0_0:OA)(c0_0:Nat)(r:List qA)(W F:World)(hown:Sub F W)(g0_0:Rd qA.k F A0_0 c0_0 x)(H:qAU.f x=some r):
    Cr 96 #[.slice A0_0 x.length c0_0] W (qAU.Post W F r):=by
 have S:=sT hown
 unfold qAU.f at H
 refine ent 8 rfl rfl rfl (fun a E=>?_)
 rcases A0_0 with _ | ad1
 have hnil:=g0_0.none_nil
 replace H:(some [])=some r:=by simpa [hnil] using H
 refine rr E fun a E=>(sq fun K3 hK3=>rr E fun a E=>(ct E (rr E fun a E=>(wp_ret (qCQ ?_)))))
 replace S:=S.nilrow qA.k 68
 obtain rfl:=si H
 exact rt1 E ⟨_,rfl,_,_,_,rfl,S⟩
 refine rr E fun a E=>(sq fun K8 hK8=>rr E fun a E=>(cf E (wp_skip (hK8 _ _ (sq fun K10 hK10=>pl0 (ple E (.lit (d:=qA.k) (e:=68) S ([]:List qA) (.nil)) ?_))))))
 rintro _ u11 a ⟨A12,c13,rfl,S,hg⟩ E
 refine plc E (.r 1 1 .nil) (fun a E=>?_)
 obtain ⟨c15,H⟩:=gd H
 refine ple E (.ap (d:=qA.k) 40 S (g0_0.src S.own.sub) c15 c0_0) ?_
 rintro _ u18 a ⟨A16,c17,rfl,S,hz⟩ E
 refine plc E (.r 3 1 .nil) (fun a E=>pld (hK10 _ _ (wp_ret ?_)))
 obtain rfl:=si H
 exact rt1 E ⟨_,rfl,_,_,_,rfl,S⟩
def qAh.f(x:List qE):Option (List qE):=if ((([]:List qE).length:Int)+(x.length:Int)) * 32≤140737488355328 then (some (([]:List qE)++x)) else (none)
def qAh.Post(W F:World)(r:List qE)(v:Value)(w':World):Prop:=∃(F':World)(RA0_0:OA)(rc0_0:Nat),v = .slice RA0_0 r.length rc0_0∧Sm W F w' F' [row qE.k 75 (.slice RA0_0 r.length rc0_0) r]
theorem qAh.calls(x:List qE)(A0_0:OA)(c0_0:Nat)(r:List qE)(W F:World)(hown:Sub F W)(g0_0:Rd qE.k F A0_0 c0_0 x)(H:qAh.f x=some r):
    Cr 97 #[.slice A0_0 x.length c0_0] W (qAh.Post W F r):=by
 have S:=sT hown
 unfold qAh.f at H
 refine ent 8 rfl rfl rfl (fun a E=>?_)
 rcases A0_0 with _ | ad1
 have hnil:=g0_0.none_nil
 replace H:(some [])=some r:=by simpa [hnil] using H
 refine rr E fun a E=>(sq fun K3 hK3=>rr E fun a E=>(ct E (rr E fun a E=>(wp_ret (qCQ ?_)))))
 replace S:=S.nilrow qE.k 75
 obtain rfl:=si H
 exact rt1 E ⟨_,rfl,_,_,_,rfl,S⟩
 refine rr E fun a E=>(sq fun K8 hK8=>rr E fun a E=>(cf E (wp_skip (hK8 _ _ (sq fun K10 hK10=>pl0 (ple E (.lit (d:=qE.k) (e:=75) S ([]:List qE) (.nil)) ?_))))))
 rintro _ u11 a ⟨A12,c13,rfl,S,hg⟩ E
 refine plc E (.r 1 1 .nil) (fun a E=>?_)
 obtain ⟨c15,H⟩:=gd H
 refine ple E (.ap (d:=qE.k) 32 S (g0_0.src S.own.sub) c15 c0_0) ?_
 rintro _ u18 a ⟨A16,c17,rfl,S,hz⟩ E
 refine plc E (.r 3 1 .nil) (fun a E=>pld (hK10 _ _ (wp_ret ?_)))
 obtain rfl:=si H
 exact rt1 E ⟨_,rfl,_,_,_,rfl,S⟩
def qAN.f(x:List qC):Option (List qC):=if ((([]:List qC).length:Int)+(x.length:Int)) * 32≤140737488355328 then (some (([]:List qC)++x)) else (none)
def qAN.Post(W F:World)(r:List qC)(v:Value)(w':World):Prop:=∃(F':World)(RA0_0:OA)(rc0_0:Nat),v = .slice RA0_0 r.length rc0_0∧Sm W F w' F' [row qC.k 73 (.slice RA0_0 r.length rc0_0) r]
theorem qAN.calls(x:List qC)(A0_0:OA)(c0_0:Nat)(r:List qC)(W F:World)(hown:Sub F W)(g0_0:Rd qC.k F A0_0 c0_0 x)(H:qAN.f x=some r):
    Cr 98 #[.slice A0_0 x.length c0_0] W (qAN.Post W F r):=by
 have S:=sT hown
 unfold qAN.f at H
 refine ent 8 rfl rfl rfl (fun a E=>?_)
 rcases A0_0 with _ | ad1
 have hnil:=g0_0.none_nil
 replace H:(some [])=some r:=by simpa [hnil] using H
 refine rr E fun a E=>(sq fun K3 hK3=>rr E fun a E=>(ct E (rr E fun a E=>(wp_ret (qCQ ?_)))))
 replace S:=S.nilrow qC.k 73
 obtain rfl:=si H
 exact rt1 E ⟨_,rfl,_,_,_,rfl,S⟩
 refine rr E fun a E=>(sq fun K8 hK8=>rr E fun a E=>(cf E (wp_skip (hK8 _ _ (sq fun K10 hK10=>pl0 (ple E (.lit (d:=qC.k) (e:=73) S ([]:List qC) (.nil)) ?_))))))
 rintro _ u11 a ⟨A12,c13,rfl,S,hg⟩ E
 refine plc E (.r 1 1 .nil) (fun a E=>?_)
 obtain ⟨c15,H⟩:=gd H
 refine ple E (.ap (d:=qC.k) 32 S (g0_0.src S.own.sub) c15 c0_0) ?_
 rintro _ u18 a ⟨A16,c17,rfl,S,hz⟩ E
 refine plc E (.r 3 1 .nil) (fun a E=>pld (hK10 _ _ (wp_ret ?_)))
 obtain rfl:=si H
 exact rt1 E ⟨_,rfl,_,_,_,rfl,S⟩
def qAi.f(x:List qG):Option (List qG):=if ((([]:List qG).length:Int)+(x.length:Int)) * 32≤140737488355328 then (some (([]:List qG)++x)) else (none)
def qAi.Post(W F:World)(r:List qG)(v:Value)(w':World):Prop:=∃(F':World)(RA0_0:OA)(rc0_0:Nat),v = .slice RA0_0 r.length rc0_0∧Sm W F w' F' [row qG.k 77 (.slice RA0_0 r.length rc0_0) r]
theorem qAi.calls(x:List qG)(A0_0:OA)(c0_0:Nat)(r:List qG)(W F:World)(hown:Sub F W)(g0_0:Rd qG.k F A0_0 c0_0 x)(H:qAi.f x=some r):
    Cr 123 #[.slice A0_0 x.length c0_0] W (qAi.Post W F r):=by
 have S:=sT hown
 unfold qAi.f at H
 refine ent 8 rfl rfl rfl (fun a E=>?_)
 rcases A0_0 with _ | ad1
 have hnil:=g0_0.none_nil
 replace H:(some [])=some r:=by simpa [hnil] using H
 refine rr E fun a E=>(sq fun K3 hK3=>rr E fun a E=>(ct E (rr E fun a E=>(wp_ret (qCQ ?_)))))
 replace S:=S.nilrow qG.k 77
 obtain rfl:=si H
 exact rt1 E ⟨_,rfl,_,_,_,rfl,S⟩
 refine rr E fun a E=>(sq fun K8 hK8=>rr E fun a E=>(cf E (wp_skip (hK8 _ _ (sq fun K10 hK10=>pl0 (ple E (.lit (d:=qG.k) (e:=77) S ([]:List qG) (.nil)) ?_))))))
 rintro _ u11 a ⟨A12,c13,rfl,S,hg⟩ E
 refine plc E (.r 1 1 .nil) (fun a E=>?_)
 obtain ⟨c15,H⟩:=gd H
 refine ple E (.ap (d:=qG.k) 32 S (g0_0.src S.own.sub) c15 c0_0) ?_
 rintro _ u18 a ⟨A16,c17,rfl,S,hz⟩ E
 refine plc E (.r 3 1 .nil) (fun a E=>pld (hK10 _ _ (wp_ret ?_)))
 obtain rfl:=si H
 exact rt1 E ⟨_,rfl,_,_,_,rfl,S⟩
def qBJ.l16:Nat→List qG→List qG→Int→Option (List qG)
 | 0,_,_,_=>none
 | k+1,t4,l13,x14=>if x14<(t4.length:Int) then (if 0≤x14∧x14<(t4.length:Int) then ((qAb.f ((nth qG.z l13 x14).f1)).bind fun t39=>(qBJ.l16 k t4 (l13.set (x14).toNat (⟨(nth qG.z l13 x14).f0,t39⟩:qG)) (w64 (x14+1)))) else (none)) else (some l13)
theorem qBJ.l16_s k t4 l13 x14:type_of% (qBJ.l16.eq_2 t4 l13 x14 k):=qBJ.l16.eq_2 t4 l13 x14 k
def qBJ.f(k:Nat)(x:List qG):Option (List qG):=(qAi.f x).bind fun t4=>(qBJ.l16 k t4 t4 0)
def qBJ.Post(W F:World)(r:List qG)(v:Value)(w':World):Prop:=∃(F':World)(RA0_0:OA)(rc0_0:Nat),v = .slice RA0_0 r.length rc0_0∧Sm W F w' F' [row qG.k 77 (.slice RA0_0 r.length rc0_0) r]
theorem qBJ.calls(k:Nat)(x:List qG)(A0_0:OA)(c0_0:Nat)(r:List qG)(W F:World)(hown:Sub F W)(g0_0:Rd qG.k F A0_0 c0_0 x)(H:qBJ.f k x=some r):
    Cr 99 #[.slice A0_0 x.length c0_0] W (qBJ.Post W F r):=by
 have S:=sT hown
 unfold qBJ.f at H
 refine ent 23 rfl rfl rfl (fun a E=>?_)
 refine rr E fun a E=>(sq fun K2 hK2=>pl0 (plc E (.r 0 1 .nil) (fun a E=>?_)))
 obtain ⟨t4,h5,H⟩:=bd H
 refine ple E (.cl en123 (qAi.calls x _ _ _ _ _ S.own.sub g0_0 h5)) ?_
 rintro _ u3 a ⟨F6,A7,c8,rfl,hC⟩ E
 have hs:=hC.sub
 replace S:=S.called (X:=[]) hC
 replace g0_0:=g0_0.mono hs
 refine plc E (.r 2 1 .nil) (fun a E=>pld (hK2 _ _ (sq fun K11 hK11=>rr E fun a E=>(wp_block ?_))))
 refine wp_loop_ghost (fun kq17 a w'=>∃(G:NV)(l13:List qG)(x14:Int)(F15:World),kq17≤k∧Env 23 G a∧At G [(0,.slice A7 t4.length c8),(7,.slice A7 t4.length c8),(8,iv (t4.length:Int)),(9,iv x14)]∧Sm W F w' F15 [row qG.k 77 (.slice A7 t4.length c8) l13]∧qBJ.l16 kq17 t4 l13 x14=some r) k ⟨_,t4,0,F6,Nat.le_refl _,E,.of,S,H⟩ ?_
 rintro kq17 a u19 ⟨G,l13,x14,F15,hkq,E,A,S,H⟩
 obtain _ | k18:=kq17
 exact zz H
 rw [qBJ.l16_s]at H
 obtain ⟨J,E⟩:=E.at A
 refine rr E fun a E=>(sq fun K21 hK21=>E.ik 10 H (fun c22 E H=>?_) fun c22 E H=>?_)
 refine wp_skip (hK21 _ _ (sq fun K23 hK23=>wp_block (sq fun K24 hK24=>pl0 ?_)))
 obtain ⟨c25,H⟩:=gd H
 have hr26:=S.ra 0
 have c27:0≤x14∧x14<(l13.length:Int):=by rw [← (qCU hr26).1]; exact c25
 have hE_:=E
 obtain ⟨b28,rfl⟩:=qCW hr26 c27.1 c27.2
 replace E:=hE_
 have hr_:=S.ra 0
 obtain ⟨cs30,⟨A32,c33,rfl,g34⟩,hc31⟩:=qCV hr_ qG.z x14 c27.1 c27.2
 refine plc E (.r 0 1<|.x 1 c25<|.cs 2 hc31<|.nil) (fun a E=>pla (t:=77) E S [iv 0,.slice none 0 0] fun b35 u36 hb35 S a E=>plc E (.r 4 1 .nil) (fun a E=>pls E S [iv ((nth qG.z l13 x14).f0),.slice A32 (((nth qG.z l13 x14).f1).length) c33] fun u37 hb35 S a E=>pld (hK24 _ _ (pl0 (plc E (.r 0 3<|.b 3 1 hb35<|.nil) (fun a E=>?_))))))
 obtain ⟨t39,h40,H⟩:=bd H
 refine ple E (.cl en54 (qAb.calls ((nth qG.z l13 x14).f1) _ _ _ _ _ S.own.sub g34 h40)) ?_
 rintro _ u38 a ⟨F41,A42,c43,rfl,hC⟩ E
 have hs:=hC.sub
 replace S:=S.called (X:=[]) hC
 replace g34:=g34.mono hs
 have hr46:=S.ra 2
 have c47:0≤x14∧x14<(l13.length:Int):=by rw [← (qCU hr46).1]; exact c25
 have hr_:=S.ra 2
 obtain ⟨cs49,⟨A51,c52,rfl,g53⟩,hc50⟩:=qCV hr_ qG.z x14 c47.1 c47.2
 refine plc E (.x 5 c25<|.r 6 1<|.nil) (fun a E=>?_)
 obtain ⟨F55,hs,g56,S⟩:=S.give
 replace g34:=g34.mono hs
 replace S:=S.front 1 rfl
 obtain ⟨cs60,⟨A57,c58,rfl,g59⟩,hc61⟩:=qCV (S.row_at (i:=0) rfl) qG.z x14 c47.1 c47.2
 refine ple E (.set (d:=qG.k) (n:=t4.length) (i:=x14) (⟨(nth qG.z l13 x14).f0,t39⟩:qG) 1 (ea1 _ _ _) S c47 [iv ((nth qG.z l13 x14).f0),.slice A57 (((nth qG.z l13 x14).f1).length) c58] hc61 [iv ((nth qG.z l13 x14).f0),.slice A42 t39.length c43] ⟨_,_,rfl,g56⟩) ?_
 rintro _ u54 a ⟨rfl,S,hz⟩ E
 refine pld ?_
 refine qCS ?_
 refine hK23 _ _ (pl0 (plc E (.r 0 2 .nil) (fun a E=>pld ?_)))
 replace S:=S.pm [0] 2
 exact qCT ⟨k18,by omega,_,(l13.set (x14).toNat (⟨(nth qG.z l13 x14).f0,t39⟩:qG)),(w64 (x14+1)),F55,by omega,E,.of,S,H⟩
 refine wp_exit ?_
 refine hK11 _ _ (rr E fun a E=>(wp_ret ?_))
 have hn63:=(qCU (S.row_at (i:=0) rfl)).1
 replace E:=E.set (d:=2) (v:=.slice A7 l13.length c8) (Eq.trans (b:=.slice A7 t4.length c8) (by kernel_rfl) (by rw [← hn63]))
 replace S:Sm W F u19 F15 [row qG.k 77 (.slice A7 l13.length c8) l13]:=by rw [← hn63]; exact S
 obtain rfl:=si H
 exact rt1 E ⟨_,rfl,_,_,_,rfl,S⟩
mutual
def qAx.l30:Nat→qD→List qA→List qE→List qE→Int→Option qD
 | 0,_,_,_,_,_=>none
 | k+1,x,t8,t16,l27,x28=>if x28<(t16.length:Int) then (if 0≤x28∧x28<(t16.length:Int) then ((qAb.f ((nth qE.z l27 x28).f1)).bind fun t53=>(qAx.l30 k x t8 t16 (l27.set (x28).toNat (⟨(nth qE.z l27 x28).f0,t53⟩:qE)) (w64 (x28+1)))) else (none)) else ((qAN.f x.f6).bind fun t78=>(qAx.l91 k x t8 l27 t78 t78 0))
def qAx.l91:Nat→qD→List qA→List qE→List qC→List qC→Int→Option qD
 | 0,_,_,_,_,_,_=>none
 | k+1,x,t8,l27,t78,l88,x89=>if x89<(t78.length:Int) then (if 0≤x89∧x89<(t78.length:Int) then ((qBJ.f k ((nth qC.z l88 x89).f1)).bind fun t114=>(qAx.l91 k x t8 l27 t78 (l88.set (x89).toNat (⟨(nth qC.z l88 x89).f0,t114⟩:qC)) (w64 (x89+1)))) else (none)) else (some (⟨x.f0,x.f1,x.f2,x.f3,t8,l27,l88⟩:qD))
end
theorem qAx.l30_s k x t8 t16 l27 x28:type_of% (qAx.l30.eq_2 x t8 t16 l27 x28 k):=qAx.l30.eq_2 x t8 t16 l27 x28 k
theorem qAx.l91_s k x t8 l27 t78 l88 x89:type_of% (qAx.l91.eq_2 x t8 l27 t78 l88 x89 k):=qAx.l91.eq_2 x t8 l27 t78 l88 x89 k
def qAx.f(k:Nat)(x:qD):Option qD:=(qAU.f x.f4).bind fun t8=>((qAh.f x.f5).bind fun t16=>(qAx.l30 k x t8 t16 t16 0))
def qAx.Post(W F:World)(r:qD)(v:Value)(w':World):Prop:=∃(F':World)(RA0_4:OA)(rc0_4:Nat)(RA0_5:OA)(rc0_5:Nat)(RA0_6:OA)(rc0_6:Nat),v = .agg #[iv r.f0,iv r.f1,iv r.f2,iv r.f3,.slice RA0_4 r.f4.length rc0_4,.slice RA0_5 r.f5.length rc0_5,.slice RA0_6 r.f6.length rc0_6]∧Sm W F w' F' [row qA.k 68 (.slice RA0_4 r.f4.length rc0_4) r.f4,row qE.k 75 (.slice RA0_5 r.f5.length rc0_5) r.f5,row qC.k 73 (.slice RA0_6 r.f6.length rc0_6) r.f6]
theorem qAx.calls(k:Nat)(x:qD)(A0_4:OA)(c0_4:Nat)(A0_5:OA)(c0_5:Nat)(A0_6:OA)(c0_6:Nat)(r:qD)(W F:World)(hown:Sub F W)(g0_4:Rd qA.k F A0_4 c0_4 x.f4)(g0_5:Rd qE.k F A0_5 c0_5 x.f5)(g0_6:Rd qC.k F A0_6 c0_6 x.f6)(H:qAx.f k x=some r):
    Cr 69 #[.agg #[iv x.f0,iv x.f1,iv x.f2,iv x.f3,.slice A0_4 x.f4.length c0_4,.slice A0_5 x.f5.length c0_5,.slice A0_6 x.f6.length c0_6]] W (qAx.Post W F r):=by
 have S:=sT hown
 unfold qAx.f at H
 refine ent 54 rfl rfl rfl (fun a E=>?_)
 refine sq fun K1 hK1=>pl0 (plx (t:=26) E S [iv x.f0,iv x.f1,iv x.f2,iv x.f3,.slice A0_4 x.f4.length c0_4,.slice A0_5 x.f5.length c0_5,.slice A0_6 x.f6.length c0_6] fun b2 u3 hb2 S a E=>pla (t:=26) E S [iv 0,iv 0,iv 0,iv 0,.slice none 0 0,.slice none 0 0,.slice none 0 0] fun b4 u5 hb4 S a E=>pld (hK1 _ _ (sq fun K6 hK6=>?_)))
 refine drawn 10 ⟨[7,9],[],fun q=>False⟩ mixed rfl (by kernel_rfl) (fun hst=>?_)
 replace S:=S.drew
 have hb2:=S.ba 1
 refine mny 6 hst E (.r 0 1<|.b 1 4 hb2<|.r 3 1<|.b 4 5 hb2<|.nil) (fun a E=>?_)
 obtain ⟨t8,h9,H⟩:=bd H
 refine on1 2 E (.cl en96 (qAU.calls x.f4 _ _ _ _ _ S.own.sub g0_4 h9)) ?_
 rintro _ u7 a ⟨F10,A11,c12,rfl,hC⟩ E
 refine ⟨.of hC.agr,?_⟩
 have hs:=hC.sub
 replace S:=S.called (X:=[]) hC
 replace g0_4:=g0_4.mono hs
 replace g0_5:=g0_5.mono hs
 replace g0_6:=g0_6.mono hs
 refine mny 4 hst E (.r 6 1 .nil) (fun a E=>?_)
 obtain ⟨t16,h17,H⟩:=bd H
 refine on1 5 E (.cl en97 (qAh.calls x.f5 _ _ _ _ _ S.own.sub g0_5 h17)) ?_
 rintro _ u15 a ⟨F18,A19,c20,rfl,hC⟩ E
 refine ⟨.of hC.agr,?_⟩
 have hs:=hC.sub
 replace S:=S.called (X:=[]) hC
 replace g0_4:=g0_4.mono hs
 replace g0_5:=g0_5.mono hs
 replace g0_6:=g0_6.mono hs
 replace S:=S.front 3 rfl
 refine on1 7 E (.sto S [iv x.f0,iv x.f1,iv x.f2,iv x.f3,.slice A11 t8.length c12,.slice A0_5 x.f5.length c0_5,.slice A0_6 x.f6.length c0_6]) ?_
 rintro _ u23 a ⟨rfl,hb2,S,hz⟩ E
 refine ⟨.d,?_⟩
 refine mny 1 hst E (.r 8 1 .nil) (fun a E=>?_)
 refine on1 9 E (.sto S [iv x.f0,iv x.f1,iv x.f2,iv x.f3,.slice A11 t8.length c12,.slice A19 t16.length c20,.slice A0_6 x.f6.length c0_6]) ?_
 rintro _ u24 a ⟨rfl,hb2,S,hz⟩ E
 refine ⟨.d,?_⟩
 refine dn ?_
 refine hK6 _ _ (sq fun K25 hK25=>rg E (.r 0 1<|.b 1 5 hb2<|.r 2 2<|.nil) fun a E=>(wp_block ?_))
 replace S:=S.pm [0,3,2,1] 4
 refine wp_loop_ghost (fun kq31 a w'=>∃(G:NV)(l27:List qE)(x28:Int)(F29:World),kq31≤k∧Env 54 G a∧At G [(1,.pointer (pb b2)),(2,.pointer (pb b4)),(16,.slice A19 t16.length c20),(17,iv (t16.length:Int)),(18,iv x28)]∧Sm W F w' F29 [box b2 #[iv x.f0,iv x.f1,iv x.f2,iv x.f3,.slice A11 t8.length c12,.slice A19 t16.length c20,.slice A0_6 x.f6.length c0_6] 26,box b4 #[iv 0,iv 0,iv 0,iv 0,.slice none 0 0,.slice none 0 0,.slice none 0 0] 26,row qA.k 68 (.slice A11 t8.length c12) t8,row qE.k 75 (.slice A19 t16.length c20) l27]∧Rd qC.k F29 A0_6 c0_6 x.f6∧qAx.l30 kq31 x t8 t16 l27 x28=some r) k ⟨_,t16,0,F18,Nat.le_refl _,E,.of,S,g0_6,H⟩ ?_
 rintro kq31 a u33 ⟨G,l27,x28,F29,hkq,E,A,S,g0_6,H⟩
 obtain _ | k32:=kq31
 exact zz H
 rw [qAx.l30_s]at H
 obtain ⟨J,E⟩:=E.at A
 refine rr E fun a E=>(sq fun K35 hK35=>E.ik 19 H (fun c36 E H=>?_) fun c36 E H=>?_)
 refine wp_skip (hK35 _ _ (sq fun K37 hK37=>wp_block (sq fun K38 hK38=>pl0 ?_)))
 obtain ⟨c39,H⟩:=gd H
 have hr40:=S.ra 3
 have c41:0≤x28∧x28<(l27.length:Int):=by rw [← (qCU hr40).1]; exact c39
 have hE_:=E
 obtain ⟨b42,rfl⟩:=qCW hr40 c41.1 c41.2
 replace E:=hE_
 have hr_:=S.ra 3
 obtain ⟨cs44,⟨A46,c47,rfl,g48⟩,hc45⟩:=qCV hr_ qE.z x28 c41.1 c41.2
 refine plc E (.r 0 1<|.x 1 c39<|.cs 2 hc45<|.nil) (fun a E=>pla (t:=75) E S [iv 0,.slice none 0 0] fun b49 u50 hb49 S a E=>plc E (.r 4 1 .nil) (fun a E=>pls E S [iv ((nth qE.z l27 x28).f0),.slice A46 (((nth qE.z l27 x28).f1).length) c47] fun u51 hb49 S a E=>pld (hK38 _ _ ?_)))
 refine drawn 9 ⟨[8],[],fun q=>False⟩ mixed rfl (by kernel_rfl) (fun hst=>?_)
 replace S:=S.drew
 have hb2:=S.ba 1
 have hb49:=S.ba 0
 refine mny 4 hst E (.r 0 1<|.b 1 5 hb2<|.r 2 2<|.b 4 1 hb49<|.nil) (fun a E=>?_)
 obtain ⟨t53,h54,H⟩:=bd H
 refine on1 5 E (.cl en54 (qAb.calls ((nth qE.z l27 x28).f1) _ _ _ _ _ S.own.sub g48 h54)) ?_
 rintro _ u52 a ⟨F55,A56,c57,rfl,hC⟩ E
 refine ⟨.of hC.agr,?_⟩
 have hs:=hC.sub
 replace S:=S.called (X:=[]) hC
 replace g48:=g48.mono hs
 replace g0_6:=g0_6.mono hs
 have hr60:=S.ra 5
 have c61:0≤x28∧x28<(l27.length:Int):=by rw [← (qCU hr60).1]; exact c39
 have hr_:=S.ra 5
 obtain ⟨cs63,⟨A65,c66,rfl,g67⟩,hc64⟩:=qCV hr_ qE.z x28 c61.1 c61.2
 refine mny 1 hst E (.x 6 c39<|.r 7 1<|.nil) (fun a E=>?_)
 obtain ⟨F69,hs,g70,S⟩:=S.give
 replace g48:=g48.mono hs
 replace g0_6:=g0_6.mono hs
 replace S:=S.front 4 rfl
 obtain ⟨cs74,⟨A71,c72,rfl,g73⟩,hc75⟩:=qCV (S.row_at (i:=0) rfl) qE.z x28 c61.1 c61.2
 refine on1 8 E (.set (d:=qE.k) (n:=t16.length) (i:=x28) (⟨(nth qE.z l27 x28).f0,t53⟩:qE) 1 (ea1 _ _ _) S c61 [iv ((nth qE.z l27 x28).f0),.slice A71 (((nth qE.z l27 x28).f1).length) c72] hc75 [iv ((nth qE.z l27 x28).f0),.slice A56 t53.length c57] ⟨_,_,rfl,g70⟩) ?_
 rintro _ u68 a ⟨rfl,S,hz⟩ E
 refine ⟨.d,?_⟩
 refine dn ?_
 refine qCS ?_
 refine hK37 _ _ (pl0 (plc E (.r 0 2 .nil) (fun a E=>pld ?_)))
 replace S:=S.pm [2,3,4,0] 5
 exact qCT ⟨k32,by omega,_,(l27.set (x28).toNat (⟨(nth qE.z l27 x28).f0,t53⟩:qE)),(w64 (x28+1)),F69,by omega,E,.of,S,g0_6,H⟩
 refine wp_exit ?_
 refine hK25 _ _ (sq fun K76 hK76=>pl0 (plc E (.r 0 1<|.b 1 6 (S.ba 0)<|.nil) (fun a E=>?_)))
 obtain ⟨t78,h79,H⟩:=bd H
 refine ple E (.cl en98 (qAN.calls x.f6 _ _ _ _ _ S.own.sub g0_6 h79)) ?_
 rintro _ u77 a ⟨F80,A81,c82,rfl,hC⟩ E
 have hs:=hC.sub
 replace S:=S.called (X:=[]) hC
 replace g0_6:=g0_6.mono hs
 refine plc E (.r 3 1 .nil) (fun a E=>?_)
 replace S:=S.front 1 rfl
 refine pls E S [iv x.f0,iv x.f1,iv x.f2,iv x.f3,.slice A11 t8.length c12,.slice A19 t16.length c20,.slice A81 t78.length c82] fun u85 hb2 S a E=>pld (hK76 _ _ (sq fun K86 hK86=>rg E (.r 0 1<|.b 1 6 hb2<|.r 2 2<|.nil) fun a E=>(wp_block ?_)))
 replace S:=S.pm [0,2,3,4,1] 5
 refine wp_loop_ghost (fun kq92 a w'=>∃(G:NV)(l88:List qC)(x89:Int)(F90:World),kq92≤k32∧Env 54 G a∧At G [(1,.pointer (pb b2)),(2,.pointer (pb b4)),(37,.slice A81 t78.length c82),(38,iv (t78.length:Int)),(39,iv x89)]∧Sm W F w' F90 [box b2 #[iv x.f0,iv x.f1,iv x.f2,iv x.f3,.slice A11 t8.length c12,.slice A19 t16.length c20,.slice A81 t78.length c82] 26,box b4 #[iv 0,iv 0,iv 0,iv 0,.slice none 0 0,.slice none 0 0,.slice none 0 0] 26,row qA.k 68 (.slice A11 t8.length c12) t8,row qE.k 75 (.slice A19 t16.length c20) l27,row qC.k 73 (.slice A81 t78.length c82) l88]∧qAx.l91 kq92 x t8 l27 t78 l88 x89=some r) k32 ⟨_,t78,0,F80,Nat.le_refl _,E,.of,S,H⟩ ?_
 rintro kq92 a u94 ⟨G,l88,x89,F90,hkq,E,A,S,H⟩
 obtain _ | k93:=kq92
 exact zz H
 rw [qAx.l91_s]at H
 obtain ⟨J,E⟩:=E.at A
 refine rr E fun a E=>(sq fun K96 hK96=>E.ik 40 H (fun c97 E H=>?_) fun c97 E H=>?_)
 refine wp_skip (hK96 _ _ (sq fun K98 hK98=>wp_block (sq fun K99 hK99=>pl0 ?_)))
 obtain ⟨c100,H⟩:=gd H
 have hr101:=S.ra 4
 have c102:0≤x89∧x89<(l88.length:Int):=by rw [← (qCU hr101).1]; exact c100
 have hE_:=E
 obtain ⟨b103,rfl⟩:=qCW hr101 c102.1 c102.2
 replace E:=hE_
 have hr_:=S.ra 4
 obtain ⟨cs105,⟨A107,c108,rfl,g109⟩,hc106⟩:=qCV hr_ qC.z x89 c102.1 c102.2
 refine plc E (.r 0 1<|.x 1 c100<|.cs 2 hc106<|.nil) (fun a E=>pla (t:=73) E S [iv 0,.slice none 0 0] fun b110 u111 hb110 S a E=>plc E (.r 4 1 .nil) (fun a E=>pls E S [iv ((nth qC.z l88 x89).f0),.slice A107 (((nth qC.z l88 x89).f1).length) c108] fun u112 hb110 S a E=>pld (hK99 _ _ ?_)))
 refine drawn 9 ⟨[8],[],fun q=>False⟩ mixed rfl (by kernel_rfl) (fun hst=>?_)
 replace S:=S.drew
 have hb2:=S.ba 1
 have hb110:=S.ba 0
 refine mny 4 hst E (.r 0 1<|.b 1 6 hb2<|.r 2 2<|.b 4 1 hb110<|.nil) (fun a E=>?_)
 obtain ⟨t114,h115,H⟩:=bd H
 refine on1 5 E (.cl en99 (qBJ.calls k93 ((nth qC.z l88 x89).f1) _ _ _ _ _ S.own.sub g109 h115)) ?_
 rintro _ u113 a ⟨F116,A117,c118,rfl,hC⟩ E
 refine ⟨.of hC.agr,?_⟩
 have hs:=hC.sub
 replace S:=S.called (X:=[]) hC
 replace g109:=g109.mono hs
 have hr121:=S.ra 6
 have c122:0≤x89∧x89<(l88.length:Int):=by rw [← (qCU hr121).1]; exact c100
 have hr_:=S.ra 6
 obtain ⟨cs124,⟨A126,c127,rfl,g128⟩,hc125⟩:=qCV hr_ qC.z x89 c122.1 c122.2
 refine mny 1 hst E (.x 6 c100<|.r 7 1<|.nil) (fun a E=>?_)
 obtain ⟨F130,hs,g131,S⟩:=S.give
 replace g109:=g109.mono hs
 replace S:=S.front 5 rfl
 obtain ⟨cs135,⟨A132,c133,rfl,g134⟩,hc136⟩:=qCV (S.row_at (i:=0) rfl) qC.z x89 c122.1 c122.2
 refine on1 8 E (.set (d:=qC.k) (n:=t78.length) (i:=x89) (⟨(nth qC.z l88 x89).f0,t114⟩:qC) 1 (ea1 _ _ _) S c122 [iv ((nth qC.z l88 x89).f0),.slice A132 (((nth qC.z l88 x89).f1).length) c133] hc136 [iv ((nth qC.z l88 x89).f0),.slice A117 t114.length c118] ⟨_,_,rfl,g131⟩) ?_
 rintro _ u129 a ⟨rfl,S,hz⟩ E
 refine ⟨.d,?_⟩
 refine dn ?_
 refine qCS ?_
 refine hK98 _ _ (pl0 (plc E (.r 0 2 .nil) (fun a E=>pld ?_)))
 replace S:=S.pm [2,3,4,5,0] 6
 exact qCT ⟨k93,by omega,_,(l88.set (x89).toNat (⟨(nth qC.z l88 x89).f0,t114⟩:qC)),(w64 (x89+1)),F130,by omega,E,.of,S,H⟩
 refine wp_exit ?_
 refine hK86 _ _ (sq fun K137 hK137=>pl0 (plc E (.bn 0 0 7 (S.ba 0) .nil) (fun a E=>?_)))
 replace S:=S.front 1 rfl
 refine pls E S [iv x.f0,iv x.f1,iv x.f2,iv x.f3,.slice A11 t8.length c12,.slice A19 t16.length c20,.slice A81 t78.length c82] fun u138 hb4 S a E=>pld (hK137 _ _ (wp_ret ?_))
 have hn139:=(qCU (S.row_at (i:=3) rfl)).1
 replace S:Sm W F u138 F90 [box b4 #[iv x.f0,iv x.f1,iv x.f2,iv x.f3,.slice A11 t8.length c12,.slice A19 l27.length c20,.slice A81 t78.length c82] 26,box b2 #[iv x.f0,iv x.f1,iv x.f2,iv x.f3,.slice A11 t8.length c12,.slice A19 l27.length c20,.slice A81 t78.length c82] 26,row qA.k 68 (.slice A11 t8.length c12) t8,row qE.k 75 (.slice A19 l27.length c20) l27,row qC.k 73 (.slice A81 t78.length c82) l88]:=by rw [← hn139]; exact S
 have hn140:=(qCU (S.row_at (i:=4) rfl)).1
 replace S:Sm W F u138 F90 [box b4 #[iv x.f0,iv x.f1,iv x.f2,iv x.f3,.slice A11 t8.length c12,.slice A19 l27.length c20,.slice A81 l88.length c82] 26,box b2 #[iv x.f0,iv x.f1,iv x.f2,iv x.f3,.slice A11 t8.length c12,.slice A19 l27.length c20,.slice A81 l88.length c82] 26,row qA.k 68 (.slice A11 t8.length c12) t8,row qE.k 75 (.slice A19 l27.length c20) l27,row qC.k 73 (.slice A81 l88.length c82) l88]:=by rw [← hn140]; exact S
 have hb4:=S.ba 0
 replace S:=S.pm [] 2
 obtain rfl:=si H
 exact ret1 E rfl (.cell (by kernel_rfl) (qCh [iv x.f0,iv x.f1,iv x.f2,iv x.f3,.slice A11 t8.length c12,.slice A19 l27.length c20,.slice A81 l88.length c82] ag26 sz26 hb4 rfl) .nil) ⟨_,rfl,_,_,_,_,_,_,_,rfl,S⟩
def qBT.f(x:Int):Option Bool:=some (!(x == x))
def qBT.Post(W F:World)(r:Bool)(v:Value)(w':World):Prop:=∃(F':World),v = .bool r∧Sm W F w' F' []
theorem qBT.calls(x:Int)(r:Bool)(W F:World)(hown:Sub F W)(H:qBT.f x=some r):
    Cr 115 #[iv x] W (qBT.Post W F r):=by
 have S:=sT hown
 unfold qBT.f at H
 refine ent 6 rfl rfl rfl (fun a E=>?_)
 refine rr E fun a E=>(rr E fun a E=>(wp_ret ?_))
 obtain rfl:=si H
 exact rt1 E ⟨_,rfl,_,rfl,S⟩
def qAu.f(x:Int)(y:Int):Option Int:=(qBT.f x).bind fun t4=>((qBT.f y).bind fun t8=>(if t4=true then (if t8=true then (some 0) else (some (-1))) else (if t8=true then (some 1) else (if x<y then (some (-1)) else (if x>y then (some 1) else (some 0))))))
def qAu.Post(W F:World)(r:Int)(v:Value)(w':World):Prop:=∃(F':World),v=iv r∧Sm W F w' F' []
theorem qAu.calls(x:Int)(y:Int)(r:Int)(W F:World)(hown:Sub F W)(H:qAu.f x y=some r):
    Cr 90 #[iv x,iv y] W (qAu.Post W F r):=by
 have S:=sT hown
 unfold qAu.f at H
 refine ent 20 rfl rfl rfl (fun a E=>?_)
 refine rr E fun a E=>(sq fun K2 hK2=>pl0 (plc E (.r 0 1 .nil) (fun a E=>?_)))
 obtain ⟨t4,h5,H⟩:=bd H
 refine plq E S en115 (qBT.calls x _ _ _ S.own.sub h5) fun u3 S a E=>plc E (.r 2 1 .nil) (fun a E=>pld (hK2 _ _ (sq fun K6 hK6=>pl0 (plc E (.r 0 1 .nil) (fun a E=>?_)))))
 obtain ⟨t8,h9,H⟩:=bd H
 refine plq E S en115 (qBT.calls y _ _ _ S.own.sub h9) fun u7 S a E=>plc E (.r 2 1 .nil) (fun a E=>pld (hK6 _ _ (sq fun K10 hK10=>rr E fun a E=>(E.ib 11 H (fun c12 E H=>?_) fun c12 E H=>?_))))
 refine sq fun K13 hK13=>rr E fun a E=>(E.ib 12 H (fun c15 E H=>?_) fun c15 E H=>?_)
 refine rr E fun a E=>(wp_ret (qCQ (qCQ ?_)))
 obtain rfl:=si H
 exact rt1 E ⟨_,rfl,_,rfl,S⟩
 refine wp_skip (hK13 _ _ (rr E fun a E=>(wp_ret (qCQ ?_))))
 obtain rfl:=si H
 exact rt1 E ⟨_,rfl,_,rfl,S⟩
 refine wp_skip (hK10 _ _ (sq fun K18 hK18=>rr E fun a E=>(E.ib 13 H (fun c20 E H=>?_) fun c20 E H=>?_)))
 refine rr E fun a E=>(wp_ret (qCQ ?_))
 obtain rfl:=si H
 exact rt1 E ⟨_,rfl,_,rfl,S⟩
 refine wp_skip (hK18 _ _ (sq fun K22 hK22=>rr E fun a E=>(E.ik 16 H (fun c24 E H=>?_) fun c24 E H=>?_)))
 refine rr E fun a E=>(wp_ret (qCQ ?_))
 obtain rfl:=si H
 exact rt1 E ⟨_,rfl,_,rfl,S⟩
 refine wp_skip (hK22 _ _ (sq fun K26 hK26=>rr E fun a E=>(E.ik 19 H (fun c28 E H=>?_) fun c28 E H=>?_)))
 refine rr E fun a E=>(wp_ret (qCQ ?_))
 obtain rfl:=si H
 exact rt1 E ⟨_,rfl,_,rfl,S⟩
 refine wp_skip (hK26 _ _ (rr E fun a E=>(wp_ret ?_)))
 obtain rfl:=si H
 exact rt1 E ⟨_,rfl,_,rfl,S⟩
def qBw.f(x:qA)(y:Int):Option Int:=(qAu.f x.f0 y).bind fun t6=>(some t6)
def qBw.Post(W F:World)(r:Int)(v:Value)(w':World):Prop:=∃(F':World),v=iv r∧Sm W F w' F' []
theorem qBw.calls(x:qA)(y:Int)(r:Int)(W F:World)(hown:Sub F W)(H:qBw.f x y=some r):
    Cr 127 #[.agg #[iv x.f0,iv x.f1,iv x.f2,iv x.f3,.bool x.f4,.bool x.f5],iv y] W (qBw.Post W F r):=by
 have S:=sT hown
 unfold qBw.f at H
 refine ent 9 rfl rfl rfl (fun a E=>?_)
 refine sq fun K1 hK1=>pl0 (plx (t:=68) E S [iv x.f0,iv x.f1,iv x.f2,iv x.f3,.bool x.f4,.bool x.f5] fun b2 u3 hb2 S a E=>plc E (.r 1 1 .nil) (fun a E=>pld (hK1 _ _ (sq fun K4 hK4=>pl0 (plc E (.r 0 1<|.b 1 0 hb2<|.r 2 1<|.nil) (fun a E=>?_))))))
 obtain ⟨t6,h7,H⟩:=bd H
 refine plq E S en90 (qAu.calls x.f0 y _ _ _ S.own.sub h7) fun u5 S a E=>plc E (.r 4 1 .nil) (fun a E=>pld (hK4 _ _ (wp_ret ?_)))
 replace S:=S.tail
 obtain rfl:=si H
 exact rt1 E ⟨_,rfl,_,rfl,S⟩
def qS.l7:Nat→List qA→Int→Int→Int→Option (Int × Bool)
 | 0,_,_,_,_=>none
 | k+1,x,y,x5,x6=>if x5<x6 then (if 0≤(w64 ((IntKind.u64.wrap (w64 (x5+x6))).fdiv 2))∧(w64 ((IntKind.u64.wrap (w64 (x5+x6))).fdiv 2))<(x.length:Int) then ((qBw.f (nth qA.z x (w64 ((IntKind.u64.wrap (w64 (x5+x6))).fdiv 2))) y).bind fun t22=>(if t22<0 then (qS.l7 k x y (w64 ((w64 ((IntKind.u64.wrap (w64 (x5+x6))).fdiv 2))+1)) x6) else (qS.l7 k x y x5 (w64 ((IntKind.u64.wrap (w64 (x5+x6))).fdiv 2))))) else (none)) else (if x5<(x.length:Int) then (if 0≤x5∧x5<(x.length:Int) then ((qBw.f (nth qA.z x x5) y).bind fun t33=>(some (x5,(t33 == 0)))) else (none)) else (some (x5,false)))
theorem qS.l7_s k x y x5 x6:type_of% (qS.l7.eq_2 x y x5 x6 k):=qS.l7.eq_2 x y x5 x6 k
def qS.f(k:Nat)(x:List qA)(y:Int):Option (Int × Bool):=qS.l7 k x y 0 (x.length:Int)
def qS.Post(W F:World)(r:Int × Bool)(v:Value)(w':World):Prop:=∃(F':World),v = .tuple #[iv r.1,.bool r.2]∧Sm W F w' F' []
theorem qS.calls(k:Nat)(x:List qA)(y:Int)(A0_0:OA)(c0_0:Nat)(r:Int × Bool)(W F:World)(hown:Sub F W)(g0_0:Rd qA.k F A0_0 c0_0 x)(H:qS.f k x y=some r):
    Cr 88 #[.slice A0_0 x.length c0_0,iv y,.func (.func 127) #[] #[]] W (qS.Post W F r):=by
 have S:=sT hown
 unfold qS.f at H
 refine ent 49 rfl rfl rfl (fun a E=>?_)
 refine rr E fun a E=>(rr E fun a E=>(rr E fun a E=>(sq fun K4 hK4=>wp_block ?_)))
 refine wp_loop_ghost (fun kq8 a w'=>∃(G:NV)(x5:Int)(x6:Int),kq8≤k∧Env 49 G a∧At G [(0,.slice A0_0 x.length c0_0),(1,iv y),(2,.func (.func 127) #[] #[]),(8,iv (x.length:Int)),(9,iv x5),(10,iv x6)]∧Sm W F w' F []∧qS.l7 kq8 x y x5 x6=some r) k ⟨_,0,(x.length:Int),Nat.le_refl _,E,.of,S,H⟩ ?_
 rintro kq8 a u10 ⟨G,x5,x6,hkq,E,A,S,H⟩
 obtain _ | k9:=kq8
 exact zz H
 rw [qS.l7_s]at H
 obtain ⟨J,E⟩:=E.at A
 refine sq fun K11 hK11=>rr E fun a E=>(E.ik 17 H (fun c13 E H=>?_) fun c13 E H=>?_)
 refine wp_skip (hK11 _ _ (wp_block (rr E fun a E=>(sq fun K15 hK15=>pl0 ?_))))
 obtain ⟨c16,H⟩:=gd H
 have hE_:=E
 obtain ⟨ad17,rfl⟩:=g0_0.addr c16.1 c16.2
 replace E:=hE_
 obtain ⟨cs19,rfl,hc20⟩:=g0_0.el qA.z (w64 ((IntKind.u64.wrap (w64 (x5+x6))).fdiv 2)) c16.1 c16.2
 refine plc E (.r 0 3<|.x 3 c16<|.cs 4 (S.fcs hc20)<|.r 5 1<|.nil) (fun a E=>?_)
 obtain ⟨t22,h23,H⟩:=bd H
 refine plq E S en127 (qBw.calls (nth qA.z x (w64 ((IntKind.u64.wrap (w64 (x5+x6))).fdiv 2))) y _ _ _ S.own.sub h23) fun u21 S a E=>plc E (.r 7 1 .nil) (fun a E=>pld (hK15 _ _ (E.ik 31 H (fun c24 E H=>?_) fun c24 E H=>?_)))
 refine pl0 (plc E (.r 0 3 .nil) (fun a E=>pld ?_))
 refine qCS ?_
 exact qCT ⟨k9,by omega,_,(w64 ((w64 ((IntKind.u64.wrap (w64 (x5+x6))).fdiv 2))+1)),x6,by omega,E,.of,S,H⟩
 refine pl0 (plc E (.r 0 2 .nil) (fun a E=>pld ?_))
 refine qCS ?_
 exact qCT ⟨k9,by omega,_,x5,(w64 ((IntKind.u64.wrap (w64 (x5+x6))).fdiv 2)),by omega,E,.of,S,H⟩
 refine wp_exit ?_
 refine hK4 _ _ (sq fun K25 hK25=>pl0 (plc E (.r 0 5 .nil) (fun a E=>E.fk 39 H (fun c26 E H=>?_) fun c26 E H=>?_)))
 obtain ⟨c27,H⟩:=gd H
 have hE_:=E
 obtain ⟨ad28,rfl⟩:=g0_0.addr c27.1 c27.2
 replace E:=hE_
 obtain ⟨cs30,rfl,hc31⟩:=g0_0.el qA.z x5 c27.1 c27.2
 refine plc E (.r 5 3<|.x 8 c27<|.cs 9 (S.fcs hc31)<|.r 10 1<|.nil) (fun a E=>?_)
 obtain ⟨t33,h34,H⟩:=bd H
 refine plq E S en127 (qBw.calls (nth qA.z x x5) y _ _ _ S.own.sub h34) fun u32 S a E=>plc E (.r 12 4 .nil) (fun a E=>pld (hK25 _ _ (wp_ret ?_)))
 obtain rfl:=si H
 exact rtN E ⟨_,rfl,_,rfl,S⟩
 refine plc E (.r 5 11 .nil) (fun a E=>pld (hK25 _ _ (wp_ret ?_)))
 obtain rfl:=si H
 exact rtN E ⟨_,rfl,_,rfl,S⟩
def qCJ.f(k:Nat)(x:qD)(y:Int):Option (Int × Bool):=(qS.f k x.f4 y).bind fun t6=>(some (t6.1,t6.2))
def qCJ.Post(W F:World)(r:Int × Bool)(v:Value)(w':World):Prop:=∃(F':World),v = .tuple #[iv r.1,.bool r.2]∧Sm W F w' F' []
theorem qCJ.calls(k:Nat)(x:qD)(y:Int)(A0_4:OA)(c0_4:Nat)(A0_5:OA)(c0_5:Nat)(A0_6:OA)(c0_6:Nat)(r:Int × Bool)(W F:World)(hown:Sub F W)(g0_4:Rd qA.k F A0_4 c0_4 x.f4)(g0_5:Rd qE.k F A0_5 c0_5 x.f5)(g0_6:Rd qC.k F A0_6 c0_6 x.f6)(H:qCJ.f k x y=some r):
    Cr 103 #[.agg #[iv x.f0,iv x.f1,iv x.f2,iv x.f3,.slice A0_4 x.f4.length c0_4,.slice A0_5 x.f5.length c0_5,.slice A0_6 x.f6.length c0_6],iv y] W (qCJ.Post W F r):=by
 have S:=sT hown
 unfold qCJ.f at H
 refine ent 12 rfl rfl rfl (fun a E=>?_)
 refine sq fun K1 hK1=>pl0 (plx (t:=26) E S [iv x.f0,iv x.f1,iv x.f2,iv x.f3,.slice A0_4 x.f4.length c0_4,.slice A0_5 x.f5.length c0_5,.slice A0_6 x.f6.length c0_6] fun b2 u3 hb2 S a E=>plc E (.r 1 2 .nil) (fun a E=>pld (hK1 _ _ (sq fun K4 hK4=>pl0 (plc E (.r 0 1<|.b 1 4 hb2<|.r 2 1<|.nil) (fun a E=>?_))))))
 obtain ⟨t6,h7,H⟩:=bd H
 refine plq E S en88 (qS.calls k x.f4 y _ _ _ _ _ S.own.sub g0_4 h7) fun u5 S a E=>plc E (.r 4 4 .nil) (fun a E=>pld (hK4 _ _ (wp_ret ?_)))
 replace S:=S.tail
 obtain rfl:=si H
 exact rtN E ⟨_,rfl,_,rfl,S⟩
def qAc.f(p:List qA)(s:Int)(t:List qA):Option (List qA):=match t with
 | [x]=>if 0≤s∧s≤(p.length:Int)∧p.length≤1000000 then some (p.take s.toNat++x :: p.drop s.toNat) else none
 | _=>none
def qAc.Post(p:List qA)(s:Int)(t:List qA)(A0_0:OA)(c0_0:Nat)(A2_0:OA)(c2_0:Nat)(W F:World)(r:List qA)(v:Value)(w':World):Prop:=∃(F':World)(RA0_0:OA)(rc0_0:Nat),v = .slice RA0_0 r.length rc0_0∧St W (mine W [row qA.k 68 (.slice A0_0 p.length c0_0) p,row qA.k 68 (.slice A2_0 t.length c2_0) t]) F w' F' [row qA.k 68 (.slice RA0_0 r.length rc0_0) r]
set_option maxHeartbeats 4000000 in
set_option maxRecDepth 100000 in
theorem qAc.calls(p:List qA)(s:Int)(t:List qA)(A0_0:OA)(c0_0:Nat)(A2_0:OA)(c2_0:Nat)(r:List qA)(W F:World)(hown:Own W F [row qA.k 68 (.slice A0_0 p.length c0_0) p,row qA.k 68 (.slice A2_0 t.length c2_0) t])(H:qAc.f p s t=some r):
    Cr 124 #[.slice A0_0 p.length c0_0,iv s,.slice A2_0 t.length c2_0] W (qAc.Post p s t A0_0 c0_0 A2_0 c2_0 W F r):=by
 have S:=St.start hown
 unfold qAc.f at H
 rcases t with _ | ⟨x,_ | ⟨y,l⟩⟩
 ·
  cases H
 rotate_left
 ·
  cases H
 replace H:(if 0≤s∧s≤(p.length:Int)∧p.length≤1000000 then some (p.take s.toNat++x :: p.drop s.toNat) else none)=some r:=H
 by_cases hc:0≤s∧s≤(p.length:Int)∧p.length≤1000000
 rotate_left
 ·
  rw [if_neg hc]at H; cases H
 rw [if_pos hc]at H
 have hr:=Option.some.inj H
 clear H
 obtain ⟨h0,h1,hm⟩:=hc
 obtain ⟨j,rfl⟩:∃ j:Nat,s=j:=⟨s.toNat,by omega⟩
 simp only [Int.toNat_natCast]at hr
 refine enter (n:=95) rfl rfl rfl (Nat.le_of_ble_eq_true rfl) (fun a E=>?_)
 obtain ⟨A12,c12,hA12,hv12⟩:=y_suf (P:=Tryz.prog) (k:=.i64) (S.row_at (i:=0) rfl) ⟨h0,h1⟩
 refine rr E fun a E=>(rg E (.r 0 2<|.y 2 (hv12 (by kernel_rfl)) .nil) fun a E=>(rr E fun a E=>(sq fun K3 hK3=>rr E fun a E=>(cf E (wp_skip (hK3 _ _ (rr E fun a E=>(sq fun K6 hK6=>rr E fun a E=>?_))))))))
 by_cases hi:(j:Int)=(p.length:Int)
 ·
  replace E:=E.kt 22 hi
  refine ct E ?_
  obtain rfl:j=p.length:=by omega
  obtain rfl:p++[x]=r:=by rw [← hr]; simp
  refine sq fun K8 hK8=>pl0 (plc E (.r 0 2 .nil) (fun a E=>ple E (.ap (d:=qA.k) 40 S (qCX (S.row_at (i:=1) rfl)) (by simp only [List.length_cons,List.length_nil]; omega) c2_0) ?_))
  rintro _ w1 a ⟨A1,c1,rfl,S,hz⟩ E
  refine plc E (.r 3 1 .nil) (fun a E=>pld (hK8 _ _ (wp_ret (qCQ ?_))))
  replace S:=S.pm [0] 2
  exact rt1 E ⟨_,rfl,F,_,_,rfl,S⟩
 replace E:=E.kf 22 hi
 refine cf E (wp_skip (hK6 _ _ ?_))
 have hlt:j<p.length:=by omega
 have hxc:p.length≤c0_0∧c0_0≤maxLen:=by
  obtain ⟨_,q1,q2,_⟩:=qCU (S.row_at (i:=0) rfl)
  exact ⟨q1,q2⟩
 have hxc2:[x].length≤c2_0:=(qCU (S.row_at (i:=1) rfl)).2.1
 have hE_:=E
 obtain ⟨g,cur,rfl,hsz,hrep,S⟩:=S.unrow (by omega)
 replace S:=S.front 1 rfl
 obtain ⟨g2,cur2,rfl,hsz2,hrep2,S⟩:=S.unrow (by simp)
 replace E:=hE_
 have hne:g2≠g:=S.ne (i:=0) (j:=1) rfl rfl (by decide)
 obtain ⟨cs,hcs⟩:∃ cs,cs=cur2.toList.take 6:=⟨_,rfl⟩
 have hx:(qA.k).K F x cs:=by
  have h5:=hrep2.2 0 x rfl
  rw [Nat.zero_mul,List.drop_zero,List.take_take]at h5
  rw [hcs]
  exact h5
 have hcl:cs.length=6:=(qA.k).len hx
 have hcget:∀ q u,cs[q]? = some u→cur2[q]? = some u:=fun q u hq=>by
  rw [hcs,List.getElem?_take]at hq
  split at hq
  ·
   rwa [Array.getElem?_toList]at hq
  ·
   cases hq
 have hcone:∀ u ∈ cs,u.oneCell'=true:=(qA.k).one hx
 obtain ⟨inner,hin⟩:∃ inner,inner=cur.toList.take (p.length * 6):=⟨_,rfl⟩
 replace hrep:RepsK qA.k F p inner:=by rw [hin]; exact hrep
 have hil:inner.length=p.length * 6:=hrep.1
 have hione:∀ u ∈ inner.drop (j * 6),u.oneCell'=true:=fun u hu=>hrep.one u (List.mem_of_mem_drop hu)
 have hidl:(inner.drop (j * 6)).length=(p.length - j) * 6:=by rw [List.length_drop,hil,Nat.sub_mul]
 have higet:∀ q u,(inner.drop (j * 6))[q]? = some u→cur[j * 6+q]? = some u:=fun q u hq=>by
  rw [List.getElem?_drop,hin,List.getElem?_take]at hq
  split at hq
  ·
   rwa [Array.getElem?_toList]at hq
  ·
   cases hq
 replace hsz:cur.size=c0_0 * 6:=hsz
 have hw1:w64 ((p.length:Int)+(([x].length:Nat):Int))=((p.length+1:Nat):Int):=by
  simp only [List.length_cons,List.length_nil]
  rw [qCY (by omega) (by omega)]
  omega
 have hw2:w64 ((j:Int)+(([x].length:Nat):Int))=((j+1:Nat):Int):=by
  simp only [List.length_cons,List.length_nil]
  rw [qCY (by omega) (by omega)]
  omega
 refine sq fun K9 hK9=>rg E (.r 0 4<|.y 4 (y_cap (A:=some ⟨g,0,none⟩) (n:=p.length) (c:=c0_0))<|.r 5 1 .nil) fun a E=>?_
 by_cases hroom:w64 ((p.length:Int)+(([x].length:Nat):Int))>(c0_0:Int)
 ·
  replace E:=E.kt 31 hroom
  rw [hw1]at hroom
  refine ct E ?_
  have hw3:w64 (w64 ((p.length:Int)+(([x].length:Nat):Int)) - (j:Int))=((p.length+1 - j:Nat):Int):=by
   rw [hw1,qCY (by omega) (by omega)]
   omega
  refine sq fun K11 hK11=>pl0 (plc E (.r 0 2<|.y 2 (y_hi (e:=68) (z:=6) (g:=g) (n:=p.length) (c:=c0_0) (k:=.i64) (hi:=(j:Int)) ⟨by omega,by omega⟩)<|.r 3 5 .nil) (fun a E=>ple E (.gro (e:=68) (g:=g) (c:=c0_0) (j:=j) (z:=6) (bytes:=40) (k:=w64 (w64 ((p.length:Int)+(([x].length:Nat):Int)) - (j:Int))) S (S.ba 1) (by omega) (by omega) (by rw [hsz]; exact Nat.mul_le_mul_right _ (by omega)) (by rw [hw3]; omega) (by kernel_rfl)) ?_))
  rintro _ w1 a ⟨b,arr,cc,rfl,has,hc1,hc2,hpre,S,hag⟩ E
  rw [hw3]at hc1 E
  have hnb:g2≠b:=S.ne (i:=1) (j:=0) rfl rfl (by decide)
  have hgb:g≠b:=S.ne (i:=2) (j:=0) rfl rfl (by decide)
  have hk3:j+((p.length+1 - j:Nat):Int).toNat=p.length+1:=by rw [Int.toNat_natCast]; omega
  rw [hk3]at hc1 E
  have hpi:arr.toList.take (j * 6)=inner.take (j * 6):=by
   rw [hpre,hin,List.take_take,Nat.min_eq_left (Nat.mul_le_mul_right _ (by omega))]
  obtain ⟨s1,s2,s3⟩:=qDk (sz:=6) (n:=p.length) (i:=j) (cap:=cc) (c0:=arr.toList) (inner:=inner) (cs:=cs) hpi hil hcl (by omega) hc1 (by rw [Array.length_toList]; exact has)
  obtain ⟨C1,hC1⟩:∃ C1,C1=arr.toList.take (j * 6)++cs++arr.toList.drop (j * 6+cs.length):=⟨_,rfl⟩
  rw [← hC1]at s1 s2 s3
  obtain ⟨C2,hC2⟩:∃ C2,C2=C1.take ((j+1) * 6)++inner.drop (j * 6)++C1.drop ((j+1) * 6+(inner.drop (j * 6)).length):=⟨_,rfl⟩
  rw [← hC2]at s1 s2
  refine plc E (.r 9 1 .nil) (fun a E=>pld (hK11 _ _ (sq fun K12 hK12=>pl0 (plc E (.r 0 2<|.y 2 (y_lo (e:=68) (z:=6) (g:=b) (n:=p.length+1) (c:=cc) (k:=.i64) (lo:=(j:Int)) ⟨by omega,by omega⟩ (by omega))<|.r 3 1 .nil) (fun a E=>?_)))))
  have hb2:=S.ba 1
  have hbg:=S.ba 2
  have hmin1:Nat.min [x].length (p.length+1 - (j:Int).toNat)=1:=by
   rw [Int.toNat_natCast]
   simp only [List.length_cons,List.length_nil]
   exact Nat.min_eq_left (by omega)
  refine ple E (.cpy (e:=68) (z:=6) (off:=(j:Int).toNat * 6) (dn:=p.length+1 - (j:Int).toNat) (dc:=cc - (j:Int).toNat) (sn:=[x].length) (sc:=c2_0) (sa:=⟨g2,0,none⟩) S cs (by rw [hmin1,hcl]) (fun q u hq=>by rw [qCc,Nat.zero_add]; exact qCZ hb2 (hcget q u hq)) hcone (by
      rw [Int.toNat_natCast,has,hcl]
      have:=Nat.mul_le_mul_right 6 (show j+1≤cc by omega)
      omega) (by kernel_rfl)) ?_
  rintro _ w2 a ⟨rfl,S,hz,hnew,hoth⟩ E
  simp only [Int.toNat_natCast]at S hnew
  rw [← hC1]at S hnew
  refine pld (hK12 _ _ (sq fun K13 hK13=>?_))
  refine drawn 9 ⟨[8],[],fun q=>False⟩ mixed rfl (by kernel_rfl) (fun hst=>?_)
  replace S:=S.drew
  have hbg2:=S.ba 2
  refine mny 1 hst E (.r 0 4<|.y 4 (y_lo (e:=68) (z:=6) (g:=b) (n:=p.length+1) (c:=cc) (k:=.i64) (lo:=w64 ((j:Int)+(([x].length:Nat):Int))) ⟨by omega,by omega⟩ (by omega))<|.r 5 2<|.y 7 (y_lo (e:=68) (z:=6) (g:=g) (n:=p.length) (c:=c0_0) (k:=.i64) (lo:=(j:Int)) ⟨by omega,by omega⟩ (by omega)) .nil) (fun a E=>?_)
  refine on1 8 E (.cpy (e:=68) (z:=6) (off:=(w64 ((j:Int)+(([x].length:Nat):Int))).toNat * 6) (dn:=p.length+1 - (w64 ((j:Int)+(([x].length:Nat):Int))).toNat) (dc:=cc - (w64 ((j:Int)+(([x].length:Nat):Int))).toNat) (sn:=p.length - (j:Int).toNat) (sc:=c0_0 - (j:Int).toNat) (sa:=⟨g,(j:Int).toNat * 6,none⟩) S (inner.drop (j * 6)) (by
      rw [hw2,Int.toNat_natCast,Int.toNat_natCast,hidl,show p.length+1 - (j+1)=p.length - j by omega]
      congr 1
      exact (Nat.min_self _).symm) (fun q u hq=>by rw [qCc,Int.toNat_natCast]; exact qCZ hbg2 (higet q u hq)) hione (by
      rw [hw2,Int.toNat_natCast,hidl,List.size_toArray,s3,← Nat.add_mul]
      exact Nat.mul_le_mul_right _ (by omega)) (by kernel_rfl)) ?_
  rintro _ w3 a ⟨rfl,S,hz,hnew,hoth⟩ E
  refine ⟨.d,?_⟩
  refine dn ?_
  rw [hw2,Int.toNat_natCast]at S
  simp only [List.toList_toArray]at S
  rw [← hC2]at S
  refine hK13 _ _ (rr E fun a E=>(wp_ret (qCQ ?_)))
  have hrl:r.length=p.length+1:=by rw [← hr]; simp; omega
  have hrr:RepsK qA.k F r (C2.toArray.toList.take (r.length * (qA.k).sz)):=by
   rw [hrl]
   show RepsK qA.k F r (C2.take ((p.length+1) * 6))
   rw [s1,← hr]
   exact qCq hrep hx (by omega) rfl
  have hS2:=S.rerow (c:=cc) r (show C2.toArray.size=cc * 6 by simpa using s2) (by omega) hc2 hrr
  replace hS2:=hS2.front 1 rfl
  replace hS2:=hS2.tail
  replace hS2:=hS2.front 1 rfl
  replace hS2:=hS2.tail
  rw [← hrl]at E
  exact rt1 E ⟨_,rfl,F,_,_,rfl,hS2⟩
 replace E:=E.kf 31 hroom
 rw [hw1]at hroom
 have hrm:p.length+1≤c0_0:=by omega
 refine cf E (wp_skip (hK9 _ _ ?_))
 obtain ⟨s1,s2,s3⟩:=qEJ (sz:=6) (n:=p.length) (i:=j) (cap:=c0_0) (cur:=cur.toList) (inner:=inner) (cs:=cs) hin.symm hcl (by omega) hrm (by rw [Array.length_toList]; exact hsz)
 obtain ⟨C1,hC1⟩:∃ C1,C1=cur.toList.take ((j+1) * 6)++inner.drop (j * 6)++cur.toList.drop ((j+1) * 6+(inner.drop (j * 6)).length):=⟨_,rfl⟩
 rw [← hC1]at s1 s2 s3
 obtain ⟨C2,hC2⟩:∃ C2,C2=C1.take (j * 6)++cs++C1.drop (j * 6+cs.length):=⟨_,rfl⟩
 rw [← hC2]at s1 s2
 refine rg E (.r 0 4<|.y 4 (y_hi (e:=68) (z:=6) (g:=g) (n:=p.length) (c:=c0_0) (k:=.i64) (hi:=w64 ((p.length:Int)+(([x].length:Nat):Int))) ⟨by omega,by omega⟩)<|.r 5 1 .nil) fun a E=>?_
 have hn1:(w64 ((p.length:Int)+(([x].length:Nat):Int))).toNat=p.length+1:=by rw [hw1,Int.toNat_natCast]
 rw [hn1]at E
 refine sq fun K16 hK16=>sq fun K17 hK17=>pl0 (plc E (.r 0 5<|.y 5 (y_lo (e:=68) (z:=6) (g:=g) (n:=p.length+1) (c:=c0_0) (k:=.i64) (lo:=w64 ((j:Int)+(([x].length:Nat):Int))) ⟨by omega,by omega⟩ (by omega)) .nil) (fun a E=>?_))
 have hb2:=S.ba 0
 have hbg:=S.ba 1
 have hcz:cur.size≠0:=by rw [hsz]; exact Nat.mul_ne_zero (by omega) (by decide)
 refine ple E (.ext (f:=151) (args:=[.slice (pb g2) [x].length c2_0,.slice (some ⟨g,(w64 ((j:Int)+(([x].length:Nat):Int))).toNat * 6,none⟩) (p.length+1 - (w64 ((j:Int)+(([x].length:Nat):Int))).toNat) (c0_0 - (w64 ((j:Int)+(([x].length:Nat):Int))).toNat)]) (v:=.bool false) (R:=fun v w'=>v = .bool false∧w'=_) (by
    rw [run_callFunc_extern Tryz.func151 (by kernel_rfl) (by kernel_rfl) (by kernel_rfl) (e:=Extern.SlicesOverlaps.overlaps #[22,22] #[4]) (by kernel_rfl)]
    refine (congrArg (fun r:Result Value=>r.andThen fun v w'=>Result.ok (Next.value v) w') (Lib.run_overlaps_apart _ 22 4 68 Tryz.underlying22 6 (fun _=>by kernel_rfl) ⟨g2,0,none⟩ ⟨g,(w64 ((j:Int)+(([x].length:Nat):Int))).toNat * 6,none⟩ [x].length c2_0 _ _ hne 68 68 cur2.size cur.size (by simp [World.shape?,hb2]) (by simp [World.shape?,hbg]) hcz (by simp [World.frozen?,hb2]) (by simp [World.frozen?,hb2]))).trans rfl) ⟨rfl,rfl⟩) ?_
 rintro _ _ a ⟨rfl,rfl⟩ E
 refine plc E (.r 7 1 .nil) (fun a E=>pld (hK17 _ _ (ct E (sq fun K18 hK18=>?_))))
 refine drawn 9 ⟨[8],[],fun q=>False⟩ mixed rfl (by kernel_rfl) (fun hst=>?_)
 replace S:=S.drew
 replace S:=S.front 1 rfl
 have hbg2:=S.ba 0
 refine mny 1 hst E (.r 0 4<|.y 4 (y_lo (e:=68) (z:=6) (g:=g) (n:=p.length+1) (c:=c0_0) (k:=.i64) (lo:=w64 ((j:Int)+(([x].length:Nat):Int))) ⟨by omega,by omega⟩ (by omega))<|.r 5 2<|.y 7 (y_lo (e:=68) (z:=6) (g:=g) (n:=p.length+1) (c:=c0_0) (k:=.i64) (lo:=(j:Int)) ⟨by omega,by omega⟩ (by omega)) .nil) (fun a E=>?_)
 refine on1 8 E (.cpy (e:=68) (z:=6) (off:=(w64 ((j:Int)+(([x].length:Nat):Int))).toNat * 6) (dn:=p.length+1 - (w64 ((j:Int)+(([x].length:Nat):Int))).toNat) (dc:=c0_0 - (w64 ((j:Int)+(([x].length:Nat):Int))).toNat) (sn:=p.length+1 - (j:Int).toNat) (sc:=c0_0 - (j:Int).toNat) (sa:=⟨g,(j:Int).toNat * 6,none⟩) S (inner.drop (j * 6)) (by
    rw [hw2,Int.toNat_natCast,Int.toNat_natCast,hidl,show p.length+1 - (j+1)=p.length - j by omega]
    congr 1
    exact (Nat.min_eq_right (by omega)).symm) (fun q u hq=>by rw [qCc,Int.toNat_natCast]; exact qCZ hbg2 (higet q u hq)) hione (by
    rw [hw2,Int.toNat_natCast,hidl,hsz,← Nat.add_mul]
    exact Nat.mul_le_mul_right _ (by omega)) (by kernel_rfl)) ?_
 rintro _ w2 a ⟨rfl,S,hz,hnew,hoth⟩ E
 refine ⟨.d,?_⟩
 refine dn ?_
 rw [hw2,Int.toNat_natCast,← hC1]at S
 refine hK18 _ _ (sq fun K19 hK19=>pl0 ?_)
 have hb3:=S.ba 1
 refine plc E (.r 0 2<|.y 2 (y_lo (e:=68) (z:=6) (g:=g) (n:=p.length+1) (c:=c0_0) (k:=.i64) (lo:=(j:Int)) ⟨by omega,by omega⟩ (by omega))<|.r 3 1 .nil) (fun a E=>?_)
 have hmin1:Nat.min [x].length (p.length+1 - (j:Int).toNat)=1:=by
  rw [Int.toNat_natCast]
  simp only [List.length_cons,List.length_nil]
  exact Nat.min_eq_left (by omega)
 refine ple E (.cpy (e:=68) (z:=6) (off:=(j:Int).toNat * 6) (dn:=p.length+1 - (j:Int).toNat) (dc:=c0_0 - (j:Int).toNat) (sn:=[x].length) (sc:=c2_0) (sa:=⟨g2,0,none⟩) S cs (by rw [hmin1,hcl]) (fun q u hq=>by rw [qCc,Nat.zero_add]; exact qCZ hb3 (hcget q u hq)) hcone (by
    rw [Int.toNat_natCast,List.size_toArray,s3,hcl]
    have:=Nat.mul_le_mul_right 6 (show j+1≤c0_0 by omega)
    omega) (by kernel_rfl)) ?_
 rintro _ w3 a ⟨rfl,S,hz,hnew,hoth⟩ E
 simp only [Int.toNat_natCast,List.toList_toArray]at S
 rw [← hC2]at S
 refine pld (hK19 _ _ (rr E fun a E=>(wp_ret (qCQ ?_))))
 have hrl:r.length=p.length+1:=by rw [← hr]; simp; omega
 have hrr:RepsK qA.k F r (C2.toArray.toList.take (r.length * (qA.k).sz)):=by
  rw [hrl]
  show RepsK qA.k F r (C2.take ((p.length+1) * 6))
  rw [s1,← hr]
  exact qCq hrep hx (by omega) rfl
 have hS2:=S.rerow (c:=c0_0) r (show C2.toArray.size=c0_0 * 6 by simpa using s2) (by omega) hxc.2 hrr
 replace hS2:=hS2.front 1 rfl
 replace hS2:=hS2.tail
 rw [← hrl]at E
 exact rt1 E ⟨_,rfl,F,_,_,rfl,hS2⟩
def qCI.f(k:Nat)(x:qD)(y:qF):Option (qD × Int):=(qCJ.f k x y.f1).bind fun t10=>(if t10.2=true then (some (x,7)) else (if (x.f4.length:Int)=12 then (some (x,6)) else ((qAc.f x.f4 t10.1 [(⟨y.f1,y.f2,y.f3,y.f4,false,true⟩:qA)]).bind fun t27=>((qAQ.f k t27).bind fun t37=>(some ((⟨x.f0,x.f1,x.f2,x.f3,t27,x.f5,x.f6⟩:qD),t37))))))
def qCI.Post(x:qD)(y:qF)(A0_4:OA)(c0_4:Nat)(A0_5:OA)(c0_5:Nat)(A0_6:OA)(c0_6:Nat)(A1_6:OA)(c1_6:Nat)(W F:World)(r:qD × Int)(v:Value)(w':World):Prop:=∃(F':World)(RA0_4:OA)(rc0_4:Nat)(RA0_5:OA)(rc0_5:Nat)(RA0_6:OA)(rc0_6:Nat),v = .tuple #[.agg #[iv r.1.f0,iv r.1.f1,iv r.1.f2,iv r.1.f3,.slice RA0_4 r.1.f4.length rc0_4,.slice RA0_5 r.1.f5.length rc0_5,.slice RA0_6 r.1.f6.length rc0_6],iv r.2]∧St W (mine W [row qA.k 68 (.slice A0_4 x.f4.length c0_4) x.f4]) F w' F' [row qA.k 68 (.slice RA0_4 r.1.f4.length rc0_4) r.1.f4]∧Rd qE.k F' RA0_5 rc0_5 r.1.f5∧Rd qC.k F' RA0_6 rc0_6 r.1.f6
theorem qCI.calls(k:Nat)(x:qD)(y:qF)(A0_4:OA)(c0_4:Nat)(A0_5:OA)(c0_5:Nat)(A0_6:OA)(c0_6:Nat)(A1_6:OA)(c1_6:Nat)(r:qD × Int)(W F:World)(hown:Own W F [row qA.k 68 (.slice A0_4 x.f4.length c0_4) x.f4])(g0_5:Rd qE.k F A0_5 c0_5 x.f5)(g0_6:Rd qC.k F A0_6 c0_6 x.f6)(g1_6:Rd ki F A1_6 c1_6 y.f6)(H:qCI.f k x y=some r):
    Cr 100 #[.agg #[iv x.f0,iv x.f1,iv x.f2,iv x.f3,.slice A0_4 x.f4.length c0_4,.slice A0_5 x.f5.length c0_5,.slice A0_6 x.f6.length c0_6],.agg #[iv y.f0,iv y.f1,iv y.f2,iv y.f3,iv y.f4,iv y.f5,.slice A1_6 y.f6.length c1_6]] W (qCI.Post x y A0_4 c0_4 A0_5 c0_5 A0_6 c0_6 A1_6 c1_6 W F r):=by
 have S:=St.start hown
 obtain ⟨N,hN⟩:∃ N,N=mine W [row qA.k 68 (.slice A0_4 x.f4.length c0_4) x.f4]:=⟨_,rfl⟩
 rw [← hN]at S
 unfold qCI.f at H
 refine ent 43 rfl rfl rfl (fun a E=>?_)
 refine sq fun K1 hK1=>pl0 (plx (t:=26) E S [iv x.f0,iv x.f1,iv x.f2,iv x.f3,.slice A0_4 x.f4.length c0_4,.slice A0_5 x.f5.length c0_5,.slice A0_6 x.f6.length c0_6] fun b2 u3 hb2 S a E=>plx (t:=29) E S [iv y.f0,iv y.f1,iv y.f2,iv y.f3,iv y.f4,iv y.f5,.slice A1_6 y.f6.length c1_6] fun b4 u5 hb4 S a E=>pla (t:=26) E S [iv 0,iv 0,iv 0,iv 0,.slice none 0 0,.slice none 0 0,.slice none 0 0] fun b6 u7 hb6 S a E=>plc E (.r 3 1 .nil) (fun a E=>pld (hK1 _ _ (sq fun K8 hK8=>pl0 ?_))))
 have hb2:=S.ba 2
 refine plc E (.bn 0 0 7 hb2<|.r 1 1<|.b 2 1 (S.ba 1)<|.nil) (fun a E=>?_)
 obtain ⟨t10,h11,H⟩:=bd H
 refine plq E S en103 (qCJ.calls k x y.f1 _ _ _ _ _ _ _ _ _ (Sub.refl _) (S.rd_at (i:=3) rfl) (g0_5.mono S.own.sub) (g0_6.mono S.own.sub) h11) fun u9 S a E=>plc E (.r 4 5 .nil) (fun a E=>pld (hK8 _ _ (sq fun K12 hK12=>wp_block (rr E fun a E=>(E.ib 15 H (fun c14 E H=>?_) fun c14 E H=>?_)))))
 refine sq fun K15 hK15=>pl0 (plc E (.bn 0 0 7 (S.ba 2) .nil) (fun a E=>pls E S [iv x.f0,iv x.f1,iv x.f2,iv x.f3,.slice A0_4 x.f4.length c0_4,.slice A0_5 x.f5.length c0_5,.slice A0_6 x.f6.length c0_6] fun u16 hb6 S a E=>plc E (.r 2 1 .nil) (fun a E=>pld (hK15 _ _ (wp_ret (qCR (qCQ ?_)))))))
 replace S:=S.pm [] 3
 rw [hN]at S
 obtain rfl:=si H
 exact rtm E (.b hb6 ag26 sz26 (.t .nil)) ⟨_,rfl,_,_,_,_,_,_,_,rfl,S,g0_5,g0_6⟩
 refine sq fun K17 hK17=>pl0 ?_
 have hb2:=S.ba 2
 refine plc E (.r 0 1<|.b 1 4 hb2<|.r 2 3<|.nil) (fun a E=>pld (hK17 _ _ (E.ik 18 H (fun c18 E H=>?_) fun c18 E H=>?_)))
 refine sq fun K19 hK19=>pl0 (plc E (.bn 0 0 7 hb2 .nil) (fun a E=>pls E S [iv x.f0,iv x.f1,iv x.f2,iv x.f3,.slice A0_4 x.f4.length c0_4,.slice A0_5 x.f5.length c0_5,.slice A0_6 x.f6.length c0_6] fun u20 hb6 S a E=>plc E (.r 2 1 .nil) (fun a E=>pld (hK19 _ _ (wp_ret (qCR (qCQ ?_)))))))
 replace S:=S.pm [] 3
 rw [hN]at S
 obtain rfl:=si H
 exact rtm E (.b hb6 ag26 sz26 (.t .nil)) ⟨_,rfl,_,_,_,_,_,_,_,rfl,S,g0_5,g0_6⟩
 refine wp_skip ?_
 refine qCS ?_
 refine hK12 _ _ (sq fun K21 hK21=>pl0 ?_)
 have hb4:=S.ba 1
 refine plc E (.r 0 1<|.b 1 4 hb2<|.r 2 2<|.b 4 1 hb4<|.r 5 1<|.b 6 2 hb4<|.r 7 1<|.b 8 3 hb4<|.r 9 1<|.b 10 4 hb4<|.r 11 1<|.nil) (fun a E=>ple E (.lit (d:=qA.k) (e:=68) S [(⟨y.f1,y.f2,y.f3,y.f4,false,true⟩:qA)] (.cons rfl .nil)) ?_)
 rintro _ u22 a ⟨A23,c24,rfl,S,hg⟩ E
 replace S:=S.front 4 rfl
 obtain ⟨t27,h28,H⟩:=bd H
 refine ple E (.cl en124 (qAc.calls x.f4 t10.1 [(⟨y.f1,y.f2,y.f3,y.f4,false,true⟩:qA)] _ _ _ _ _ _ _ (Own.left (X:=[row qA.k 68 (.slice A0_4 x.f4.length c0_4) x.f4,row qA.k 68 (.slice A23 ([(⟨y.f1,y.f2,y.f3,y.f4,false,true⟩:qA)].length) c24) [(⟨y.f1,y.f2,y.f3,y.f4,false,true⟩:qA)]]) S.own) h28)) ?_
 rintro _ u26 a ⟨F29,A30,c31,rfl,hC⟩ E
 have hs:=hC.sub
 replace S:=S.called (X:=[row qA.k 68 (.slice A0_4 x.f4.length c0_4) x.f4,row qA.k 68 (.slice A23 ([(⟨y.f1,y.f2,y.f3,y.f4,false,true⟩:qA)].length) c24) [(⟨y.f1,y.f2,y.f3,y.f4,false,true⟩:qA)]]) hC
 replace g0_5:=g0_5.mono hs
 replace g0_6:=g0_6.mono hs
 replace g1_6:=g1_6.mono hs
 refine plc E (.r 14 1 .nil) (fun a E=>?_)
 replace S:=S.front 3 rfl
 refine pls E S [iv x.f0,iv x.f1,iv x.f2,iv x.f3,.slice A30 t27.length c31,.slice A0_5 x.f5.length c0_5,.slice A0_6 x.f6.length c0_6] fun u34 hb2 S a E=>pld (hK21 _ _ (sq fun K35 hK35=>?_))
 refine drawn 6 ⟨[4],[],fun q=>False⟩ mixed rfl (by kernel_rfl) (fun hst=>?_)
 replace S:=S.drew
 have hb2:=S.ba 0
 refine mny 3 hst E (.bn 0 0 7 hb2<|.r 1 1<|.b 2 4 hb2<|.nil) (fun a E=>?_)
 obtain ⟨t37,h38,H⟩:=bd H
 refine on1 3 E (.cl en74 (qAQ.calls k t27 _ _ _ _ _ (Sub.refl _) (S.rd_at (i:=1) rfl) h38)) ?_
 rintro _ u36 a ⟨_,rfl,hC⟩ E
 refine ⟨.of hC.agr,?_⟩
 replace S:=S.lent hC
 replace S:=S.front 2 rfl
 refine on1 4 E (.sto S [iv x.f0,iv x.f1,iv x.f2,iv x.f3,.slice A30 t27.length c31,.slice A0_5 x.f5.length c0_5,.slice A0_6 x.f6.length c0_6]) ?_
 rintro _ u39 a ⟨rfl,hb6,S,hz⟩ E
 refine ⟨.d,?_⟩
 refine mny 0 hst E (.r 5 1 .nil) (fun a E=>?_)
 refine dn ?_
 refine hK35 _ _ (wp_ret ?_)
 replace S:=S.pm [2] 4
 rw [hN]at S
 obtain rfl:=si H
 exact rtm E (.b hb6 ag26 sz26 (.t .nil)) ⟨_,rfl,_,_,_,_,_,_,_,rfl,S,g0_5,g0_6⟩
def qBe.f(x:qE)(y:Int):Option Int:=(qAu.f x.f0 y).bind fun t6=>(some t6)
def qBe.Post(W F:World)(r:Int)(v:Value)(w':World):Prop:=∃(F':World),v=iv r∧Sm W F w' F' []
theorem qBe.calls(x:qE)(y:Int)(A0_1:OA)(c0_1:Nat)(r:Int)(W F:World)(hown:Sub F W)(g0_1:Rd ki F A0_1 c0_1 x.f1)(H:qBe.f x y=some r):
    Cr 148 #[.agg #[iv x.f0,.slice A0_1 x.f1.length c0_1],iv y] W (qBe.Post W F r):=by
 have S:=sT hown
 unfold qBe.f at H
 refine ent 9 rfl rfl rfl (fun a E=>?_)
 refine sq fun K1 hK1=>pl0 (plx (t:=75) E S [iv x.f0,.slice A0_1 x.f1.length c0_1] fun b2 u3 hb2 S a E=>plc E (.r 1 1 .nil) (fun a E=>pld (hK1 _ _ (sq fun K4 hK4=>pl0 (plc E (.r 0 1<|.b 1 0 hb2<|.r 2 1<|.nil) (fun a E=>?_))))))
 obtain ⟨t6,h7,H⟩:=bd H
 refine plq E S en90 (qAu.calls x.f0 y _ _ _ S.own.sub h7) fun u5 S a E=>plc E (.r 4 1 .nil) (fun a E=>pld (hK4 _ _ (wp_ret ?_)))
 replace S:=S.tail
 obtain rfl:=si H
 exact rt1 E ⟨_,rfl,_,rfl,S⟩
def qQ.l7:Nat→List qE→Int→Int→Int→Option (Int × Bool)
 | 0,_,_,_,_=>none
 | k+1,x,y,x5,x6=>if x5<x6 then (if 0≤(w64 ((IntKind.u64.wrap (w64 (x5+x6))).fdiv 2))∧(w64 ((IntKind.u64.wrap (w64 (x5+x6))).fdiv 2))<(x.length:Int) then ((qBe.f (nth qE.z x (w64 ((IntKind.u64.wrap (w64 (x5+x6))).fdiv 2))) y).bind fun t25=>(if t25<0 then (qQ.l7 k x y (w64 ((w64 ((IntKind.u64.wrap (w64 (x5+x6))).fdiv 2))+1)) x6) else (qQ.l7 k x y x5 (w64 ((IntKind.u64.wrap (w64 (x5+x6))).fdiv 2))))) else (none)) else (if x5<(x.length:Int) then (if 0≤x5∧x5<(x.length:Int) then ((qBe.f (nth qE.z x x5) y).bind fun t39=>(some (x5,(t39 == 0)))) else (none)) else (some (x5,false)))
theorem qQ.l7_s k x y x5 x6:type_of% (qQ.l7.eq_2 x y x5 x6 k):=qQ.l7.eq_2 x y x5 x6 k
def qQ.f(k:Nat)(x:List qE)(y:Int):Option (Int × Bool):=qQ.l7 k x y 0 (x.length:Int)
def qQ.Post(W F:World)(r:Int × Bool)(v:Value)(w':World):Prop:=∃(F':World),v = .tuple #[iv r.1,.bool r.2]∧Sm W F w' F' []
theorem qQ.calls(k:Nat)(x:List qE)(y:Int)(A0_0:OA)(c0_0:Nat)(r:Int × Bool)(W F:World)(hown:Sub F W)(g0_0:Rd qE.k F A0_0 c0_0 x)(H:qQ.f k x y=some r):
    Cr 147 #[.slice A0_0 x.length c0_0,iv y,.func (.func 148) #[] #[]] W (qQ.Post W F r):=by
 have S:=sT hown
 unfold qQ.f at H
 refine ent 49 rfl rfl rfl (fun a E=>?_)
 refine rr E fun a E=>(rr E fun a E=>(rr E fun a E=>(sq fun K4 hK4=>wp_block ?_)))
 refine wp_loop_ghost (fun kq8 a w'=>∃(G:NV)(x5:Int)(x6:Int),kq8≤k∧Env 49 G a∧At G [(0,.slice A0_0 x.length c0_0),(1,iv y),(2,.func (.func 148) #[] #[]),(8,iv (x.length:Int)),(9,iv x5),(10,iv x6)]∧Sm W F w' F []∧qQ.l7 kq8 x y x5 x6=some r) k ⟨_,0,(x.length:Int),Nat.le_refl _,E,.of,S,H⟩ ?_
 rintro kq8 a u10 ⟨G,x5,x6,hkq,E,A,S,H⟩
 obtain _ | k9:=kq8
 exact zz H
 rw [qQ.l7_s]at H
 obtain ⟨J,E⟩:=E.at A
 refine sq fun K11 hK11=>rr E fun a E=>(E.ik 17 H (fun c13 E H=>?_) fun c13 E H=>?_)
 refine wp_skip (hK11 _ _ (wp_block (rr E fun a E=>(sq fun K15 hK15=>pl0 ?_))))
 obtain ⟨c16,H⟩:=gd H
 have hE_:=E
 obtain ⟨ad17,rfl⟩:=g0_0.addr c16.1 c16.2
 replace E:=hE_
 obtain ⟨cs19,⟨A21,c22,rfl,g23⟩,hc20⟩:=g0_0.el qE.z (w64 ((IntKind.u64.wrap (w64 (x5+x6))).fdiv 2)) c16.1 c16.2
 refine plc E (.r 0 3<|.x 3 c16<|.cs 4 (S.fcs hc20)<|.r 5 1<|.nil) (fun a E=>?_)
 obtain ⟨t25,h26,H⟩:=bd H
 refine plq E S en148 (qBe.calls (nth qE.z x (w64 ((IntKind.u64.wrap (w64 (x5+x6))).fdiv 2))) y _ _ _ _ _ S.own.sub g23 h26) fun u24 S a E=>plc E (.r 7 1 .nil) (fun a E=>pld (hK15 _ _ (E.ik 31 H (fun c27 E H=>?_) fun c27 E H=>?_)))
 refine pl0 (plc E (.r 0 3 .nil) (fun a E=>pld ?_))
 refine qCS ?_
 exact qCT ⟨k9,by omega,_,(w64 ((w64 ((IntKind.u64.wrap (w64 (x5+x6))).fdiv 2))+1)),x6,by omega,E,.of,S,H⟩
 refine pl0 (plc E (.r 0 2 .nil) (fun a E=>pld ?_))
 refine qCS ?_
 exact qCT ⟨k9,by omega,_,x5,(w64 ((IntKind.u64.wrap (w64 (x5+x6))).fdiv 2)),by omega,E,.of,S,H⟩
 refine wp_exit ?_
 refine hK4 _ _ (sq fun K28 hK28=>pl0 (plc E (.r 0 5 .nil) (fun a E=>E.fk 39 H (fun c29 E H=>?_) fun c29 E H=>?_)))
 obtain ⟨c30,H⟩:=gd H
 have hE_:=E
 obtain ⟨ad31,rfl⟩:=g0_0.addr c30.1 c30.2
 replace E:=hE_
 obtain ⟨cs33,⟨A35,c36,rfl,g37⟩,hc34⟩:=g0_0.el qE.z x5 c30.1 c30.2
 refine plc E (.r 5 3<|.x 8 c30<|.cs 9 (S.fcs hc34)<|.r 10 1<|.nil) (fun a E=>?_)
 obtain ⟨t39,h40,H⟩:=bd H
 refine plq E S en148 (qBe.calls (nth qE.z x x5) y _ _ _ _ _ S.own.sub g37 h40) fun u38 S a E=>plc E (.r 12 4 .nil) (fun a E=>pld (hK28 _ _ (wp_ret ?_)))
 obtain rfl:=si H
 exact rtN E ⟨_,rfl,_,rfl,S⟩
 refine plc E (.r 5 11 .nil) (fun a E=>pld (hK28 _ _ (wp_ret ?_)))
 obtain rfl:=si H
 exact rtN E ⟨_,rfl,_,rfl,S⟩
def qBx.f(k:Nat)(x:qD)(y:Int):Option (Int × Bool):=(qQ.f k x.f5 y).bind fun t6=>(some (t6.1,t6.2))
def qBx.Post(W F:World)(r:Int × Bool)(v:Value)(w':World):Prop:=∃(F':World),v = .tuple #[iv r.1,.bool r.2]∧Sm W F w' F' []
theorem qBx.calls(k:Nat)(x:qD)(y:Int)(A0_4:OA)(c0_4:Nat)(A0_5:OA)(c0_5:Nat)(A0_6:OA)(c0_6:Nat)(r:Int × Bool)(W F:World)(hown:Sub F W)(g0_4:Rd qA.k F A0_4 c0_4 x.f4)(g0_5:Rd qE.k F A0_5 c0_5 x.f5)(g0_6:Rd qC.k F A0_6 c0_6 x.f6)(H:qBx.f k x y=some r):
    Cr 121 #[.agg #[iv x.f0,iv x.f1,iv x.f2,iv x.f3,.slice A0_4 x.f4.length c0_4,.slice A0_5 x.f5.length c0_5,.slice A0_6 x.f6.length c0_6],iv y] W (qBx.Post W F r):=by
 have S:=sT hown
 unfold qBx.f at H
 refine ent 12 rfl rfl rfl (fun a E=>?_)
 refine sq fun K1 hK1=>pl0 (plx (t:=26) E S [iv x.f0,iv x.f1,iv x.f2,iv x.f3,.slice A0_4 x.f4.length c0_4,.slice A0_5 x.f5.length c0_5,.slice A0_6 x.f6.length c0_6] fun b2 u3 hb2 S a E=>plc E (.r 1 2 .nil) (fun a E=>pld (hK1 _ _ (sq fun K4 hK4=>pl0 (plc E (.r 0 1<|.b 1 5 hb2<|.r 2 1<|.nil) (fun a E=>?_))))))
 obtain ⟨t6,h7,H⟩:=bd H
 refine plq E S en147 (qQ.calls k x.f5 y _ _ _ _ _ S.own.sub g0_5 h7) fun u5 S a E=>plc E (.r 4 4 .nil) (fun a E=>pld (hK4 _ _ (wp_ret ?_)))
 replace S:=S.tail
 obtain rfl:=si H
 exact rtN E ⟨_,rfl,_,rfl,S⟩
def qAd.f(x:List qE)(y:Int)(p:Int):Option (List qE):=if 0≤y∧y≤p∧p≤(x.length:Int)∧x.length≤1000000 then some (x.take y.toNat++x.drop p.toNat) else none
def qAd.Post(x:List qE)(y:Int)(p:Int)(A0_0:OA)(c0_0:Nat)(W F:World)(r:List qE)(v:Value)(w':World):Prop:=∃(F':World)(RA0_0:OA)(rc0_0:Nat),v = .slice RA0_0 r.length rc0_0∧St W (mine W [row qE.k 75 (.slice A0_0 x.length c0_0) x]) F w' F' [row qE.k 75 (.slice RA0_0 r.length rc0_0) r]
set_option maxHeartbeats 4000000 in
set_option maxRecDepth 100000 in
theorem qAd.calls(x:List qE)(y:Int)(p:Int)(A0_0:OA)(c0_0:Nat)(r:List qE)(W F:World)(hown:Own W F [row qE.k 75 (.slice A0_0 x.length c0_0) x])(H:qAd.f x y p=some r):
    Cr 125 #[.slice A0_0 x.length c0_0,iv y,iv p] W (qAd.Post x y p A0_0 c0_0 W F r):=by
 have S:=St.start hown
 unfold qAd.f at H
 by_cases hc:0≤y∧y≤p∧p≤(x.length:Int)∧x.length≤1000000
 rotate_left
 ·
  rw [if_neg hc]at H; cases H
 rw [if_pos hc]at H
 have hr:=Option.some.inj H
 clear H
 obtain ⟨h0,h1,h2,hmax⟩:=hc
 obtain ⟨i,rfl⟩:∃ i:Nat,y=i:=⟨y.toNat,by omega⟩
 obtain ⟨j,rfl⟩:∃ j:Nat,p=j:=⟨p.toNat,by omega⟩
 simp only [Int.toNat_natCast]at hr
 have hxc:x.length≤c0_0∧c0_0≤maxLen:=by
  obtain ⟨_,q1,q2,_⟩:=qCU (S.row_at (i:=0) rfl)
  exact ⟨q1,q2⟩
 refine enter (n:=33) rfl rfl rfl (Nat.le_of_ble_eq_true rfl) (fun a E=>?_)
 refine rr E fun a E=>(rg E (.r 0 5<|.y 5 (qJM (e:=75) (z:=2) (A:=A0_0) (n:=x.length) (c:=c0_0) (kl:=.i64) (kh:=.i64) (km:=.i64) (lo:=(i:Int)) (hi:=(j:Int)) (mx:=(x.length:Int)) (by omega) (by omega) (by omega) (by omega)) .nil) fun a E=>(sq fun K2 hK2=>rr E fun a E=>?_))
 by_cases hij:(i:Int)=(j:Int)
 ·
  replace E:=E.et 16 hij
  refine ct E ?_
  obtain rfl:i=j:=by omega
  obtain rfl:x=r:=by rw [← hr,List.take_append_drop]
  refine rr E fun a E=>(wp_ret (qCQ ?_))
  exact rt1 E ⟨_,rfl,F,_,_,rfl,S⟩
 replace E:=E.ef 16 hij
 refine cf E (wp_skip (hK2 _ _ ?_))
 have hE_:=E
 obtain ⟨g,cur,rfl,hsz,hrep,S⟩:=S.unrow (by omega)
 replace E:=hE_
 replace hsz:cur.size=c0_0 * 2:=hsz
 obtain ⟨inner,hin⟩:∃ inner,inner=cur.toList.take (x.length * 2):=⟨_,rfl⟩
 have hil:inner.length=x.length * 2:=by rw [hin]; exact hrep.1
 have hnz:x.length * 2≤c0_0 * 2:=Nat.mul_le_mul_right _ hxc.1
 have hjz:j * 2≤x.length * 2:=Nat.mul_le_mul_right _ (by omega)
 have hiz:i * 2≤j * 2:=Nat.mul_le_mul_right _ (by omega)
 have hidl:(inner.drop (j * 2)).length=(x.length - j) * 2:=by rw [List.length_drop,hil,Nat.sub_mul]
 have hrep2:RepsK qE.k F x inner:=by rw [hin]; exact hrep
 have hione:∀ u ∈ inner.drop (j * 2),u.oneCell'=true:=fun u hu=>hrep2.one u (List.mem_of_mem_drop hu)
 have higet:∀ q u,(inner.drop (j * 2))[q]? = some u→cur[j * 2+q]? = some u:=fun q u hq=>by
  rw [List.getElem?_drop,hin,List.getElem?_take]at hq
  split at hq
  ·
   rwa [Array.getElem?_toList]at hq
  ·
   cases hq
 refine rr E fun a E=>(sq fun K6 hK6=>?_)
 refine drawn 8 ⟨[6],[],fun q=>False⟩ mixed rfl (by kernel_rfl) (fun hst=>?_)
 replace S:=S.drew
 have hbg:=S.ba 0
 refine mny 2 hst E (.r 0 2<|.y 2 (y_hi (e:=75) (z:=2) (g:=g) (n:=x.length) (c:=c0_0) (k:=.i64) (hi:=(i:Int)) ⟨by omega,by omega⟩)<|.r 3 2<|.y 5 (qJN (e:=75) (z:=2) (g:=g) (n:=x.length) (c:=c0_0) (k:=.i64) (lo:=(j:Int)) ⟨by omega,by omega⟩) .nil) (fun a E=>?_)
 refine on1 6 E (.apf (e:=75) (g:=g) (i:=(i:Int).toNat) (m:=x.length - (j:Int).toNat) (c:=c0_0) (sc:=c0_0 - (j:Int).toNat) (z:=2) (bytes:=32) (sa:=if c0_0=(j:Int).toNat then some ⟨g,0,none⟩ else some ⟨g,(j:Int).toNat * 2,none⟩) S (inner.drop (j * 2)) (by rw [hidl,Int.toNat_natCast]) (fun hm=>⟨⟨g,j * 2,none⟩,by
      rw [Int.toNat_natCast]at hm ⊢
      rw [if_neg (by omega)],fun q u hq=>by rw [qCc]; exact qCZ hbg (higet q u hq)⟩) hione (by
      rw [Int.toNat_natCast,hidl,hsz,Nat.sub_mul]
      omega) (by rw [Int.toNat_natCast,Int.toNat_natCast]; omega) (by kernel_rfl)) ?_
 rintro _ w1 a ⟨rfl,S,hz⟩ E
 refine ⟨.d,?_⟩
 refine mny 0 hst E (.r 7 1 .nil) (fun a E=>?_)
 refine dn ?_
 simp only [Int.toNat_natCast]at S E
 refine hK6 _ _ ?_
 have hlen:(x.take i++x.drop j++x.drop (i+(x.length - j))).length=x.length:=by
  rw [List.length_append,List.length_append,List.length_take,List.length_drop,List.length_drop]
  omega
 have hrr:=qGj (d:=qE.k) (F:=F) (xs:=x) (i:=i) (j:=j) (cur:=cur.toList) hrep (by omega) (by omega) (by
    show x.length * 2≤cur.size
    rw [hsz]
    exact hnz)
 have hS2:=S.rerow (d:=qE.k) (c:=c0_0) (x.take i++x.drop j++x.drop (i+(x.length - j))) (by
    show (cur.toList.take (i * 2)++inner.drop (j * 2)++cur.toList.drop (i * 2+(inner.drop (j * 2)).length)).length=c0_0 * 2
    rw [List.length_append,List.length_append,hidl,List.length_take,List.length_drop,show cur.toList.length=c0_0 * 2 from hsz,Nat.sub_mul]
    omega) (by rw [hlen]; exact hxc.1) hxc.2 (by rw [hlen,hin]; exact hrr)
 rw [hlen]at hS2
 refine sq fun K7 hK7=>pl0 (plc E (.r 0 4<|.y 4 (y_mid (e:=75) (z:=2) (g:=g) (n:=i+(x.length - j)) (c:=c0_0) (k:=.i64) (k':=.i64) (lo:=((i+(x.length - j):Nat):Int)) (hi:=(x.length:Int)) (by omega) (by omega) (by omega) (by omega)) .nil) (fun a E=>ple E (.clr (d:=qE.k) (e:=75) (A:=some ⟨g,0,none⟩) (n:=x.length) (c:=c0_0) (c':=c0_0 - ((i+(x.length - j):Nat):Int).toNat) (A':=some ⟨g,((i+(x.length - j):Nat):Int).toNat * 2,none⟩) (lo:=((i+(x.length - j):Nat):Int)) 32 qE.z hS2 ⟨by omega,by omega⟩ (.inr ⟨g,rfl,rfl⟩) (by rw [zr75]; exact ⟨none,0,rfl,Rd.nil _ _⟩)) ?_))
 rintro _ w2 a ⟨rfl,hS3,hz2⟩ E
 refine pld (hK7 _ _ (rr E fun a E=>(wp_ret ?_)))
 have hS4:=hS3.shrink (hi:=((i+(x.length - j):Nat):Int)) ⟨by omega,by omega⟩
 have hl1:(x.take i++x.drop j).length=i+(x.length - j):=by
  rw [List.length_append,List.length_take,List.length_drop]
  omega
 have hcut:∀ t:List qE,cutl ((x.take i++x.drop j++x.drop (i+(x.length - j))).take ((i+(x.length - j):Nat):Int).toNat++t) 0 ((i+(x.length - j):Nat):Int)=r:=by
  intro t
  unfold cutl
  have e1:(x.take i++x.drop j++x.drop (i+(x.length - j))).take (i+(x.length - j))=x.take i++x.drop j:=by
   rw [← hl1,List.take_left']
   rfl
  rw [Int.toNat_natCast,Int.toNat_zero,List.drop_zero,← hr,e1,← hl1,List.take_left']
  rfl
 rw [hcut]at hS4
 have hrl:r.length=i+(x.length - j):=by rw [← hr]; exact hl1
 rw [← hrl]at E
 exact rt1 E ⟨_,rfl,F,_,_,rfl,hS4⟩
end Go.Proofs.YthgfhlbjkmjlpaaGreat.PG
