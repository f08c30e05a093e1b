import Derived.Test.YtpabbpebefdafaaGreatCN8
namespace Go.Proofs.YtpabbpebefdafaaGreat.CN
open Go Go.RowKit Go.Proofs.YtpabbpebefdafaaGreat.Sl
set_option linter.unusedVariables false
set_option linter.unusedSimpArgs false
set_option maxHeartbeats 4000000
set_option maxRecDepth 100000
def qw.j13:Nat→Ar2_i64→List Int→qF→Bool→Option Bool
 | 0,_,_,_,_=>none
 | k+1,x,y,z,y12=>if y12=true then ((qAi.f k).bind fun t21=>(some t21)) else ((client_New.f k x.f0 y z).bind fun t25=>((qa.f k (⟨x.f0,y,(⟨z,[]⟩:qAa),0,false,0,(⟨0,(⟨#[]⟩:ByteArray),(⟨0,0⟩:qk),0,0,0⟩:qAf),0,0,(⟨0,false,0⟩:qAO)⟩:qc)).bind fun t56=>(if t56=true then (if t25.2=0 then ((qAq.f k t25.1 (⟨x.f0,y,(⟨z,[]⟩:qAa),0,false,0,(⟨0,(⟨#[]⟩:ByteArray),(⟨0,0⟩:qk),0,0,0⟩:qAf),0,0,(⟨0,false,0⟩:qAO)⟩:qc)).bind fun t71=>(if t71=true then ((client_To.f k z x.f1).bind fun t75=>((qBJ.f k z x.f1).bind fun t78=>(if t75=t78 then ((qAi.f k).bind fun t82=>(some t82)) else (some false)))) else (some false))) else (some false)) else (if t25.2=1 then ((qAq.f k t25.1 (⟨0,[],(⟨(⟨0,0,0,0,[],[],[]⟩:qF),[]⟩:qAa),0,false,0,(⟨0,(⟨#[]⟩:ByteArray),(⟨0,0⟩:qk),0,0,0⟩:qAf),0,0,(⟨0,false,0⟩:qAO)⟩:qc)).bind fun t62=>(if t62=true then ((qAi.f k).bind fun t66=>(some t66)) else (some false))) else (some false)))))
theorem qw.j13_s k x y z y12:type_of% (qw.j13.eq_2 x y z y12 k):=qw.j13.eq_2 x y z y12 k
def qw.f(k:Nat)(x:Ar2_i64)(y:List Int)(z:qF):Option Bool:=(qS.f k z).bind fun t9=>(if t9=true then (qw.j13 k x y z (decide ((y.length:Int)>20))) else (qw.j13 k x y z true))
def qw.Post(W F:World)(r:Bool)(v:Value)(w':World):Prop:=∃(F':World),v = .bool r∧Sm W F w' F' []
theorem qw.calls(k:Nat)(x:Ar2_i64)(y:List Int)(z:qF)(A1_0:OA)(c1_0:Nat)(A2_4:OA)(c2_4:Nat)(A2_5:OA)(c2_5:Nat)(A2_6:OA)(c2_6:Nat)(r:Bool)(W F:World)(hown:Sub F W)(g1_0:Rd ki F A1_0 c1_0 y)(g2_4:Rd qA.k F A2_4 c2_4 z.f4)(g2_5:Rd qI.k F A2_5 c2_5 z.f5)(g2_6:Rd qC.k F A2_6 c2_6 z.f6)(H:qw.f k x y z=some r):
    Cr 4 #[.agg #[iv x.f0,iv x.f1],.slice A1_0 y.length c1_0,.agg #[iv z.f0,iv z.f1,iv z.f2,iv z.f3,.slice A2_4 z.f4.length c2_4,.slice A2_5 z.f5.length c2_5,.slice A2_6 z.f6.length c2_6]] W (qw.Post W F r):=by
 have S:=sT hown
 unfold qw.f at H
 refine ent 67 rfl rfl rfl (fun a E=>?_)
 refine sq fun K1 hK1=>pl0 (plx (t:=45) E S [iv x.f0,iv x.f1] fun b2 u3 hb2 S a E=>plx (t:=27) E S [iv z.f0,iv z.f1,iv z.f2,iv z.f3,.slice A2_4 z.f4.length c2_4,.slice A2_5 z.f5.length c2_5,.slice A2_6 z.f6.length c2_6] fun b4 u5 hb4 S a E=>plc E (.r 2 1 .nil) (fun a E=>pld (hK1 _ _ (sq fun K6 hK6=>sq fun K7 hK7=>?_))))
 have J16:∀ kq14,kq14≤k→∀(G:NV)(y12:Bool)(a:Act)(w':World),Env 67 G a→At G [(1,.slice A1_0 y.length c1_0),(3,.pointer (pb b2)),(5,.pointer (pb b4)),(17,.bool y12)]→Sm W F w' F [box b4 #[iv z.f0,iv z.f1,iv z.f2,iv z.f3,.slice A2_4 z.f4.length c2_4,.slice A2_5 z.f5.length c2_5,.slice A2_6 z.f6.length c2_6] 27,box b2 #[iv x.f0,iv x.f1] 45]→qw.j13 kq14 x y z y12=some r→K7 a w':=by
  intro kq14 hkq G y12 a u17 E A S H
  obtain _ | k15:=kq14
  exact zz H
  rw [qw.j13_s]at H
  obtain ⟨J,E⟩:=E.at A
  refine hK7 _ _ (E.ib 17 H (fun c18 E H=>?_) fun c18 E H=>?_)
  refine sq fun K19 hK19=>pl0 ?_
  obtain ⟨t21,h22,H⟩:=bd H
  refine plq E S en16 (qAi.calls k15 _ _ _ S.own.sub h22) fun u20 S a E=>plc E (.r 1 1 .nil) (fun a E=>pld (hK19 _ _ (wp_ret (qCJ ?_))))
  replace S:=S.pm [] 2
  obtain rfl:=si H
  exact rt1 E ⟨_,rfl,_,rfl,S⟩
  refine wp_skip (hK6 _ _ (sq fun K23 hK23=>pl0 (plc E (.r 0 1<|.b 1 0 (S.ba 1)<|.r 2 1<|.bn 3 0 7 (S.ba 0)<|.nil) (fun a E=>?_))))
  obtain ⟨t25,h26,H⟩:=bd H
  refine ple E (.cl en17 (client_New.calls k15 x.f0 y z _ _ _ _ _ _ _ _ _ _ _ S.own.sub g1_0 g2_4 g2_5 g2_6 h26)) ?_
  rintro _ u24 a ⟨F27,A28,c29,A32,c33,A35,c36,A38,c39,A42,c43,rfl,hC,g34,g37⟩ E
  have hs:=hC.sub
  replace S:=S.called (X:=[]) hC
  replace g1_0:=g1_0.mono hs
  replace g2_4:=g2_4.mono hs
  replace g2_5:=g2_5.mono hs
  replace g2_6:=g2_6.mono hs
  refine plc E (.r 5 3 .nil) (fun a E=>pla (t:=55) E S [iv 0,.slice none 0 0,iv 0,iv 0,iv 0,iv 0,.slice none 0 0,.slice none 0 0,.slice none 0 0,.slice none 0 0,iv 0,.bool false,iv 0,iv 0,.string (⟨#[]⟩:ByteArray),iv 0,iv 0,iv 0,iv 0,iv 0,iv 0,iv 0,iv 0,.bool false,iv 0] fun b46 u47 hb46 S a E=>pls E S [iv t25.1.f0,.slice A28 t25.1.f1.length c29,iv t25.1.f2.f0.f0,iv t25.1.f2.f0.f1,iv t25.1.f2.f0.f2,iv t25.1.f2.f0.f3,.slice A32 t25.1.f2.f0.f4.length c33,.slice A35 t25.1.f2.f0.f5.length c36,.slice A38 t25.1.f2.f0.f6.length c39,.slice A42 t25.1.f2.f1.length c43,iv t25.1.f3,.bool t25.1.f4,iv t25.1.f5,iv t25.1.f6.f0,.string t25.1.f6.f1,iv t25.1.f6.f2.f0,iv t25.1.f6.f2.f1,iv t25.1.f6.f3,iv t25.1.f6.f4,iv t25.1.f6.f5,iv t25.1.f7,iv t25.1.f8,iv t25.1.f9.f0,.bool t25.1.f9.f1,iv t25.1.f9.f2] fun u48 hb46 S a E=>plc E (.r 10 1 .nil) (fun a E=>pld (hK23 _ _ (sq fun K49 hK49=>pl0 ?_))))
  have hb2:=S.ba 5
  have hb4:=S.ba 4
  refine plc E (.r 0 1<|.b 1 0 hb2<|.r 2 1<|.bn 3 0 7 hb4<|.r 4 2<|.nil) (fun a E=>pla (t:=55) E S [iv 0,.slice none 0 0,iv 0,iv 0,iv 0,iv 0,.slice none 0 0,.slice none 0 0,.slice none 0 0,.slice none 0 0,iv 0,.bool false,iv 0,iv 0,.string (⟨#[]⟩:ByteArray),iv 0,iv 0,iv 0,iv 0,iv 0,iv 0,iv 0,iv 0,.bool false,iv 0] fun b50 u51 hb50 S a E=>pls E S [iv x.f0,.slice A1_0 y.length c1_0,iv z.f0,iv z.f1,iv z.f2,iv z.f3,.slice A2_4 z.f4.length c2_4,.slice A2_5 z.f5.length c2_5,.slice A2_6 z.f6.length c2_6,.slice none 0 0,iv 0,.bool false,iv 0,iv 0,.string (⟨#[]⟩:ByteArray),iv 0,iv 0,iv 0,iv 0,iv 0,iv 0,iv 0,iv 0,.bool false,iv 0] fun u52 hb50 S a E=>pld (hK49 _ _ (sq fun K53 hK53=>sq fun K54 hK54=>pl0 (plc E (.bn 0 0 25 hb50 .nil) (fun a E=>?_)))))
  obtain ⟨t56,h57,H⟩:=bd H
  refine plq E S en18 (qa.calls k15 (⟨x.f0,y,(⟨z,[]⟩:qAa),0,false,0,(⟨0,(⟨#[]⟩:ByteArray),(⟨0,0⟩:qk),0,0,0⟩:qAf),0,0,(⟨0,false,0⟩:qAO)⟩:qc) _ _ _ _ _ _ _ _ _ _ _ _ _ S.own.sub g1_0 g2_4 g2_5 g2_6 (Rd.nil _ _) h57) fun u55 S a E=>plc E (.r 2 1 .nil) (fun a E=>pld (hK54 _ _ (E.ibn 35 H (fun c58 E H=>?_) fun c58 E H=>?_)))
  refine wp_skip (hK53 _ _ (sq fun K68 hK68=>?_))
  refine drawn 22 ⟨[],[],fun q=>False⟩ mixed rfl (by kernel_rfl) (fun hst=>?_)
  replace S:=S.drew
  refine mny 19 hst E (.r 0 3 .nil) (fun a E=>?_)
  refine E.fk 48 H (fun c69 E H=>?_) fun c69 E H=>?_
  have hb46:=S.ba 1
  have hb50:=S.ba 0
  refine mny 17 hst E (.bn 3 0 25 hb46<|.bn 4 0 25 hb50<|.nil) (fun a E=>?_)
  obtain ⟨t71,h72,H⟩:=bd H
  refine on1 5 E (.cl en19 (qAq.calls k15 t25.1 (⟨x.f0,y,(⟨z,[]⟩:qAa),0,false,0,(⟨0,(⟨#[]⟩:ByteArray),(⟨0,0⟩:qk),0,0,0⟩:qAf),0,0,(⟨0,false,0⟩:qAO)⟩:qc) _ _ _ _ _ _ _ _ _ _ _ _ _ _ _ _ _ _ _ _ _ _ _ (Sub.refl _) (S.rd_at (i:=2) rfl) (g34.mono S.own.sub) (g37.mono S.own.sub) (S.rd_at (i:=3) rfl) (S.rd_at (i:=4) rfl) (g1_0.mono S.own.sub) (g2_4.mono S.own.sub) (g2_5.mono S.own.sub) (g2_6.mono S.own.sub) (Rd.nil _ _) h72)) ?_
  rintro _ u70 a ⟨_,rfl,hC⟩ E
  refine ⟨.of hC.agr,?_⟩
  replace S:=S.lent hC
  refine mny 14 hst E (.r 6 2 .nil) (fun a E=>?_)
  refine E.fb 53 H (fun c73 E H=>?_) fun c73 E H=>?_
  have hb4:=S.ba 5
  have hb2:=S.ba 6
  refine mny 8 hst E (.bn 8 0 7 hb4<|.r 9 1<|.b 10 1 hb2<|.bn 12 0 7 hb4<|.r 13 1<|.b 14 1 hb2<|.nil) (fun a E=>?_)
  obtain ⟨t75,h76,H⟩:=bd H
  refine on1 11 E (.cl en20 (client_To.calls k15 z x.f1 _ _ _ _ _ _ _ _ _ S.own.sub g2_4 g2_5 g2_6 h76)) ?_
  rintro _ u74 a ⟨_,rfl,hC⟩ E
  refine ⟨.of hC.agr,?_⟩
  replace S:=S.lent hC
  obtain ⟨t78,h79,H⟩:=bd H
  refine on1 15 E (.cl en21 (qBJ.calls k15 z x.f1 _ _ _ _ _ _ _ _ _ S.own.sub g2_4 g2_5 g2_6 h79)) ?_
  rintro _ u77 a ⟨_,rfl,hC⟩ E
  refine ⟨.of hC.agr,?_⟩
  replace S:=S.lent hC
  refine mny 3 hst E (.r 16 3 .nil) (fun a E=>?_)
  refine E.fk 64 H (fun c80 E H=>?_) fun c80 E H=>?_
  obtain ⟨t82,h83,H⟩:=bd H
  refine on1 19 E (.cl en16 (qAi.calls k15 _ _ _ S.own.sub h83)) ?_
  rintro _ u81 a ⟨_,rfl,hC⟩ E
  refine ⟨.of hC.agr,?_⟩
  replace S:=S.lent hC
  refine mny 0 hst E (.r 20 2 .nil) (fun a E=>?_)
  refine dn ?_
  refine hK68 _ _ (wp_ret ?_)
  replace S:=S.pm [] 7
  obtain rfl:=si H
  exact rt1 E ⟨_,rfl,_,rfl,S⟩
  refine mny 0 hst E (.r 19 3 .nil) (fun a E=>?_)
  refine dn ?_
  refine hK68 _ _ (wp_ret ?_)
  replace S:=S.pm [] 7
  obtain rfl:=si H
  exact rt1 E ⟨_,rfl,_,rfl,S⟩
  refine mny 0 hst E (.r 8 14 .nil) (fun a E=>?_)
  refine dn ?_
  refine hK68 _ _ (wp_ret ?_)
  replace S:=S.pm [] 7
  obtain rfl:=si H
  exact rt1 E ⟨_,rfl,_,rfl,S⟩
  refine mny 0 hst E (.r 3 19 .nil) (fun a E=>?_)
  refine dn ?_
  refine hK68 _ _ (wp_ret ?_)
  replace S:=S.pm [] 7
  obtain rfl:=si H
  exact rt1 E ⟨_,rfl,_,rfl,S⟩
  refine sq fun K59 hK59=>pl0 (plc E (.r 0 3 .nil) (fun a E=>E.fk 38 H (fun c60 E H=>?_) fun c60 E H=>?_))
  refine plc E (.bn 3 0 25 (S.ba 1)<|.r 4 1<|.nil) (fun a E=>?_)
  obtain ⟨t62,h63,H⟩:=bd H
  refine plq E S en19 (qAq.calls k15 t25.1 (⟨0,[],(⟨(⟨0,0,0,0,[],[],[]⟩:qF),[]⟩:qAa),0,false,0,(⟨0,(⟨#[]⟩:ByteArray),(⟨0,0⟩:qk),0,0,0⟩:qAf),0,0,(⟨0,false,0⟩:qAO)⟩:qc) _ _ _ _ _ _ _ _ _ _ _ _ _ _ _ _ _ _ _ _ _ _ _ (Sub.refl _) (S.rd_at (i:=2) rfl) (g34.mono S.own.sub) (g37.mono S.own.sub) (S.rd_at (i:=3) rfl) (S.rd_at (i:=4) rfl) (Rd.nil _ _) (Rd.nil _ _) (Rd.nil _ _) (Rd.nil _ _) (Rd.nil _ _) h63) fun u61 S a E=>plc E (.r 6 2 .nil) (fun a E=>E.fb 43 H (fun c64 E H=>?_) fun c64 E H=>?_)
  obtain ⟨t66,h67,H⟩:=bd H
  refine plq E S en16 (qAi.calls k15 _ _ _ S.own.sub h67) fun u65 S a E=>plc E (.r 9 2 .nil) (fun a E=>pld (hK59 _ _ (wp_ret (qCJ ?_))))
  replace S:=S.pm [] 7
  obtain rfl:=si H
  exact rt1 E ⟨_,rfl,_,rfl,S⟩
  refine plc E (.r 8 3 .nil) (fun a E=>pld (hK59 _ _ (wp_ret (qCJ ?_))))
  replace S:=S.pm [] 7
  obtain rfl:=si H
  exact rt1 E ⟨_,rfl,_,rfl,S⟩
  refine plc E (.r 3 8 .nil) (fun a E=>pld (hK59 _ _ (wp_ret (qCJ ?_))))
  replace S:=S.pm [] 7
  obtain rfl:=si H
  exact rt1 E ⟨_,rfl,_,rfl,S⟩
 refine pl0 (plc E (.bn 0 0 7 hb4 .nil) (fun a E=>?_))
 obtain ⟨t9,h10,H⟩:=bd H
 refine plq E S en8 (qS.calls k z _ _ _ _ _ _ _ _ _ S.own.sub g2_4 g2_5 g2_6 h10) fun u8 S a E=>plc E (.r 2 2 .nil) (fun a E=>E.fbn 13 H (fun c11 E H=>?_) fun c11 E H=>?_)
 refine plc E (.r 4 4 .nil) (fun a E=>pld ?_)
 exact J16 _ (by omega) _ (decide ((y.length:Int)>20)) _ _ E .of S H
 refine plc E (.r 4 4 .nil) (fun a E=>pld ?_)
 exact J16 _ (by omega) _ true _ _ E .of S H
end Go.Proofs.YtpabbpebefdafaaGreat.CN
