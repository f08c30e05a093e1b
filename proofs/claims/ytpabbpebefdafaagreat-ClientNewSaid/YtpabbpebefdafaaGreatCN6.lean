import Derived.Test.YtpabbpebefdafaaGreatCN5
namespace Go.Proofs.YtpabbpebefdafaaGreat.CN
open Go Go.RowKit Go.Proofs.YtpabbpebefdafaaGreat.Sl
set_option linter.unusedVariables false
set_option linter.unusedSimpArgs false
set_option maxHeartbeats 4000000
set_option maxRecDepth 100000
def qBU.j14:Nat→qF→Int→Bool→Option (List Int)
 | 0,_,_,_=>none
 | k+1,x,y,y13=>if y13=true then (some []) else ((qBt.f k x y).bind fun t24=>(some t24))
theorem qBU.j14_s k x y y13:type_of% (qBU.j14.eq_2 x y y13 k):=qBU.j14.eq_2 x y y13 k
def qBU.f(k:Nat)(x:qF)(y:Int):Option (List Int):=(qt.f k x).bind fun t7=>(if t7=0 then ((qBD.f y 0 (w64 (x.f3 - 1))).bind fun t11=>(qBU.j14 k x y (!t11))) else (qBU.j14 k x y true))
def qBU.Post(W F:World)(r:List Int)(v:Value)(w':World):Prop:=∃(F':World)(RA0_0:OA)(rc0_0:Nat),v = .slice RA0_0 r.length rc0_0∧Sm W F w' F' [row ki 3 (.slice RA0_0 r.length rc0_0) r]
theorem qBU.calls(k:Nat)(x:qF)(y:Int)(A0_4:OA)(c0_4:Nat)(A0_5:OA)(c0_5:Nat)(A0_6:OA)(c0_6:Nat)(r:List Int)(W F:World)(hown:Sub F W)(g0_4:Rd qA.k F A0_4 c0_4 x.f4)(g0_5:Rd qI.k F A0_5 c0_5 x.f5)(g0_6:Rd qC.k F A0_6 c0_6 x.f6)(H:qBU.f k x y=some r):
    Cr 119 #[.agg #[iv x.f0,iv x.f1,iv x.f2,iv x.f3,.slice A0_4 x.f4.length c0_4,.slice A0_5 x.f5.length c0_5,.slice A0_6 x.f6.length c0_6],iv y] W (qBU.Post W F r):=by
 have S:=sT hown
 unfold qBU.f at H
 refine ent 19 rfl rfl rfl (fun a E=>?_)
 refine sq fun K1 hK1=>pl0 (plx (t:=27) E S [iv x.f0,iv x.f1,iv x.f2,iv x.f3,.slice A0_4 x.f4.length c0_4,.slice A0_5 x.f5.length c0_5,.slice A0_6 x.f6.length c0_6] fun b2 u3 hb2 S a E=>plc E (.r 1 1 .nil) (fun a E=>pld (hK1 _ _ (sq fun K4 hK4=>sq fun K5 hK5=>?_))))
 have J17:∀ kq15,kq15≤k→∀(G:NV)(y13:Bool)(a:Act)(w':World),Env 19 G a→At G [(1,iv y),(2,.pointer (pb b2)),(15,.bool y13)]→Sm W F w' F [box b2 #[iv x.f0,iv x.f1,iv x.f2,iv x.f3,.slice A0_4 x.f4.length c0_4,.slice A0_5 x.f5.length c0_5,.slice A0_6 x.f6.length c0_6] 27]→qBU.j14 kq15 x y y13=some r→K5 a w':=by
  intro kq15 hkq G y13 a u18 E A S H
  obtain _ | k16:=kq15
  exact zz H
  rw [qBU.j14_s]at H
  obtain ⟨J,E⟩:=E.at A
  refine hK5 _ _ (E.ib 15 H (fun c19 E H=>?_) fun c19 E H=>?_)
  refine rr E fun a E=>(wp_ret (qCJ ?_))
  replace S:=S.nilrow ki 3
  replace S:=S.pm [0] 2
  obtain rfl:=si H
  exact rt1 E ⟨_,rfl,_,_,_,rfl,S⟩
  refine wp_skip (hK4 _ _ (sq fun K22 hK22=>pl0 (plc E (.bn 0 0 7 (S.ba 0)<|.r 1 1<|.nil) (fun a E=>?_))))
  obtain ⟨t24,h25,H⟩:=bd H
  refine ple E (.cl en162 (qBt.calls k16 x y _ _ _ _ _ _ _ _ _ S.own.sub g0_4 g0_5 g0_6 h25)) ?_
  rintro _ u23 a ⟨F26,A27,c28,rfl,hC⟩ E
  have hs:=hC.sub
  replace S:=S.called (X:=[]) hC
  replace g0_4:=g0_4.mono hs
  replace g0_5:=g0_5.mono hs
  replace g0_6:=g0_6.mono hs
  refine plc E (.r 3 1 .nil) (fun a E=>pld (hK22 _ _ (wp_ret ?_)))
  replace S:=S.pm [0] 2
  obtain rfl:=si H
  exact rt1 E ⟨_,rfl,_,_,_,rfl,S⟩
 refine pl0 (plc E (.bn 0 0 7 hb2 .nil) (fun a E=>?_))
 obtain ⟨t7,h8,H⟩:=bd H
 refine plq E S en37 (qt.calls k x _ _ _ _ _ _ _ _ _ S.own.sub g0_4 g0_5 g0_6 h8) fun u6 S a E=>plc E (.r 2 2 .nil) (fun a E=>E.fkn 8 H (fun c9 E H=>?_) fun c9 E H=>?_)
 refine plc E (.r 4 2<|.b 6 3 (S.ba 0)<|.r 7 1<|.nil) (fun a E=>?_)
 obtain ⟨t11,h12,H⟩:=bd H
 refine plq E S en94 (qBD.calls y 0 (w64 (x.f3 - 1)) _ _ _ S.own.sub h12) fun u10 S a E=>plc E (.r 9 2 .nil) (fun a E=>pld ?_)
 exact J17 _ (by omega) _ (!t11) _ _ E .of S H
 refine plc E (.r 4 7 .nil) (fun a E=>pld ?_)
 exact J17 _ (by omega) _ true _ _ E .of S H
def qBl.f(k:Nat)(x:qF)(y:Int):Option (List Int):=(qBU.f k x y).bind fun t6=>((qBw.f k x t6).bind fun t14=>(some t14))
def qBl.Post(W F:World)(r:List Int)(v:Value)(w':World):Prop:=∃(F':World)(RA0_0:OA)(rc0_0:Nat),v = .slice RA0_0 r.length rc0_0∧Sm W F w' F' [row ki 3 (.slice RA0_0 r.length rc0_0) r]
theorem qBl.calls(k:Nat)(x:qF)(y:Int)(A0_4:OA)(c0_4:Nat)(A0_5:OA)(c0_5:Nat)(A0_6:OA)(c0_6:Nat)(r:List Int)(W F:World)(hown:Sub F W)(g0_4:Rd qA.k F A0_4 c0_4 x.f4)(g0_5:Rd qI.k F A0_5 c0_5 x.f5)(g0_6:Rd qC.k F A0_6 c0_6 x.f6)(H:qBl.f k x y=some r):
    Cr 54 #[.agg #[iv x.f0,iv x.f1,iv x.f2,iv x.f3,.slice A0_4 x.f4.length c0_4,.slice A0_5 x.f5.length c0_5,.slice A0_6 x.f6.length c0_6],iv y] W (qBl.Post W F r):=by
 have S:=sT hown
 unfold qBl.f at H
 refine ent 10 rfl rfl rfl (fun a E=>?_)
 refine sq fun K1 hK1=>pl0 (plx (t:=27) E S [iv x.f0,iv x.f1,iv x.f2,iv x.f3,.slice A0_4 x.f4.length c0_4,.slice A0_5 x.f5.length c0_5,.slice A0_6 x.f6.length c0_6] fun b2 u3 hb2 S a E=>plc E (.r 1 1 .nil) (fun a E=>pld (hK1 _ _ (sq fun K4 hK4=>?_))))
 refine drawn 6 ⟨[4],[],fun q=>False⟩ mixed rfl (by kernel_rfl) (fun hst=>?_)
 replace S:=S.drew
 have hb2:=S.ba 0
 refine mny 3 hst E (.bn 0 0 7 hb2<|.bn 1 0 7 hb2<|.r 2 1<|.nil) (fun a E=>?_)
 obtain ⟨t6,h7,H⟩:=bd H
 refine on1 3 E (.cl en119 (qBU.calls k x y _ _ _ _ _ _ _ _ _ S.own.sub g0_4 g0_5 g0_6 h7)) ?_
 rintro _ u5 a ⟨F8,A9,c10,rfl,hC⟩ E
 refine ⟨.of hC.agr,?_⟩
 have hs:=hC.sub
 replace S:=S.called (X:=[]) hC
 replace g0_4:=g0_4.mono hs
 replace g0_5:=g0_5.mono hs
 replace g0_6:=g0_6.mono hs
 obtain ⟨t14,h15,H⟩:=bd H
 refine on1 4 E (.cl en118 (qBw.calls k x t6 _ _ _ _ _ _ _ _ _ _ _ (Own.left (X:=[row ki 3 (.slice A9 t6.length c10) t6]) S.own) g0_4 g0_5 g0_6 h15)) ?_
 rintro _ u13 a ⟨F16,A17,c18,rfl,hC⟩ E
 refine ⟨.d,?_⟩
 have hs:=hC.sub
 replace S:=S.called (X:=[row ki 3 (.slice A9 t6.length c10) t6]) hC
 replace g0_4:=g0_4.mono hs
 replace g0_5:=g0_5.mono hs
 replace g0_6:=g0_6.mono hs
 refine mny 0 hst E (.r 5 1 .nil) (fun a E=>?_)
 refine dn ?_
 refine hK4 _ _ (wp_ret ?_)
 replace S:=S.pm [0] 2
 obtain rfl:=si H
 exact rt1 E ⟨_,rfl,_,_,_,rfl,S⟩
def client_To.f(k:Nat)(x:qF)(y:Int):Option Int:=(qBl.f k x y).bind fun t6=>(if (t6.length:Int)=0 then (some 0) else (if 0≤(0:Int)∧0<(t6.length:Int) then (some (nth 0 t6 0)) else (none)))
def client_To.Post(W F:World)(r:Int)(v:Value)(w':World):Prop:=∃(F':World),v=iv r∧Sm W F w' F' []
theorem client_To.calls(k:Nat)(x:qF)(y:Int)(A0_4:OA)(c0_4:Nat)(A0_5:OA)(c0_5:Nat)(A0_6:OA)(c0_6:Nat)(r:Int)(W F:World)(hown:Sub F W)(g0_4:Rd qA.k F A0_4 c0_4 x.f4)(g0_5:Rd qI.k F A0_5 c0_5 x.f5)(g0_6:Rd qC.k F A0_6 c0_6 x.f6)(H:client_To.f k x y=some r):
    Cr 20 #[.agg #[iv x.f0,iv x.f1,iv x.f2,iv x.f3,.slice A0_4 x.f4.length c0_4,.slice A0_5 x.f5.length c0_5,.slice A0_6 x.f6.length c0_6],iv y] W (client_To.Post W F r):=by
 have S:=sT hown
 unfold client_To.f at H
 refine ent 15 rfl rfl rfl (fun a E=>?_)
 refine sq fun K1 hK1=>pl0 (plx (t:=27) E S [iv x.f0,iv x.f1,iv x.f2,iv x.f3,.slice A0_4 x.f4.length c0_4,.slice A0_5 x.f5.length c0_5,.slice A0_6 x.f6.length c0_6] fun b2 u3 hb2 S a E=>plc E (.r 1 1 .nil) (fun a E=>pld (hK1 _ _ (sq fun K4 hK4=>pl0 (plc E (.bn 0 0 7 hb2<|.r 1 1<|.nil) (fun a E=>?_))))))
 obtain ⟨t6,h7,H⟩:=bd H
 refine ple E (.cl en54 (qBl.calls k x y _ _ _ _ _ _ _ _ _ S.own.sub g0_4 g0_5 g0_6 h7)) ?_
 rintro _ u5 a ⟨F8,A9,c10,rfl,hC⟩ E
 have hs:=hC.sub
 replace S:=S.called (X:=[]) hC
 replace g0_4:=g0_4.mono hs
 replace g0_5:=g0_5.mono hs
 replace g0_6:=g0_6.mono hs
 refine plc E (.r 3 1 .nil) (fun a E=>pld (hK4 _ _ (sq fun K13 hK13=>rr E fun a E=>(E.ik 11 H (fun c15 E H=>?_) fun c15 E H=>?_))))
 refine rr E fun a E=>(wp_ret (qCJ ?_))
 replace S:=S.pm [] 2
 obtain rfl:=si H
 exact rt1 E ⟨_,rfl,_,rfl,S⟩
 refine wp_skip (hK13 _ _ (sq fun K17 hK17=>pl0 ?_))
 obtain ⟨c18,H⟩:=gd H
 have hr19:=S.ra 0
 have hE_:=E
 obtain ⟨b20,rfl⟩:=qCP hr19 c18.1 c18.2
 replace E:=hE_
 have hr_:=S.ra 0
 obtain ⟨cs22,rfl,hc23⟩:=qCO hr_ 0 0 c18.1 c18.2
 refine plc E (.r 0 1<|.x 1 c18<|.c 2 (hc23 0 _ rfl)<|.r 3 1<|.nil) (fun a E=>pld (hK17 _ _ (wp_ret ?_)))
 replace S:=S.pm [] 2
 obtain rfl:=si H
 exact rt1 E ⟨_,rfl,_,rfl,S⟩
def client_call.f(k:Nat)(x:qc):Option (List qAm):=(client_known.f k x).bind fun t6=>((client_To.f k t6 x.f5).bind fun t20=>(if t20=0 then (some []) else (some [(⟨t20,(⟨19,0,0,false,[],[],(⟨0,0,0,0,[],[],[]⟩:qF),x.f5,0,0,0,0,[],[],(⟨[],[],0⟩:qBn),false,x.f0,x.f3,x.f6,(⟨0,false,0⟩:qAO)⟩:qBe)⟩:qAm)])))
def client_call.Post(W F:World)(r:List qAm)(v:Value)(w':World):Prop:=∃(F':World)(RA0_0:OA)(rc0_0:Nat),v = .slice RA0_0 r.length rc0_0∧Sm W F w' F' [row qAm.k 111 (.slice RA0_0 r.length rc0_0) r]
theorem client_call.calls(k:Nat)(x:qc)(A0_1:OA)(c0_1:Nat)(A0_6:OA)(c0_6:Nat)(A0_7:OA)(c0_7:Nat)(A0_8:OA)(c0_8:Nat)(A0_9:OA)(c0_9:Nat)(r:List qAm)(W F:World)(hown:Sub F W)(g0_1:Rd ki F A0_1 c0_1 x.f1)(g0_6:Rd qA.k F A0_6 c0_6 x.f2.f0.f4)(g0_7:Rd qI.k F A0_7 c0_7 x.f2.f0.f5)(g0_8:Rd qC.k F A0_8 c0_8 x.f2.f0.f6)(g0_9:Rd qE.k F A0_9 c0_9 x.f2.f1)(H:client_call.f k x=some r):
    Cr 64 #[.agg #[iv x.f0,.slice A0_1 x.f1.length c0_1,iv x.f2.f0.f0,iv x.f2.f0.f1,iv x.f2.f0.f2,iv x.f2.f0.f3,.slice A0_6 x.f2.f0.f4.length c0_6,.slice A0_7 x.f2.f0.f5.length c0_7,.slice A0_8 x.f2.f0.f6.length c0_8,.slice A0_9 x.f2.f1.length c0_9,iv x.f3,.bool x.f4,iv x.f5,iv x.f6.f0,.string x.f6.f1,iv x.f6.f2.f0,iv x.f6.f2.f1,iv x.f6.f3,iv x.f6.f4,iv x.f6.f5,iv x.f7,iv x.f8,iv x.f9.f0,.bool x.f9.f1,iv x.f9.f2]] W (client_call.Post W F r):=by
 have S:=sT hown
 unfold client_call.f at H
 refine ent 23 rfl rfl rfl (fun a E=>?_)
 refine sq fun K1 hK1=>pl0 (plx (t:=55) E S [iv x.f0,.slice A0_1 x.f1.length c0_1,iv x.f2.f0.f0,iv x.f2.f0.f1,iv x.f2.f0.f2,iv x.f2.f0.f3,.slice A0_6 x.f2.f0.f4.length c0_6,.slice A0_7 x.f2.f0.f5.length c0_7,.slice A0_8 x.f2.f0.f6.length c0_8,.slice A0_9 x.f2.f1.length c0_9,iv x.f3,.bool x.f4,iv x.f5,iv x.f6.f0,.string x.f6.f1,iv x.f6.f2.f0,iv x.f6.f2.f1,iv x.f6.f3,iv x.f6.f4,iv x.f6.f5,iv x.f7,iv x.f8,iv x.f9.f0,.bool x.f9.f1,iv x.f9.f2] fun b2 u3 hb2 S a E=>plc E (.r 1 1 .nil) (fun a E=>pld (hK1 _ _ (sq fun K4 hK4=>?_))))
 refine drawn 6 ⟨[],[],fun q=>False⟩ mixed rfl (by kernel_rfl) (fun hst=>?_)
 replace S:=S.drew
 have hb2:=S.ba 0
 refine mny 3 hst E (.bn 0 0 25 hb2<|.r 2 1<|.b 3 12 hb2<|.nil) (fun a E=>?_)
 obtain ⟨t6,h7,H⟩:=bd H
 refine on1 1 E (.cl en61 (client_known.calls k x _ _ _ _ _ _ _ _ _ _ _ _ _ S.own.sub g0_1 g0_6 g0_7 g0_8 g0_9 h7)) ?_
 rintro _ u5 a ⟨F8,A9,c10,A12,c13,A15,c16,rfl,hC,g11,g14⟩ E
 refine ⟨.of hC.agr,?_⟩
 have hs:=hC.sub
 replace S:=S.called (X:=[]) hC
 replace g0_1:=g0_1.mono hs
 replace g0_6:=g0_6.mono hs
 replace g0_7:=g0_7.mono hs
 replace g0_8:=g0_8.mono hs
 replace g0_9:=g0_9.mono hs
 obtain ⟨t20,h21,H⟩:=bd H
 refine on1 4 E (.cl en20 (client_To.calls k t6 x.f5 _ _ _ _ _ _ _ _ _ (Sub.refl _) (g11.mono S.own.sub) (g14.mono S.own.sub) (S.rd_at (i:=0) rfl) h21)) ?_
 rintro _ u19 a ⟨_,rfl,hC⟩ E
 refine ⟨.of hC.agr,?_⟩
 replace S:=S.lent hC
 refine mny 0 hst E (.r 5 1 .nil) (fun a E=>?_)
 refine dn ?_
 refine hK4 _ _ (sq fun K22 hK22=>rr E fun a E=>(E.ik 10 H (fun c24 E H=>?_) fun c24 E H=>?_))
 refine rr E fun a E=>(wp_ret (qCJ ?_))
 replace S:=S.nilrow qAm.k 111
 replace S:=S.pm [0] 3
 obtain rfl:=si H
 exact rt1 E ⟨_,rfl,_,_,_,rfl,S⟩
 refine wp_skip (hK22 _ _ (sq fun K27 hK27=>pl0 ?_))
 have hb2:=S.ba 1
 refine plc E (.r 0 2<|.b 2 12 hb2<|.r 3 1<|.b 4 0 hb2<|.r 5 1<|.b 6 10 hb2<|.r 7 1<|.bn 8 13 7 hb2<|.r 9 2<|.nil) (fun a E=>ple E (.lit (d:=qAm.k) (e:=111) S [(⟨t20,(⟨19,0,0,false,[],[],(⟨0,0,0,0,[],[],[]⟩:qF),x.f5,0,0,0,0,[],[],(⟨[],[],0⟩:qBn),false,x.f0,x.f3,x.f6,(⟨0,false,0⟩:qAO)⟩:qBe)⟩:qAm)] (.cons ⟨none,0,none,0,none,0,none,0,none,0,none,0,none,0,none,0,none,0,rfl,Rd.nil _ _,Rd.nil _ _,Rd.nil _ _,Rd.nil _ _,Rd.nil _ _,Rd.nil _ _,Rd.nil _ _,Rd.nil _ _,Rd.nil _ _⟩ .nil)) ?_)
 rintro _ u28 a ⟨A29,c30,rfl,S,hg⟩ E
 refine plc E (.r 12 1 .nil) (fun a E=>pld (hK27 _ _ (wp_ret ?_)))
 replace S:=S.pm [0] 3
 obtain rfl:=si H
 exact rt1 E ⟨_,rfl,_,_,_,rfl,S⟩
def client_Ask.j93:Nat→qAf→qc→Int→Option (qc × (List qAm) × Int)
 | 0,_,_,_=>none
 | k+1,z,t19,x92=>if t19.f3=2147483647 then (some (t19,[],6)) else ((client_call.f k (⟨t19.f0,t19.f1,t19.f2,(w64 (t19.f3+1)),true,x92,z,0,t19.f8,t19.f9⟩:qc)).bind fun t114=>(some ((⟨t19.f0,t19.f1,t19.f2,(w64 (t19.f3+1)),true,x92,z,0,t19.f8,t19.f9⟩:qc),t114,0)))
theorem client_Ask.j93_s k z t19 x92:type_of% (client_Ask.j93.eq_2 z t19 x92 k):=client_Ask.j93.eq_2 z t19 x92 k
def client_Ask.f(k:Nat)(x:qc)(y:Int)(z:qAf):Option (qc × (List qAm) × Int):=(client_Check.f k x).bind fun t11=>(if t11=0 then ((client_own.f k x).bind fun t19=>((client_known.f k t19).bind fun t49=>(if t19.f4=true then (some (t19,[],11)) else ((shelf_CheckOp.f k z).bind fun t73=>(if t73=0 then (if z.f0=2 then ((client_in.f y 0 (w64 (t49.f3 - 1))).bind fun t80=>(if t80=true then (client_Ask.j93 k z t19 y) else (some (t19,[],5)))) else ((client_Group.f k t49 z.f1).bind fun t87=>(client_Ask.j93 k z t19 t87))) else (some (t19,[],1))))))) else (some ((⟨0,[],(⟨(⟨0,0,0,0,[],[],[]⟩:qF),[]⟩:qAa),0,false,0,(⟨0,(⟨#[]⟩:ByteArray),(⟨0,0⟩:qk),0,0,0⟩:qAf),0,0,(⟨0,false,0⟩:qAO)⟩:qc),[],1)))
def client_Ask.Post(W F:World)(r:qc × (List qAm) × Int)(v:Value)(w':World):Prop:=∃(F':World)(RA0_1:OA)(rc0_1:Nat)(RA0_6:OA)(rc0_6:Nat)(RA0_7:OA)(rc0_7:Nat)(RA0_8:OA)(rc0_8:Nat)(RA0_9:OA)(rc0_9:Nat)(RA1_0:OA)(rc1_0:Nat),v = .tuple #[.agg #[iv r.1.f0,.slice RA0_1 r.1.f1.length rc0_1,iv r.1.f2.f0.f0,iv r.1.f2.f0.f1,iv r.1.f2.f0.f2,iv r.1.f2.f0.f3,.slice RA0_6 r.1.f2.f0.f4.length rc0_6,.slice RA0_7 r.1.f2.f0.f5.length rc0_7,.slice RA0_8 r.1.f2.f0.f6.length rc0_8,.slice RA0_9 r.1.f2.f1.length rc0_9,iv r.1.f3,.bool r.1.f4,iv r.1.f5,iv r.1.f6.f0,.string r.1.f6.f1,iv r.1.f6.f2.f0,iv r.1.f6.f2.f1,iv r.1.f6.f3,iv r.1.f6.f4,iv r.1.f6.f5,iv r.1.f7,iv r.1.f8,iv r.1.f9.f0,.bool r.1.f9.f1,iv r.1.f9.f2],.slice RA1_0 r.2.1.length rc1_0,iv r.2.2]∧Sm W F w' F' [row qAm.k 111 (.slice RA1_0 r.2.1.length rc1_0) r.2.1]∧Rd ki F' RA0_1 rc0_1 r.1.f1∧Rd qA.k F' RA0_6 rc0_6 r.1.f2.f0.f4∧Rd qI.k F' RA0_7 rc0_7 r.1.f2.f0.f5∧Rd qC.k F' RA0_8 rc0_8 r.1.f2.f0.f6∧Rd qE.k F' RA0_9 rc0_9 r.1.f2.f1
theorem client_Ask.calls(k:Nat)(x:qc)(y:Int)(z:qAf)(A0_1:OA)(c0_1:Nat)(A0_6:OA)(c0_6:Nat)(A0_7:OA)(c0_7:Nat)(A0_8:OA)(c0_8:Nat)(A0_9:OA)(c0_9:Nat)(r:qc × (List qAm) × Int)(W F:World)(hown:Sub F W)(g0_1:Rd ki F A0_1 c0_1 x.f1)(g0_6:Rd qA.k F A0_6 c0_6 x.f2.f0.f4)(g0_7:Rd qI.k F A0_7 c0_7 x.f2.f0.f5)(g0_8:Rd qC.k F A0_8 c0_8 x.f2.f0.f6)(g0_9:Rd qE.k F A0_9 c0_9 x.f2.f1)(H:client_Ask.f k x y z=some r):
    Cr 25 #[.agg #[iv x.f0,.slice A0_1 x.f1.length c0_1,iv x.f2.f0.f0,iv x.f2.f0.f1,iv x.f2.f0.f2,iv x.f2.f0.f3,.slice A0_6 x.f2.f0.f4.length c0_6,.slice A0_7 x.f2.f0.f5.length c0_7,.slice A0_8 x.f2.f0.f6.length c0_8,.slice A0_9 x.f2.f1.length c0_9,iv x.f3,.bool x.f4,iv x.f5,iv x.f6.f0,.string x.f6.f1,iv x.f6.f2.f0,iv x.f6.f2.f1,iv x.f6.f3,iv x.f6.f4,iv x.f6.f5,iv x.f7,iv x.f8,iv x.f9.f0,.bool x.f9.f1,iv x.f9.f2],iv y,.agg #[iv z.f0,.string z.f1,iv z.f2.f0,iv z.f2.f1,iv z.f3,iv z.f4,iv z.f5]] W (client_Ask.Post W F r):=by
 have S:=sT hown
 unfold client_Ask.f at H
 refine ent 60 rfl rfl rfl (fun a E=>?_)
 refine sq fun K1 hK1=>pl0 (plx (t:=55) E S [iv x.f0,.slice A0_1 x.f1.length c0_1,iv x.f2.f0.f0,iv x.f2.f0.f1,iv x.f2.f0.f2,iv x.f2.f0.f3,.slice A0_6 x.f2.f0.f4.length c0_6,.slice A0_7 x.f2.f0.f5.length c0_7,.slice A0_8 x.f2.f0.f6.length c0_8,.slice A0_9 x.f2.f1.length c0_9,iv x.f3,.bool x.f4,iv x.f5,iv x.f6.f0,.string x.f6.f1,iv x.f6.f2.f0,iv x.f6.f2.f1,iv x.f6.f3,iv x.f6.f4,iv x.f6.f5,iv x.f7,iv x.f8,iv x.f9.f0,.bool x.f9.f1,iv x.f9.f2] fun b2 u3 hb2 S a E=>plx (t:=51) E S [iv z.f0,.string z.f1,iv z.f2.f0,iv z.f2.f1,iv z.f3,iv z.f4,iv z.f5] fun b4 u5 hb4 S a E=>pla (t:=55) E S [iv 0,.slice none 0 0,iv 0,iv 0,iv 0,iv 0,.slice none 0 0,.slice none 0 0,.slice none 0 0,.slice none 0 0,iv 0,.bool false,iv 0,iv 0,.string (⟨#[]⟩:ByteArray),iv 0,iv 0,iv 0,iv 0,iv 0,iv 0,iv 0,iv 0,.bool false,iv 0] fun b6 u7 hb6 S a E=>plc E (.r 3 2 .nil) (fun a E=>pld (hK1 _ _ (sq fun K8 hK8=>sq fun K9 hK9=>pl0 ?_))))
 have hb2:=S.ba 2
 refine plc E (.bn 0 0 25 hb2 .nil) (fun a E=>?_)
 obtain ⟨t11,h12,H⟩:=bd H
 refine plq E S en50 (client_Check.calls k x _ _ _ _ _ _ _ _ _ _ _ _ _ S.own.sub g0_1 g0_6 g0_7 g0_8 g0_9 h12) fun u10 S a E=>plc E (.r 2 1 .nil) (fun a E=>pld (hK9 _ _ (E.ikn 12 H (fun c13 E H=>?_) fun c13 E H=>?_)))
 refine wp_skip (hK8 _ _ (sq fun K17 hK17=>pl0 (plc E (.bn 0 0 25 (S.ba 2) .nil) (fun a E=>?_))))
 obtain ⟨t19,h20,H⟩:=bd H
 refine ple E (.cl en51 (client_own.calls k x _ _ _ _ _ _ _ _ _ _ _ _ _ S.own.sub g0_1 g0_6 g0_7 g0_8 g0_9 h20)) ?_
 rintro _ u18 a ⟨F21,A22,c23,A26,c27,A29,c30,A32,c33,A36,c37,rfl,hC,g28,g31⟩ E
 have hs:=hC.sub
 replace S:=S.called (X:=[]) hC
 replace g0_1:=g0_1.mono hs
 replace g0_6:=g0_6.mono hs
 replace g0_7:=g0_7.mono hs
 replace g0_8:=g0_8.mono hs
 replace g0_9:=g0_9.mono hs
 replace S:=S.front 5 rfl
 refine pls E S [iv t19.f0,.slice A22 t19.f1.length c23,iv t19.f2.f0.f0,iv t19.f2.f0.f1,iv t19.f2.f0.f2,iv t19.f2.f0.f3,.slice A26 t19.f2.f0.f4.length c27,.slice A29 t19.f2.f0.f5.length c30,.slice A32 t19.f2.f0.f6.length c33,.slice A36 t19.f2.f1.length c37,iv t19.f3,.bool t19.f4,iv t19.f5,iv t19.f6.f0,.string t19.f6.f1,iv t19.f6.f2.f0,iv t19.f6.f2.f1,iv t19.f6.f3,iv t19.f6.f4,iv t19.f6.f5,iv t19.f7,iv t19.f8,iv t19.f9.f0,.bool t19.f9.f1,iv t19.f9.f2] fun u40 hb2 S a E=>pld (hK17 _ _ (sq fun K41 hK41=>pl0 (plc E (.bn 0 0 25 hb2 .nil) (fun a E=>?_))))
 replace S:=S.front 1 rfl
 obtain ⟨F42,hs,g43,S⟩:=S.give
 replace g0_1:=g0_1.mono hs
 replace g0_6:=g0_6.mono hs
 replace g0_7:=g0_7.mono hs
 replace g0_8:=g0_8.mono hs
 replace g0_9:=g0_9.mono hs
 replace g28:=g28.mono hs
 replace g31:=g31.mono hs
 replace S:=S.front 1 rfl
 obtain ⟨F44,hs,g45,S⟩:=S.give
 replace g0_1:=g0_1.mono hs
 replace g0_6:=g0_6.mono hs
 replace g0_7:=g0_7.mono hs
 replace g0_8:=g0_8.mono hs
 replace g0_9:=g0_9.mono hs
 replace g43:=g43.mono hs
 replace g28:=g28.mono hs
 replace g31:=g31.mono hs
 replace S:=S.front 1 rfl
 obtain ⟨F46,hs,g47,S⟩:=S.give
 replace g0_1:=g0_1.mono hs
 replace g0_6:=g0_6.mono hs
 replace g0_7:=g0_7.mono hs
 replace g0_8:=g0_8.mono hs
 replace g0_9:=g0_9.mono hs
 replace g43:=g43.mono hs
 replace g28:=g28.mono hs
 replace g31:=g31.mono hs
 replace g45:=g45.mono hs
 obtain ⟨t49,h50,H⟩:=bd H
 refine ple E (.cl en61 (client_known.calls k t19 _ _ _ _ _ _ _ _ _ _ _ _ _ S.own.sub g43 g28 g31 g45 g47 h50)) ?_
 rintro _ u48 a ⟨F51,A52,c53,A55,c56,A58,c59,rfl,hC,g54,g57⟩ E
 have hs:=hC.sub
 replace S:=S.called (X:=[]) hC
 replace g0_1:=g0_1.mono hs
 replace g0_6:=g0_6.mono hs
 replace g0_7:=g0_7.mono hs
 replace g0_8:=g0_8.mono hs
 replace g0_9:=g0_9.mono hs
 replace g43:=g43.mono hs
 replace g28:=g28.mono hs
 replace g31:=g31.mono hs
 replace g45:=g45.mono hs
 replace g47:=g47.mono hs
 refine pla (t:=27) E S [iv 0,iv 0,iv 0,iv 0,.slice none 0 0,.slice none 0 0,.slice none 0 0] fun b62 u63 hb62 S a E=>pls E S [iv t49.f0,iv t49.f1,iv t49.f2,iv t49.f3,.slice A52 t49.f4.length c53,.slice A55 t49.f5.length c56,.slice A58 t49.f6.length c59] fun u64 hb62 S a E=>pld (hK41 _ _ (sq fun K65 hK65=>?_))
 have J96:∀ kq94,kq94≤k→∀(G:NV)(x92:Int)(a:Act)(w':World),Env 60 G a→At G [(1,iv x92),(3,.pointer (pb b2)),(5,.pointer (pb b4)),(6,.pointer (pb b6))]→Sm W F w' F51 [box b62 #[iv t49.f0,iv t49.f1,iv t49.f2,iv t49.f3,.slice A52 t49.f4.length c53,.slice A55 t49.f5.length c56,.slice A58 t49.f6.length c59] 27,box b2 #[iv t19.f0,.slice A22 t19.f1.length c23,iv t19.f2.f0.f0,iv t19.f2.f0.f1,iv t19.f2.f0.f2,iv t19.f2.f0.f3,.slice A26 t19.f2.f0.f4.length c27,.slice A29 t19.f2.f0.f5.length c30,.slice A32 t19.f2.f0.f6.length c33,.slice A36 t19.f2.f1.length c37,iv t19.f3,.bool t19.f4,iv t19.f5,iv t19.f6.f0,.string t19.f6.f1,iv t19.f6.f2.f0,iv t19.f6.f2.f1,iv t19.f6.f3,iv t19.f6.f4,iv t19.f6.f5,iv t19.f7,iv t19.f8,iv t19.f9.f0,.bool t19.f9.f1,iv t19.f9.f2] 55,box b6 #[iv 0,.slice none 0 0,iv 0,iv 0,iv 0,iv 0,.slice none 0 0,.slice none 0 0,.slice none 0 0,.slice none 0 0,iv 0,.bool false,iv 0,iv 0,.string (⟨#[]⟩:ByteArray),iv 0,iv 0,iv 0,iv 0,iv 0,iv 0,iv 0,iv 0,.bool false,iv 0] 55,box b4 #[iv z.f0,.string z.f1,iv z.f2.f0,iv z.f2.f1,iv z.f3,iv z.f4,iv z.f5] 51,row qC.k 87 (.slice A58 t49.f6.length c59) t49.f6]→client_Ask.j93 kq94 z t19 x92=some r→K65 a w':=by
  intro kq94 hkq G x92 a u97 E A S H
  obtain _ | k95:=kq94
  exact zz H
  rw [client_Ask.j93_s]at H
  obtain ⟨J,E⟩:=E.at A
  refine hK65 _ _ (sq fun K98 hK98=>sq fun K99 hK99=>pl0 ?_)
  have hb2:=S.ba 1
  refine plc E (.r 0 1<|.b 1 10 hb2<|.r 2 1<|.nil) (fun a E=>pld (hK99 _ _ (E.ik 45 H (fun c100 E H=>?_) fun c100 E H=>?_)))
  refine sq fun K101 hK101=>pl0 (plc E (.bn 0 0 25 hb2 .nil) (fun a E=>?_))
  replace S:=S.front 2 rfl
  refine pls E S [iv t19.f0,.slice A22 t19.f1.length c23,iv t19.f2.f0.f0,iv t19.f2.f0.f1,iv t19.f2.f0.f2,iv t19.f2.f0.f3,.slice A26 t19.f2.f0.f4.length c27,.slice A29 t19.f2.f0.f5.length c30,.slice A32 t19.f2.f0.f6.length c33,.slice A36 t19.f2.f1.length c37,iv t19.f3,.bool t19.f4,iv t19.f5,iv t19.f6.f0,.string t19.f6.f1,iv t19.f6.f2.f0,iv t19.f6.f2.f1,iv t19.f6.f3,iv t19.f6.f4,iv t19.f6.f5,iv t19.f7,iv t19.f8,iv t19.f9.f0,.bool t19.f9.f1,iv t19.f9.f2] fun u102 hb6 S a E=>plc E (.r 2 2 .nil) (fun a E=>pld (hK101 _ _ (wp_ret (qCJ ?_))))
  replace S:=S.nilrow qAm.k 111
  replace S:=S.pm [0] 6
  obtain rfl:=si H
  exact rtm E (.b hb6 ag55 sz55 (.t (.t .nil))) ⟨_,rfl,_,_,_,_,_,_,_,_,_,_,_,_,_,rfl,S,g43,g28,g31,g45,g47⟩
  refine wp_skip (hK98 _ _ (sq fun K104 hK104=>pl0 (plc E (.r 0 1<|.b 1 10 hb2<|.r 2 2<|.nil) (fun a E=>?_))))
  replace S:=S.front 1 rfl
  refine pls E S [iv t19.f0,.slice A22 t19.f1.length c23,iv t19.f2.f0.f0,iv t19.f2.f0.f1,iv t19.f2.f0.f2,iv t19.f2.f0.f3,.slice A26 t19.f2.f0.f4.length c27,.slice A29 t19.f2.f0.f5.length c30,.slice A32 t19.f2.f0.f6.length c33,.slice A36 t19.f2.f1.length c37,iv (w64 (t19.f3+1)),.bool t19.f4,iv t19.f5,iv t19.f6.f0,.string t19.f6.f1,iv t19.f6.f2.f0,iv t19.f6.f2.f1,iv t19.f6.f3,iv t19.f6.f4,iv t19.f6.f5,iv t19.f7,iv t19.f8,iv t19.f9.f0,.bool t19.f9.f1,iv t19.f9.f2] fun u105 hb2 S a E=>pld (hK104 _ _ (sq fun K106 hK106=>?_))
  refine drawn 10 ⟨[3,5,7,9],[3,5,7,9],fun q=>q=b2⟩ mixed rfl (by kernel_rfl) (fun hst=>?_)
  replace S:=S.drew
  have ne107:¬ (b4=b2):=by intro h; exact S.ne (i:=3) (j:=0) rfl rfl (by decide) h
  have hb4:=S.ba 3
  refine mny 7 hst E (.r 0 1<|.bnX 1 0 7 hb4 ne107<|.r 2 1<|.nil) (fun a E=>?_)
  refine on1 3 E (.stx S [iv t19.f0,.slice A22 t19.f1.length c23,iv t19.f2.f0.f0,iv t19.f2.f0.f1,iv t19.f2.f0.f2,iv t19.f2.f0.f3,.slice A26 t19.f2.f0.f4.length c27,.slice A29 t19.f2.f0.f5.length c30,.slice A32 t19.f2.f0.f6.length c33,.slice A36 t19.f2.f1.length c37,iv (w64 (t19.f3+1)),.bool true,iv t19.f5,iv t19.f6.f0,.string t19.f6.f1,iv t19.f6.f2.f0,iv t19.f6.f2.f1,iv t19.f6.f3,iv t19.f6.f4,iv t19.f6.f5,iv t19.f7,iv t19.f8,iv t19.f9.f0,.bool t19.f9.f1,iv t19.f9.f2]) ?_
  rintro _ u108 a ⟨⟨rfl,hb2,S,hz⟩,hx⟩ E
  refine ⟨.c (hx.mono (by intro q h; subst h; simp)),?_⟩
  refine mny 5 hst E (.r 4 1 .nil) (fun a E=>?_)
  refine on1 5 E (.stx S [iv t19.f0,.slice A22 t19.f1.length c23,iv t19.f2.f0.f0,iv t19.f2.f0.f1,iv t19.f2.f0.f2,iv t19.f2.f0.f3,.slice A26 t19.f2.f0.f4.length c27,.slice A29 t19.f2.f0.f5.length c30,.slice A32 t19.f2.f0.f6.length c33,.slice A36 t19.f2.f1.length c37,iv (w64 (t19.f3+1)),.bool true,iv x92,iv t19.f6.f0,.string t19.f6.f1,iv t19.f6.f2.f0,iv t19.f6.f2.f1,iv t19.f6.f3,iv t19.f6.f4,iv t19.f6.f5,iv t19.f7,iv t19.f8,iv t19.f9.f0,.bool t19.f9.f1,iv t19.f9.f2]) ?_
  rintro _ u109 a ⟨⟨rfl,hb2,S,hz⟩,hx⟩ E
  refine ⟨.c (hx.mono (by intro q h; subst h; simp)),?_⟩
  refine mny 3 hst E (.r 6 1 .nil) (fun a E=>?_)
  refine on1 7 E (.stx S [iv t19.f0,.slice A22 t19.f1.length c23,iv t19.f2.f0.f0,iv t19.f2.f0.f1,iv t19.f2.f0.f2,iv t19.f2.f0.f3,.slice A26 t19.f2.f0.f4.length c27,.slice A29 t19.f2.f0.f5.length c30,.slice A32 t19.f2.f0.f6.length c33,.slice A36 t19.f2.f1.length c37,iv (w64 (t19.f3+1)),.bool true,iv x92,iv z.f0,.string z.f1,iv z.f2.f0,iv z.f2.f1,iv z.f3,iv z.f4,iv z.f5,iv t19.f7,iv t19.f8,iv t19.f9.f0,.bool t19.f9.f1,iv t19.f9.f2]) ?_
  rintro _ u110 a ⟨⟨rfl,hb2,S,hz⟩,hx⟩ E
  refine ⟨.c (hx.mono (by intro q h; subst h; simp)),?_⟩
  refine mny 1 hst E (.r 8 1 .nil) (fun a E=>?_)
  refine on1 9 E (.stx S [iv t19.f0,.slice A22 t19.f1.length c23,iv t19.f2.f0.f0,iv t19.f2.f0.f1,iv t19.f2.f0.f2,iv t19.f2.f0.f3,.slice A26 t19.f2.f0.f4.length c27,.slice A29 t19.f2.f0.f5.length c30,.slice A32 t19.f2.f0.f6.length c33,.slice A36 t19.f2.f1.length c37,iv (w64 (t19.f3+1)),.bool true,iv x92,iv z.f0,.string z.f1,iv z.f2.f0,iv z.f2.f1,iv z.f3,iv z.f4,iv z.f5,iv 0,iv t19.f8,iv t19.f9.f0,.bool t19.f9.f1,iv t19.f9.f2]) ?_
  rintro _ u111 a ⟨⟨rfl,hb2,S,hz⟩,hx⟩ E
  refine ⟨.c (hx.mono (by intro q h; subst h; simp)),?_⟩
  refine dn ?_
  refine hK106 _ _ (sq fun K112 hK112=>?_)
  refine drawn 6 ⟨[3],[3],fun q=>q=b6⟩ mixed rfl (by kernel_rfl) (fun hst=>?_)
  replace S:=S.drew
  have hb2:=S.ba 0
  refine mny 4 hst E (.bn 0 0 25 hb2<|.bn 1 0 25 hb2<|.nil) (fun a E=>?_)
  obtain ⟨t114,h115,H⟩:=bd H
  refine on1 2 E (.cl en64 (client_call.calls k95 (⟨t19.f0,t19.f1,t19.f2,(w64 (t19.f3+1)),true,x92,z,0,t19.f8,t19.f9⟩:qc) _ _ _ _ _ _ _ _ _ _ _ _ _ S.own.sub g43 g28 g31 g45 g47 h115)) ?_
  rintro _ u113 a ⟨F116,A117,c118,rfl,hC⟩ E
  refine ⟨.of hC.agr,?_⟩
  have hs:=hC.sub
  replace S:=S.called (X:=[]) hC
  replace g43:=g43.mono hs
  replace g28:=g28.mono hs
  replace g31:=g31.mono hs
  replace g45:=g45.mono hs
  replace g47:=g47.mono hs
  replace g54:=g54.mono hs
  replace g57:=g57.mono hs
  replace S:=S.front 3 rfl
  refine on1 3 E (.stx S [iv t19.f0,.slice A22 t19.f1.length c23,iv t19.f2.f0.f0,iv t19.f2.f0.f1,iv t19.f2.f0.f2,iv t19.f2.f0.f3,.slice A26 t19.f2.f0.f4.length c27,.slice A29 t19.f2.f0.f5.length c30,.slice A32 t19.f2.f0.f6.length c33,.slice A36 t19.f2.f1.length c37,iv (w64 (t19.f3+1)),.bool true,iv x92,iv z.f0,.string z.f1,iv z.f2.f0,iv z.f2.f1,iv z.f3,iv z.f4,iv z.f5,iv 0,iv t19.f8,iv t19.f9.f0,.bool t19.f9.f1,iv t19.f9.f2]) ?_
  rintro _ u121 a ⟨⟨rfl,hb6,S,hz⟩,hx⟩ E
  refine ⟨.c (hx.mono (by intro q h; subst h; simp)),?_⟩
  refine mny 0 hst E (.r 4 2 .nil) (fun a E=>?_)
  refine dn ?_
  refine hK112 _ _ (wp_ret ?_)
  replace S:=S.pm [1] 6
  obtain rfl:=si H
  exact rtm E (.b hb6 ag55 sz55 (.t (.t .nil))) ⟨_,rfl,_,_,_,_,_,_,_,_,_,_,_,_,_,rfl,S,g43,g28,g31,g45,g47⟩
 refine wp_block (sq fun K66 hK66=>pl0 ?_)
 have hb2:=S.ba 2
 refine plc E (.r 0 1<|.b 1 11 hb2<|.r 2 1<|.nil) (fun a E=>pld (hK66 _ _ (E.ib 18 H (fun c67 E H=>?_) fun c67 E H=>?_)))
 refine sq fun K68 hK68=>pl0 (plc E (.bn 0 0 25 hb2 .nil) (fun a E=>?_))
 replace S:=S.front 3 rfl
 refine pls E S [iv t19.f0,.slice A22 t19.f1.length c23,iv t19.f2.f0.f0,iv t19.f2.f0.f1,iv t19.f2.f0.f2,iv t19.f2.f0.f3,.slice A26 t19.f2.f0.f4.length c27,.slice A29 t19.f2.f0.f5.length c30,.slice A32 t19.f2.f0.f6.length c33,.slice A36 t19.f2.f1.length c37,iv t19.f3,.bool t19.f4,iv t19.f5,iv t19.f6.f0,.string t19.f6.f1,iv t19.f6.f2.f0,iv t19.f6.f2.f1,iv t19.f6.f3,iv t19.f6.f4,iv t19.f6.f5,iv t19.f7,iv t19.f8,iv t19.f9.f0,.bool t19.f9.f1,iv t19.f9.f2] fun u69 hb6 S a E=>plc E (.r 2 2 .nil) (fun a E=>pld (hK68 _ _ (wp_ret (qCK (qCJ ?_)))))
 replace S:=S.nilrow qAm.k 111
 replace S:=S.pm [0] 6
 obtain rfl:=si H
 exact rtm E (.b hb6 ag55 sz55 (.t (.t .nil))) ⟨_,rfl,_,_,_,_,_,_,_,_,_,_,_,_,_,rfl,S,g43,g28,g31,g45,g47⟩
 refine sq fun K71 hK71=>pl0 ?_
 have hb4:=S.ba 4
 refine plc E (.bn 0 0 7 hb4 .nil) (fun a E=>?_)
 obtain ⟨t73,h74,H⟩:=bd H
 refine plq E S en62 (shelf_CheckOp.calls k z _ _ _ S.own.sub h74) fun u72 S a E=>plc E (.r 2 2 .nil) (fun a E=>pld (hK71 _ _ (E.ikn 22 H (fun c75 E H=>?_) fun c75 E H=>?_)))
 refine sq fun K76 hK76=>pl0 ?_
 have hb4:=S.ba 4
 refine plc E (.r 0 1<|.b 1 0 hb4<|.r 2 2<|.nil) (fun a E=>pld (hK76 _ _ (E.ikn 27 H (fun c77 E H=>?_) fun c77 E H=>?_)))
 refine sq fun K78 hK78=>pl0 (plc E (.r 0 2<|.b 2 3 (S.ba 0)<|.r 3 1<|.nil) (fun a E=>?_))
 obtain ⟨t80,h81,H⟩:=bd H
 refine plq E S en63 (client_in.calls y 0 (w64 (t49.f3 - 1)) _ _ _ S.own.sub h81) fun u79 S a E=>plc E (.r 5 2 .nil) (fun a E=>pld (hK78 _ _ (E.ibn 35 H (fun c82 E H=>?_) fun c82 E H=>?_)))
 refine wp_skip ?_
 refine qCL ?_
 replace S:=S.pm [0,2,3,4,1] 5
 exact J96 _ (by omega) _ y _ _ E .of S H
 refine sq fun K83 hK83=>pl0 (plc E (.bn 0 0 25 (S.ba 2) .nil) (fun a E=>?_))
 replace S:=S.front 3 rfl
 refine pls E S [iv t19.f0,.slice A22 t19.f1.length c23,iv t19.f2.f0.f0,iv t19.f2.f0.f1,iv t19.f2.f0.f2,iv t19.f2.f0.f3,.slice A26 t19.f2.f0.f4.length c27,.slice A29 t19.f2.f0.f5.length c30,.slice A32 t19.f2.f0.f6.length c33,.slice A36 t19.f2.f1.length c37,iv t19.f3,.bool t19.f4,iv t19.f5,iv t19.f6.f0,.string t19.f6.f1,iv t19.f6.f2.f0,iv t19.f6.f2.f1,iv t19.f6.f3,iv t19.f6.f4,iv t19.f6.f5,iv t19.f7,iv t19.f8,iv t19.f9.f0,.bool t19.f9.f1,iv t19.f9.f2] fun u84 hb6 S a E=>plc E (.r 2 2 .nil) (fun a E=>pld (hK83 _ _ (wp_ret (qCK (qCJ ?_)))))
 replace S:=S.nilrow qAm.k 111
 replace S:=S.pm [0] 6
 obtain rfl:=si H
 exact rtm E (.b hb6 ag55 sz55 (.t (.t .nil))) ⟨_,rfl,_,_,_,_,_,_,_,_,_,_,_,_,_,rfl,S,g43,g28,g31,g45,g47⟩
 refine pl0 (plc E (.bn 0 0 7 (S.ba 0)<|.r 1 1<|.b 2 1 hb4<|.nil) (fun a E=>?_))
 obtain ⟨t87,h88,H⟩:=bd H
 refine plq E S en22 (client_Group.calls k t49 z.f1 _ _ _ _ _ _ _ _ _ (Sub.refl _) (g54.mono S.own.sub) (g57.mono S.own.sub) (S.rd_at (i:=1) rfl) h88) fun u86 S a E=>plc E (.r 4 1 .nil) (fun a E=>pld ?_)
 refine qCL ?_
 replace S:=S.pm [0,2,3,4,1] 5
 exact J96 _ (by omega) _ t87 _ _ E .of S H
 refine sq fun K89 hK89=>pl0 (plc E (.bn 0 0 25 (S.ba 2) .nil) (fun a E=>?_))
 replace S:=S.front 3 rfl
 refine pls E S [iv t19.f0,.slice A22 t19.f1.length c23,iv t19.f2.f0.f0,iv t19.f2.f0.f1,iv t19.f2.f0.f2,iv t19.f2.f0.f3,.slice A26 t19.f2.f0.f4.length c27,.slice A29 t19.f2.f0.f5.length c30,.slice A32 t19.f2.f0.f6.length c33,.slice A36 t19.f2.f1.length c37,iv t19.f3,.bool t19.f4,iv t19.f5,iv t19.f6.f0,.string t19.f6.f1,iv t19.f6.f2.f0,iv t19.f6.f2.f1,iv t19.f6.f3,iv t19.f6.f4,iv t19.f6.f5,iv t19.f7,iv t19.f8,iv t19.f9.f0,.bool t19.f9.f1,iv t19.f9.f2] fun u90 hb6 S a E=>plc E (.r 2 2 .nil) (fun a E=>pld (hK89 _ _ (wp_ret (qCK (qCJ ?_)))))
 replace S:=S.nilrow qAm.k 111
 replace S:=S.pm [0] 6
 obtain rfl:=si H
 exact rtm E (.b hb6 ag55 sz55 (.t (.t .nil))) ⟨_,rfl,_,_,_,_,_,_,_,_,_,_,_,_,_,rfl,S,g43,g28,g31,g45,g47⟩
 refine sq fun K14 hK14=>pl0 (plc E (.r 0 1 .nil) (fun a E=>pls E S [iv 0,.slice none 0 0,iv 0,iv 0,iv 0,iv 0,.slice none 0 0,.slice none 0 0,.slice none 0 0,.slice none 0 0,iv 0,.bool false,iv 0,iv 0,.string (⟨#[]⟩:ByteArray),iv 0,iv 0,iv 0,iv 0,iv 0,iv 0,iv 0,iv 0,.bool false,iv 0] fun u15 hb6 S a E=>plc E (.r 2 2 .nil) (fun a E=>pld (hK14 _ _ (wp_ret (qCJ ?_))))))
 replace S:=S.nilrow qAm.k 111
 replace S:=S.pm [0] 4
 obtain rfl:=si H
 exact rtm E (.b hb6 ag55 sz55 (.t (.t .nil))) ⟨_,rfl,_,_,_,_,_,_,_,_,_,_,_,_,_,rfl,S,(Rd.nil _ _),(Rd.nil _ _),(Rd.nil _ _),(Rd.nil _ _),(Rd.nil _ _)⟩
mutual
def client_Hear.j54:Nat→Int→qBe→qc→Bool→Bool→Option (qc × (List qAm))
 | 0,_,_,_,_,_=>none
 | k+1,y,z,t19,y52,y53=>if y53=true then (none) else (if y52=true then (client_Hear.j63 k y z t19 (z.f0 == 8)) else (client_Hear.j63 k y z t19 false))
def client_Hear.j63:Nat→Int→qBe→qc→Bool→Option (qc × (List qAm))
 | 0,_,_,_,_=>none
 | k+1,y,z,t19,y62=>if y62=true then (none) else (if t19.f4=true then ((client_in.f y 1 999).bind fun t72=>(if t72=true then (if z.f0=20 then (if z.f16=t19.f0 then (client_Hear.j78 k z t19 (z.f17 == t19.f3)) else (client_Hear.j78 k z t19 false)) else (client_Hear.j78 k z t19 false)) else (client_Hear.j78 k z t19 false))) else (client_Hear.j78 k z t19 false))
def client_Hear.j78:Nat→qBe→qc→Bool→Option (qc × (List qAm))
 | 0,_,_,_=>none
 | k+1,z,t19,y77=>if y77=true then (client_Hear.j93 k t19 false t19.f3 z.f19.f0 z.f19.f1 z.f19.f2) else (client_Hear.j93 k t19 t19.f4 t19.f8 t19.f9.f0 t19.f9.f1 t19.f9.f2)
def client_Hear.j93:Nat→qc→Bool→Int→Int→Bool→Int→Option (qc × (List qAm))
 | 0,_,_,_,_,_,_=>none
 | k+1,t19,y88,x89,x90,y91,x92=>if y88=true then (if (w64 (t19.f2.f0.f0+(t19.f2.f1.length:Int)))=(w64 (t19.f2.f0.f0+(t19.f2.f1.length:Int))) then (client_Hear.j164 k t19 y88 x89 x90 y91 x92 true t19.f1 t19.f2.f0.f6 t19.f2.f1 t19.f2.f0.f6 t19.f2.f1) else ((qBu.f k t19.f2).bind fun t107=>((client_To.f k t107 t19.f5).bind fun t121=>((client_known.f k (⟨t19.f0,t19.f1,t19.f2,t19.f3,y88,t19.f5,t19.f6,t19.f7,x89,(⟨x90,y91,x92⟩:qAO)⟩:qc)).bind fun t126=>((client_To.f k t126 t19.f5).bind fun t140=>(client_Hear.j164 k t19 y88 x89 x90 y91 x92 (t121 == t140) t19.f1 t19.f2.f0.f6 t19.f2.f1 t19.f2.f0.f6 t19.f2.f1)))))) else (client_Hear.j164 k t19 y88 x89 x90 y91 x92 true t19.f1 t19.f2.f0.f6 t19.f2.f1 t19.f2.f0.f6 t19.f2.f1)
def client_Hear.j164:Nat→qc→Bool→Int→Int→Bool→Int→Bool→List Int→List qC→List qE→List qC→List qE→Option (qc × (List qAm))
 | 0,_,_,_,_,_,_,_,_,_,_,_,_=>none
 | k+1,t19,y88,x89,x90,y91,x92,y142,l145,l149,l153,l157,l161=>if y142=true then (some ((⟨t19.f0,l145,(⟨(⟨t19.f2.f0.f0,t19.f2.f0.f1,t19.f2.f0.f2,t19.f2.f0.f3,t19.f2.f0.f4,t19.f2.f0.f5,l149⟩:qF),l153⟩:qAa),t19.f3,y88,t19.f5,t19.f6,t19.f7,x89,(⟨x90,y91,x92⟩:qAO)⟩:qc),[])) else ((client_call.f k (⟨t19.f0,l145,(⟨(⟨t19.f2.f0.f0,t19.f2.f0.f1,t19.f2.f0.f2,t19.f2.f0.f3,t19.f2.f0.f4,t19.f2.f0.f5,l149⟩:qF),l153⟩:qAa),t19.f3,y88,t19.f5,t19.f6,t19.f7,x89,(⟨x90,y91,x92⟩:qAO)⟩:qc)).bind fun t187=>(some ((⟨t19.f0,l145,(⟨(⟨t19.f2.f0.f0,t19.f2.f0.f1,t19.f2.f0.f2,t19.f2.f0.f3,t19.f2.f0.f4,t19.f2.f0.f5,l149⟩:qF),l153⟩:qAa),t19.f3,y88,t19.f5,t19.f6,t19.f7,x89,(⟨x90,y91,x92⟩:qAO)⟩:qc),t187)))
end
theorem client_Hear.j54_s k y z t19 y52 y53:type_of% (client_Hear.j54.eq_2 y z t19 y52 y53 k):=client_Hear.j54.eq_2 y z t19 y52 y53 k
theorem client_Hear.j63_s k y z t19 y62:type_of% (client_Hear.j63.eq_2 y z t19 y62 k):=client_Hear.j63.eq_2 y z t19 y62 k
theorem client_Hear.j78_s k z t19 y77:type_of% (client_Hear.j78.eq_2 z t19 y77 k):=client_Hear.j78.eq_2 z t19 y77 k
theorem client_Hear.j93_s k t19 y88 x89 x90 y91 x92:type_of% (client_Hear.j93.eq_2 t19 y88 x89 x90 y91 x92 k):=client_Hear.j93.eq_2 t19 y88 x89 x90 y91 x92 k
theorem client_Hear.j164_s k t19 y88 x89 x90 y91 x92 y142 l145 l149 l153 l157 l161:type_of% (client_Hear.j164.eq_2 t19 y88 x89 x90 y91 x92 y142 l145 l149 l153 l157 l161 k):=client_Hear.j164.eq_2 t19 y88 x89 x90 y91 x92 y142 l145 l149 l153 l157 l161 k
def client_Hear.f(k:Nat)(x:qc)(y:Int)(z:qBe):Option (qc × (List qAm)):=(client_Check.f k x).bind fun t11=>(if t11=0 then ((client_own.f k x).bind fun t19=>((qAU.f k t19.f1 y).bind fun t48=>(if t48=true then (client_Hear.j54 k y z t19 true (z.f0 == 7)) else (client_Hear.j54 k y z t19 false false)))) else (some ((⟨0,[],(⟨(⟨0,0,0,0,[],[],[]⟩:qF),[]⟩:qAa),0,false,0,(⟨0,(⟨#[]⟩:ByteArray),(⟨0,0⟩:qk),0,0,0⟩:qAf),0,0,(⟨0,false,0⟩:qAO)⟩:qc),[])))
def client_Hear.Post(W F:World)(r:qc × (List qAm))(v:Value)(w':World):Prop:=∃(F':World)(RA0_1:OA)(rc0_1:Nat)(RA0_6:OA)(rc0_6:Nat)(RA0_7:OA)(rc0_7:Nat)(RA0_8:OA)(rc0_8:Nat)(RA0_9:OA)(rc0_9:Nat)(RA1_0:OA)(rc1_0:Nat),v = .tuple #[.agg #[iv r.1.f0,.slice RA0_1 r.1.f1.length rc0_1,iv r.1.f2.f0.f0,iv r.1.f2.f0.f1,iv r.1.f2.f0.f2,iv r.1.f2.f0.f3,.slice RA0_6 r.1.f2.f0.f4.length rc0_6,.slice RA0_7 r.1.f2.f0.f5.length rc0_7,.slice RA0_8 r.1.f2.f0.f6.length rc0_8,.slice RA0_9 r.1.f2.f1.length rc0_9,iv r.1.f3,.bool r.1.f4,iv r.1.f5,iv r.1.f6.f0,.string r.1.f6.f1,iv r.1.f6.f2.f0,iv r.1.f6.f2.f1,iv r.1.f6.f3,iv r.1.f6.f4,iv r.1.f6.f5,iv r.1.f7,iv r.1.f8,iv r.1.f9.f0,.bool r.1.f9.f1,iv r.1.f9.f2],.slice RA1_0 r.2.length rc1_0]∧Sm W F w' F' [row qAm.k 111 (.slice RA1_0 r.2.length rc1_0) r.2]∧Rd ki F' RA0_1 rc0_1 r.1.f1∧Rd qA.k F' RA0_6 rc0_6 r.1.f2.f0.f4∧Rd qI.k F' RA0_7 rc0_7 r.1.f2.f0.f5∧Rd qC.k F' RA0_8 rc0_8 r.1.f2.f0.f6∧Rd qE.k F' RA0_9 rc0_9 r.1.f2.f1
theorem client_Hear.calls(k:Nat)(x:qc)(y:Int)(z:qBe)(A0_1:OA)(c0_1:Nat)(A0_6:OA)(c0_6:Nat)(A0_7:OA)(c0_7:Nat)(A0_8:OA)(c0_8:Nat)(A0_9:OA)(c0_9:Nat)(A2_4:OA)(c2_4:Nat)(A2_5:OA)(c2_5:Nat)(A2_10:OA)(c2_10:Nat)(A2_11:OA)(c2_11:Nat)(A2_12:OA)(c2_12:Nat)(A2_18:OA)(c2_18:Nat)(A2_19:OA)(c2_19:Nat)(A2_20:OA)(c2_20:Nat)(A2_21:OA)(c2_21:Nat)(r:qc × (List qAm))(W F:World)(hown:Sub F W)(g0_1:Rd ki F A0_1 c0_1 x.f1)(g0_6:Rd qA.k F A0_6 c0_6 x.f2.f0.f4)(g0_7:Rd qI.k F A0_7 c0_7 x.f2.f0.f5)(g0_8:Rd qC.k F A0_8 c0_8 x.f2.f0.f6)(g0_9:Rd qE.k F A0_9 c0_9 x.f2.f1)(g2_4:Rd qBm.k F A2_4 c2_4 z.f4)(g2_5:Rd qE.k F A2_5 c2_5 z.f5)(g2_10:Rd qA.k F A2_10 c2_10 z.f6.f4)(g2_11:Rd qI.k F A2_11 c2_11 z.f6.f5)(g2_12:Rd qC.k F A2_12 c2_12 z.f6.f6)(g2_18:Rd ki F A2_18 c2_18 z.f12)(g2_19:Rd qBz.k F A2_19 c2_19 z.f13)(g2_20:Rd qCB.k F A2_20 c2_20 z.f14.f0)(g2_21:Rd qCC.k F A2_21 c2_21 z.f14.f1)(H:client_Hear.f k x y z=some r):
    Cr 28 #[.agg #[iv x.f0,.slice A0_1 x.f1.length c0_1,iv x.f2.f0.f0,iv x.f2.f0.f1,iv x.f2.f0.f2,iv x.f2.f0.f3,.slice A0_6 x.f2.f0.f4.length c0_6,.slice A0_7 x.f2.f0.f5.length c0_7,.slice A0_8 x.f2.f0.f6.length c0_8,.slice A0_9 x.f2.f1.length c0_9,iv x.f3,.bool x.f4,iv x.f5,iv x.f6.f0,.string x.f6.f1,iv x.f6.f2.f0,iv x.f6.f2.f1,iv x.f6.f3,iv x.f6.f4,iv x.f6.f5,iv x.f7,iv x.f8,iv x.f9.f0,.bool x.f9.f1,iv x.f9.f2],iv y,.agg #[iv z.f0,iv z.f1,iv z.f2,.bool z.f3,.slice A2_4 z.f4.length c2_4,.slice A2_5 z.f5.length c2_5,iv z.f6.f0,iv z.f6.f1,iv z.f6.f2,iv z.f6.f3,.slice A2_10 z.f6.f4.length c2_10,.slice A2_11 z.f6.f5.length c2_11,.slice A2_12 z.f6.f6.length c2_12,iv z.f7,iv z.f8,iv z.f9,iv z.f10,iv z.f11,.slice A2_18 z.f12.length c2_18,.slice A2_19 z.f13.length c2_19,.slice A2_20 z.f14.f0.length c2_20,.slice A2_21 z.f14.f1.length c2_21,iv z.f14.f2,.bool z.f15,iv z.f16,iv z.f17,iv z.f18.f0,.string z.f18.f1,iv z.f18.f2.f0,iv z.f18.f2.f1,iv z.f18.f3,iv z.f18.f4,iv z.f18.f5,iv z.f19.f0,.bool z.f19.f1,iv z.f19.f2]] W (client_Hear.Post W F r):=by
 have S:=sT hown
 unfold client_Hear.f at H
 refine ent 128 rfl rfl rfl (fun a E=>?_)
 refine sq fun K1 hK1=>pl0 (plx (t:=55) E S [iv x.f0,.slice A0_1 x.f1.length c0_1,iv x.f2.f0.f0,iv x.f2.f0.f1,iv x.f2.f0.f2,iv x.f2.f0.f3,.slice A0_6 x.f2.f0.f4.length c0_6,.slice A0_7 x.f2.f0.f5.length c0_7,.slice A0_8 x.f2.f0.f6.length c0_8,.slice A0_9 x.f2.f1.length c0_9,iv x.f3,.bool x.f4,iv x.f5,iv x.f6.f0,.string x.f6.f1,iv x.f6.f2.f0,iv x.f6.f2.f1,iv x.f6.f3,iv x.f6.f4,iv x.f6.f5,iv x.f7,iv x.f8,iv x.f9.f0,.bool x.f9.f1,iv x.f9.f2] fun b2 u3 hb2 S a E=>plx (t:=76) E S [iv z.f0,iv z.f1,iv z.f2,.bool z.f3,.slice A2_4 z.f4.length c2_4,.slice A2_5 z.f5.length c2_5,iv z.f6.f0,iv z.f6.f1,iv z.f6.f2,iv z.f6.f3,.slice A2_10 z.f6.f4.length c2_10,.slice A2_11 z.f6.f5.length c2_11,.slice A2_12 z.f6.f6.length c2_12,iv z.f7,iv z.f8,iv z.f9,iv z.f10,iv z.f11,.slice A2_18 z.f12.length c2_18,.slice A2_19 z.f13.length c2_19,.slice A2_20 z.f14.f0.length c2_20,.slice A2_21 z.f14.f1.length c2_21,iv z.f14.f2,.bool z.f15,iv z.f16,iv z.f17,iv z.f18.f0,.string z.f18.f1,iv z.f18.f2.f0,iv z.f18.f2.f1,iv z.f18.f3,iv z.f18.f4,iv z.f18.f5,iv z.f19.f0,.bool z.f19.f1,iv z.f19.f2] fun b4 u5 hb4 S a E=>?_)
 refine pla (t:=55) E S [iv 0,.slice none 0 0,iv 0,iv 0,iv 0,iv 0,.slice none 0 0,.slice none 0 0,.slice none 0 0,.slice none 0 0,iv 0,.bool false,iv 0,iv 0,.string (⟨#[]⟩:ByteArray),iv 0,iv 0,iv 0,iv 0,iv 0,iv 0,iv 0,iv 0,.bool false,iv 0] fun b6 u7 hb6 S a E=>plc E (.r 3 1 .nil) (fun a E=>pld (hK1 _ _ (sq fun K8 hK8=>sq fun K9 hK9=>pl0 ?_)))
 have hb2:=S.ba 2
 refine plc E (.bn 0 0 25 hb2 .nil) (fun a E=>?_)
 obtain ⟨t11,h12,H⟩:=bd H
 refine plq E S en50 (client_Check.calls k x _ _ _ _ _ _ _ _ _ _ _ _ _ S.own.sub g0_1 g0_6 g0_7 g0_8 g0_9 h12) fun u10 S a E=>plc E (.r 2 1 .nil) (fun a E=>pld (hK9 _ _ (E.ikn 12 H (fun c13 E H=>?_) fun c13 E H=>?_)))
 refine wp_skip (hK8 _ _ (sq fun K17 hK17=>pl0 (plc E (.bn 0 0 25 (S.ba 2) .nil) (fun a E=>?_))))
 obtain ⟨t19,h20,H⟩:=bd H
 refine ple E (.cl en51 (client_own.calls k x _ _ _ _ _ _ _ _ _ _ _ _ _ S.own.sub g0_1 g0_6 g0_7 g0_8 g0_9 h20)) ?_
 rintro _ u18 a ⟨F21,A22,c23,A26,c27,A29,c30,A32,c33,A36,c37,rfl,hC,g28,g31⟩ E
 have hs:=hC.sub
 replace S:=S.called (X:=[]) hC
 replace g0_1:=g0_1.mono hs
 replace g0_6:=g0_6.mono hs
 replace g0_7:=g0_7.mono hs
 replace g0_8:=g0_8.mono hs
 replace g0_9:=g0_9.mono hs
 replace g2_4:=g2_4.mono hs
 replace g2_5:=g2_5.mono hs
 replace g2_10:=g2_10.mono hs
 replace g2_11:=g2_11.mono hs
 replace g2_12:=g2_12.mono hs
 replace g2_18:=g2_18.mono hs
 replace g2_19:=g2_19.mono hs
 replace g2_20:=g2_20.mono hs
 replace g2_21:=g2_21.mono hs
 replace S:=S.front 5 rfl
 refine pls E S [iv t19.f0,.slice A22 t19.f1.length c23,iv t19.f2.f0.f0,iv t19.f2.f0.f1,iv t19.f2.f0.f2,iv t19.f2.f0.f3,.slice A26 t19.f2.f0.f4.length c27,.slice A29 t19.f2.f0.f5.length c30,.slice A32 t19.f2.f0.f6.length c33,.slice A36 t19.f2.f1.length c37,iv t19.f3,.bool t19.f4,iv t19.f5,iv t19.f6.f0,.string t19.f6.f1,iv t19.f6.f2.f0,iv t19.f6.f2.f1,iv t19.f6.f3,iv t19.f6.f4,iv t19.f6.f5,iv t19.f7,iv t19.f8,iv t19.f9.f0,.bool t19.f9.f1,iv t19.f9.f2] fun u40 hb2 S a E=>pld (hK17 _ _ (sq fun K41 hK41=>pl0 (plc E (.r 0 1<|.bn 1 2 8 hb2<|.nil) (fun a E=>pla (t:=47) E S [iv 0,iv 0,iv 0,iv 0,.slice none 0 0,.slice none 0 0,.slice none 0 0,.slice none 0 0] fun b42 u43 hb42 S a E=>pls E S [iv t19.f2.f0.f0,iv t19.f2.f0.f1,iv t19.f2.f0.f2,iv t19.f2.f0.f3,.slice A26 t19.f2.f0.f4.length c27,.slice A29 t19.f2.f0.f5.length c30,.slice A32 t19.f2.f0.f6.length c33,.slice A36 t19.f2.f1.length c37] fun u44 hb42 S a E=>pld (hK41 _ _ (sq fun K45 hK45=>?_))))))
 have J96:∀ kq94,kq94≤k→∀(G:NV)(y88:Bool)(x89:Int)(x90:Int)(y91:Bool)(x92:Int)(a:Act)(w':World),Env 128 G a→At G [(3,.pointer (pb b2)),(6,.pointer (pb b6)),(8,.pointer (pb b42))]→Sm W F w' F21 [box b2 #[iv t19.f0,.slice A22 t19.f1.length c23,iv t19.f2.f0.f0,iv t19.f2.f0.f1,iv t19.f2.f0.f2,iv t19.f2.f0.f3,.slice A26 t19.f2.f0.f4.length c27,.slice A29 t19.f2.f0.f5.length c30,.slice A32 t19.f2.f0.f6.length c33,.slice A36 t19.f2.f1.length c37,iv t19.f3,.bool y88,iv t19.f5,iv t19.f6.f0,.string t19.f6.f1,iv t19.f6.f2.f0,iv t19.f6.f2.f1,iv t19.f6.f3,iv t19.f6.f4,iv t19.f6.f5,iv t19.f7,iv x89,iv x90,.bool y91,iv x92] 55,box b42 #[iv t19.f2.f0.f0,iv t19.f2.f0.f1,iv t19.f2.f0.f2,iv t19.f2.f0.f3,.slice A26 t19.f2.f0.f4.length c27,.slice A29 t19.f2.f0.f5.length c30,.slice A32 t19.f2.f0.f6.length c33,.slice A36 t19.f2.f1.length c37] 47,box b6 #[iv 0,.slice none 0 0,iv 0,iv 0,iv 0,iv 0,.slice none 0 0,.slice none 0 0,.slice none 0 0,.slice none 0 0,iv 0,.bool false,iv 0,iv 0,.string (⟨#[]⟩:ByteArray),iv 0,iv 0,iv 0,iv 0,iv 0,iv 0,iv 0,iv 0,.bool false,iv 0] 55,box b4 #[iv z.f0,iv z.f1,iv z.f2,.bool z.f3,.slice A2_4 z.f4.length c2_4,.slice A2_5 z.f5.length c2_5,iv z.f6.f0,iv z.f6.f1,iv z.f6.f2,iv z.f6.f3,.slice A2_10 z.f6.f4.length c2_10,.slice A2_11 z.f6.f5.length c2_11,.slice A2_12 z.f6.f6.length c2_12,iv z.f7,iv z.f8,iv z.f9,iv z.f10,iv z.f11,.slice A2_18 z.f12.length c2_18,.slice A2_19 z.f13.length c2_19,.slice A2_20 z.f14.f0.length c2_20,.slice A2_21 z.f14.f1.length c2_21,iv z.f14.f2,.bool z.f15,iv z.f16,iv z.f17,iv z.f18.f0,.string z.f18.f1,iv z.f18.f2.f0,iv z.f18.f2.f1,iv z.f18.f3,iv z.f18.f4,iv z.f18.f5,iv z.f19.f0,.bool z.f19.f1,iv z.f19.f2] 76,row ki 3 (.slice A22 t19.f1.length c23) t19.f1,row qC.k 87 (.slice A32 t19.f2.f0.f6.length c33) t19.f2.f0.f6,row qE.k 96 (.slice A36 t19.f2.f1.length c37) t19.f2.f1]→client_Hear.j93 kq94 t19 y88 x89 x90 y91 x92=some r→K45 a w':=by
  intro kq94 hkq G y88 x89 x90 y91 x92 a u97 E A S H
  obtain _ | k95:=kq94
  exact zz H
  rw [client_Hear.j93_s]at H
  obtain ⟨J,E⟩:=E.at A
  refine hK45 _ _ (sq fun K98 hK98=>sq fun K99 hK99=>?_)
  have J167:∀ kq165,kq165≤k95→∀(G:NV)(y142:Bool)(A143:OA)(c144:Nat)(l145:List Int)(A147:OA)(c148:Nat)(l149:List qC)(A151:OA)(c152:Nat)(l153:List qE)(A155:OA)(c156:Nat)(l157:List qC)(A159:OA)(c160:Nat)(l161:List qE)(F163:World)(a:Act)(w':World),Env 128 G a→At G [(3,.pointer (pb b2)),(6,.pointer (pb b6)),(123,.bool y142)]→Sm W F w' F163 [box b2 #[iv t19.f0,.slice A143 l145.length c144,iv t19.f2.f0.f0,iv t19.f2.f0.f1,iv t19.f2.f0.f2,iv t19.f2.f0.f3,.slice A26 t19.f2.f0.f4.length c27,.slice A29 t19.f2.f0.f5.length c30,.slice A147 l149.length c148,.slice A151 l153.length c152,iv t19.f3,.bool y88,iv t19.f5,iv t19.f6.f0,.string t19.f6.f1,iv t19.f6.f2.f0,iv t19.f6.f2.f1,iv t19.f6.f3,iv t19.f6.f4,iv t19.f6.f5,iv t19.f7,iv x89,iv x90,.bool y91,iv x92] 55,box b42 #[iv t19.f2.f0.f0,iv t19.f2.f0.f1,iv t19.f2.f0.f2,iv t19.f2.f0.f3,.slice A26 t19.f2.f0.f4.length c27,.slice A29 t19.f2.f0.f5.length c30,.slice A155 l157.length c156,.slice A159 l161.length c160] 47,box b6 #[iv 0,.slice none 0 0,iv 0,iv 0,iv 0,iv 0,.slice none 0 0,.slice none 0 0,.slice none 0 0,.slice none 0 0,iv 0,.bool false,iv 0,iv 0,.string (⟨#[]⟩:ByteArray),iv 0,iv 0,iv 0,iv 0,iv 0,iv 0,iv 0,iv 0,.bool false,iv 0] 55,box b4 #[iv z.f0,iv z.f1,iv z.f2,.bool z.f3,.slice A2_4 z.f4.length c2_4,.slice A2_5 z.f5.length c2_5,iv z.f6.f0,iv z.f6.f1,iv z.f6.f2,iv z.f6.f3,.slice A2_10 z.f6.f4.length c2_10,.slice A2_11 z.f6.f5.length c2_11,.slice A2_12 z.f6.f6.length c2_12,iv z.f7,iv z.f8,iv z.f9,iv z.f10,iv z.f11,.slice A2_18 z.f12.length c2_18,.slice A2_19 z.f13.length c2_19,.slice A2_20 z.f14.f0.length c2_20,.slice A2_21 z.f14.f1.length c2_21,iv z.f14.f2,.bool z.f15,iv z.f16,iv z.f17,iv z.f18.f0,.string z.f18.f1,iv z.f18.f2.f0,iv z.f18.f2.f1,iv z.f18.f3,iv z.f18.f4,iv z.f18.f5,iv z.f19.f0,.bool z.f19.f1,iv z.f19.f2] 76]→Rd ki F163 A143 c144 l145→Rd qC.k F163 A147 c148 l149→Rd qE.k F163 A151 c152 l153→Rd qC.k F163 A155 c156 l157→Rd qE.k F163 A159 c160 l161→Rd qA.k F163 A26 c27 t19.f2.f0.f4→Rd qI.k F163 A29 c30 t19.f2.f0.f5→Rd qBm.k F163 A2_4 c2_4 z.f4→Rd qE.k F163 A2_5 c2_5 z.f5→Rd qA.k F163 A2_10 c2_10 z.f6.f4→Rd qI.k F163 A2_11 c2_11 z.f6.f5→Rd qC.k F163 A2_12 c2_12 z.f6.f6→Rd ki F163 A2_18 c2_18 z.f12→Rd qBz.k F163 A2_19 c2_19 z.f13→Rd qCB.k F163 A2_20 c2_20 z.f14.f0→Rd qCC.k F163 A2_21 c2_21 z.f14.f1→client_Hear.j164 kq165 t19 y88 x89 x90 y91 x92 y142 l145 l149 l153 l157 l161=some r→K99 a w':=by
   intro kq165 hkq G y142 A143 c144 l145 A147 c148 l149 A151 c152 l153 A155 c156 l157 A159 c160 l161 F163 a u168 E A S g146 g150 g154 g158 g162 g28 g31 g2_4 g2_5 g2_10 g2_11 g2_12 g2_18 g2_19 g2_20 g2_21 H
   obtain _ | k166:=kq165
   exact zz H
   rw [client_Hear.j164_s]at H
   obtain ⟨J,E⟩:=E.at A
   refine hK99 _ _ (E.ib 123 H (fun c169 E H=>?_) fun c169 E H=>?_)
   refine sq fun K170 hK170=>pl0 (plc E (.bn 0 0 25 (S.ba 0) .nil) (fun a E=>?_))
   replace S:=S.front 2 rfl
   refine pls E S [iv t19.f0,.slice A143 l145.length c144,iv t19.f2.f0.f0,iv t19.f2.f0.f1,iv t19.f2.f0.f2,iv t19.f2.f0.f3,.slice A26 t19.f2.f0.f4.length c27,.slice A29 t19.f2.f0.f5.length c30,.slice A147 l149.length c148,.slice A151 l153.length c152,iv t19.f3,.bool y88,iv t19.f5,iv t19.f6.f0,.string t19.f6.f1,iv t19.f6.f2.f0,iv t19.f6.f2.f1,iv t19.f6.f3,iv t19.f6.f4,iv t19.f6.f5,iv t19.f7,iv x89,iv x90,.bool y91,iv x92] fun u171 hb6 S a E=>plc E (.r 2 1 .nil) (fun a E=>pld (hK170 _ _ (wp_ret (qCJ ?_))))
   replace S:=S.nilrow qAm.k 111
   replace S:=S.pm [0] 5
   obtain rfl:=si H
   exact rtm E (.b hb6 ag55 sz55 (.t .nil)) ⟨_,rfl,_,_,_,_,_,_,_,_,_,_,_,_,_,rfl,S,g146,g28,g31,g150,g154⟩
   refine wp_skip (hK98 _ _ (sq fun K185 hK185=>?_))
   refine drawn 5 ⟨[3],[3],fun q=>q=b6⟩ mixed rfl (by kernel_rfl) (fun hst=>?_)
   replace S:=S.drew
   have hb2:=S.ba 0
   refine mny 3 hst E (.bn 0 0 25 hb2<|.bn 1 0 25 hb2<|.nil) (fun a E=>?_)
   obtain ⟨t187,h188,H⟩:=bd H
   refine on1 2 E (.cl en64 (client_call.calls k166 (⟨t19.f0,l145,(⟨(⟨t19.f2.f0.f0,t19.f2.f0.f1,t19.f2.f0.f2,t19.f2.f0.f3,t19.f2.f0.f4,t19.f2.f0.f5,l149⟩:qF),l153⟩:qAa),t19.f3,y88,t19.f5,t19.f6,t19.f7,x89,(⟨x90,y91,x92⟩:qAO)⟩:qc) _ _ _ _ _ _ _ _ _ _ _ _ _ S.own.sub g146 g28 g31 g150 g154 h188)) ?_
   rintro _ u186 a ⟨F189,A190,c191,rfl,hC⟩ E
   refine ⟨.of hC.agr,?_⟩
   have hs:=hC.sub
   replace S:=S.called (X:=[]) hC
   replace g146:=g146.mono hs
   replace g28:=g28.mono hs
   replace g31:=g31.mono hs
   replace g150:=g150.mono hs
   replace g154:=g154.mono hs
   replace g158:=g158.mono hs
   replace g162:=g162.mono hs
   replace g2_4:=g2_4.mono hs
   replace g2_5:=g2_5.mono hs
   replace g2_10:=g2_10.mono hs
   replace g2_11:=g2_11.mono hs
   replace g2_12:=g2_12.mono hs
   replace g2_18:=g2_18.mono hs
   replace g2_19:=g2_19.mono hs
   replace g2_20:=g2_20.mono hs
   replace g2_21:=g2_21.mono hs
   replace S:=S.front 3 rfl
   refine on1 3 E (.stx S [iv t19.f0,.slice A143 l145.length c144,iv t19.f2.f0.f0,iv t19.f2.f0.f1,iv t19.f2.f0.f2,iv t19.f2.f0.f3,.slice A26 t19.f2.f0.f4.length c27,.slice A29 t19.f2.f0.f5.length c30,.slice A147 l149.length c148,.slice A151 l153.length c152,iv t19.f3,.bool y88,iv t19.f5,iv t19.f6.f0,.string t19.f6.f1,iv t19.f6.f2.f0,iv t19.f6.f2.f1,iv t19.f6.f3,iv t19.f6.f4,iv t19.f6.f5,iv t19.f7,iv x89,iv x90,.bool y91,iv x92]) ?_
   rintro _ u194 a ⟨⟨rfl,hb6,S,hz⟩,hx⟩ E
   refine ⟨.c (hx.mono (by intro q h; subst h; simp)),?_⟩
   refine mny 0 hst E (.r 4 1 .nil) (fun a E=>?_)
   refine dn ?_
   refine hK185 _ _ (wp_ret ?_)
   replace S:=S.pm [1] 5
   obtain rfl:=si H
   exact rtm E (.b hb6 ag55 sz55 (.t .nil)) ⟨_,rfl,_,_,_,_,_,_,_,_,_,_,_,_,_,rfl,S,g146,g28,g31,g150,g154⟩
  refine drawn 35 ⟨[],[],fun q=>False⟩ mixed rfl (by kernel_rfl) (fun hst=>?_)
  replace S:=S.drew
  have hb2:=S.ba 0
  refine mny 31 hst E (.r 0 1<|.b 1 11 hb2<|.r 2 2<|.nil) (fun a E=>?_)
  refine E.fbn 92 H (fun c100 E H=>?_) fun c100 E H=>?_
  have hb42:=S.ba 1
  refine mny 12 hst E (.r 4 2<|.b 6 0 hb42<|.r 7 1<|.b 8 7 hb42<|.r 9 5<|.b 14 2 hb2<|.r 15 2<|.b 17 9 hb2<|.r 18 5<|.nil) (fun a E=>?_)
  refine E.fk 111 H (fun c101 E H=>?_) fun c101 E H=>?_
  refine mny 0 hst E (.r 23 12 .nil) (fun a E=>?_)
  refine dn ?_
  replace S:=S.front 4 rfl
  obtain ⟨F173,hs,g174,S⟩:=S.give
  replace g28:=g28.mono hs
  replace g31:=g31.mono hs
  replace g2_4:=g2_4.mono hs
  replace g2_5:=g2_5.mono hs
  replace g2_10:=g2_10.mono hs
  replace g2_11:=g2_11.mono hs
  replace g2_12:=g2_12.mono hs
  replace g2_18:=g2_18.mono hs
  replace g2_19:=g2_19.mono hs
  replace g2_20:=g2_20.mono hs
  replace g2_21:=g2_21.mono hs
  replace S:=S.front 4 rfl
  obtain ⟨F175,hs,g176,S⟩:=S.give
  replace g174:=g174.mono hs
  replace g28:=g28.mono hs
  replace g31:=g31.mono hs
  replace g2_4:=g2_4.mono hs
  replace g2_5:=g2_5.mono hs
  replace g2_10:=g2_10.mono hs
  replace g2_11:=g2_11.mono hs
  replace g2_12:=g2_12.mono hs
  replace g2_18:=g2_18.mono hs
  replace g2_19:=g2_19.mono hs
  replace g2_20:=g2_20.mono hs
  replace g2_21:=g2_21.mono hs
  replace S:=S.front 4 rfl
  obtain ⟨F177,hs,g178,S⟩:=S.give
  replace g174:=g174.mono hs
  replace g28:=g28.mono hs
  replace g31:=g31.mono hs
  replace g176:=g176.mono hs
  replace g2_4:=g2_4.mono hs
  replace g2_5:=g2_5.mono hs
  replace g2_10:=g2_10.mono hs
  replace g2_11:=g2_11.mono hs
  replace g2_12:=g2_12.mono hs
  replace g2_18:=g2_18.mono hs
  replace g2_19:=g2_19.mono hs
  replace g2_20:=g2_20.mono hs
  replace g2_21:=g2_21.mono hs
  exact J167 _ (by omega) _ true A22 c23 t19.f1 A32 c33 t19.f2.f0.f6 A36 c37 t19.f2.f1 A32 c33 t19.f2.f0.f6 A36 c37 t19.f2.f1 F177 _ _ E .of S g174 g176 g178 g176 g178 g28 g31 g2_4 g2_5 g2_10 g2_11 g2_12 g2_18 g2_19 g2_20 g2_21 H
  refine mny 6 hst E (.bn 23 0 8 hb42<|.r 25 1<|.b 26 12 hb2<|.bn 28 0 25 hb2<|.r 30 1<|.b 31 12 hb2<|.nil) (fun a E=>?_)
  replace S:=S.front 5 rfl
  obtain ⟨F102,hs,g103,S⟩:=S.give
  replace g28:=g28.mono hs
  replace g31:=g31.mono hs
  replace g2_4:=g2_4.mono hs
  replace g2_5:=g2_5.mono hs
  replace g2_10:=g2_10.mono hs
  replace g2_11:=g2_11.mono hs
  replace g2_12:=g2_12.mono hs
  replace g2_18:=g2_18.mono hs
  replace g2_19:=g2_19.mono hs
  replace g2_20:=g2_20.mono hs
  replace g2_21:=g2_21.mono hs
  replace S:=S.front 5 rfl
  obtain ⟨F104,hs,g105,S⟩:=S.give
  replace g28:=g28.mono hs
  replace g31:=g31.mono hs
  replace g103:=g103.mono hs
  replace g2_4:=g2_4.mono hs
  replace g2_5:=g2_5.mono hs
  replace g2_10:=g2_10.mono hs
  replace g2_11:=g2_11.mono hs
  replace g2_12:=g2_12.mono hs
  replace g2_18:=g2_18.mono hs
  replace g2_19:=g2_19.mono hs
  replace g2_20:=g2_20.mono hs
  replace g2_21:=g2_21.mono hs
  obtain ⟨t107,h108,H⟩:=bd H
  refine on1 24 E (.cl en68 (qBu.calls k95 t19.f2 _ _ _ _ _ _ _ _ _ _ _ S.own.sub g28 g31 g103 g105 h108)) ?_
  rintro _ u106 a ⟨F109,A110,c111,A113,c114,A116,c117,rfl,hC,g112,g115⟩ E
  refine ⟨.of hC.agr,?_⟩
  have hs:=hC.sub
  replace S:=S.called (X:=[]) hC
  replace g105:=g105.mono hs
  replace g28:=g28.mono hs
  replace g31:=g31.mono hs
  replace g103:=g103.mono hs
  replace g2_4:=g2_4.mono hs
  replace g2_5:=g2_5.mono hs
  replace g2_10:=g2_10.mono hs
  replace g2_11:=g2_11.mono hs
  replace g2_12:=g2_12.mono hs
  replace g2_18:=g2_18.mono hs
  replace g2_19:=g2_19.mono hs
  replace g2_20:=g2_20.mono hs
  replace g2_21:=g2_21.mono hs
  obtain ⟨t121,h122,H⟩:=bd H
  refine on1 27 E (.cl en20 (client_To.calls k95 t107 t19.f5 _ _ _ _ _ _ _ _ _ (Sub.refl _) (g112.mono S.own.sub) (g115.mono S.own.sub) (S.rd_at (i:=0) rfl) h122)) ?_
  rintro _ u120 a ⟨_,rfl,hC⟩ E
  refine ⟨.of hC.agr,?_⟩
  replace S:=S.lent hC
  replace S:=S.front 5 rfl
  obtain ⟨F123,hs,g124,S⟩:=S.give
  replace g105:=g105.mono hs
  replace g28:=g28.mono hs
  replace g31:=g31.mono hs
  replace g103:=g103.mono hs
  replace g112:=g112.mono hs
  replace g115:=g115.mono hs
  replace g2_4:=g2_4.mono hs
  replace g2_5:=g2_5.mono hs
  replace g2_10:=g2_10.mono hs
  replace g2_11:=g2_11.mono hs
  replace g2_12:=g2_12.mono hs
  replace g2_18:=g2_18.mono hs
  replace g2_19:=g2_19.mono hs
  replace g2_20:=g2_20.mono hs
  replace g2_21:=g2_21.mono hs
  obtain ⟨t126,h127,H⟩:=bd H
  refine on1 29 E (.cl en61 (client_known.calls k95 (⟨t19.f0,t19.f1,t19.f2,t19.f3,y88,t19.f5,t19.f6,t19.f7,x89,(⟨x90,y91,x92⟩:qAO)⟩:qc) _ _ _ _ _ _ _ _ _ _ _ _ _ S.own.sub g124 g28 g31 g103 g105 h127)) ?_
  rintro _ u125 a ⟨F128,A129,c130,A132,c133,A135,c136,rfl,hC,g131,g134⟩ E
  refine ⟨.of hC.agr,?_⟩
  have hs:=hC.sub
  replace S:=S.called (X:=[]) hC
  replace g105:=g105.mono hs
  replace g28:=g28.mono hs
  replace g31:=g31.mono hs
  replace g103:=g103.mono hs
  replace g112:=g112.mono hs
  replace g115:=g115.mono hs
  replace g124:=g124.mono hs
  replace g2_4:=g2_4.mono hs
  replace g2_5:=g2_5.mono hs
  replace g2_10:=g2_10.mono hs
  replace g2_11:=g2_11.mono hs
  replace g2_12:=g2_12.mono hs
  replace g2_18:=g2_18.mono hs
  replace g2_19:=g2_19.mono hs
  replace g2_20:=g2_20.mono hs
  replace g2_21:=g2_21.mono hs
  obtain ⟨t140,h141,H⟩:=bd H
  refine on1 32 E (.cl en20 (client_To.calls k95 t126 t19.f5 _ _ _ _ _ _ _ _ _ (Sub.refl _) (g131.mono S.own.sub) (g134.mono S.own.sub) (S.rd_at (i:=0) rfl) h141)) ?_
  rintro _ u139 a ⟨_,rfl,hC⟩ E
  refine ⟨.of hC.agr,?_⟩
  replace S:=S.lent hC
  refine mny 0 hst E (.r 33 2 .nil) (fun a E=>?_)
  refine dn ?_
  replace S:=S.pm [] 2
  exact J167 _ (by omega) _ (t121 == t140) A22 c23 t19.f1 A32 c33 t19.f2.f0.f6 A36 c37 t19.f2.f1 A32 c33 t19.f2.f0.f6 A36 c37 t19.f2.f1 F128 _ _ E .of S g124 g103 g105 g103 g105 g28 g31 g2_4 g2_5 g2_10 g2_11 g2_12 g2_18 g2_19 g2_20 g2_21 H
  refine mny 0 hst E (.r 4 31 .nil) (fun a E=>?_)
  refine dn ?_
  replace S:=S.front 4 rfl
  obtain ⟨F179,hs,g180,S⟩:=S.give
  replace g28:=g28.mono hs
  replace g31:=g31.mono hs
  replace g2_4:=g2_4.mono hs
  replace g2_5:=g2_5.mono hs
  replace g2_10:=g2_10.mono hs
  replace g2_11:=g2_11.mono hs
  replace g2_12:=g2_12.mono hs
  replace g2_18:=g2_18.mono hs
  replace g2_19:=g2_19.mono hs
  replace g2_20:=g2_20.mono hs
  replace g2_21:=g2_21.mono hs
  replace S:=S.front 4 rfl
  obtain ⟨F181,hs,g182,S⟩:=S.give
  replace g180:=g180.mono hs
  replace g28:=g28.mono hs
  replace g31:=g31.mono hs
  replace g2_4:=g2_4.mono hs
  replace g2_5:=g2_5.mono hs
  replace g2_10:=g2_10.mono hs
  replace g2_11:=g2_11.mono hs
  replace g2_12:=g2_12.mono hs
  replace g2_18:=g2_18.mono hs
  replace g2_19:=g2_19.mono hs
  replace g2_20:=g2_20.mono hs
  replace g2_21:=g2_21.mono hs
  replace S:=S.front 4 rfl
  obtain ⟨F183,hs,g184,S⟩:=S.give
  replace g180:=g180.mono hs
  replace g28:=g28.mono hs
  replace g31:=g31.mono hs
  replace g182:=g182.mono hs
  replace g2_4:=g2_4.mono hs
  replace g2_5:=g2_5.mono hs
  replace g2_10:=g2_10.mono hs
  replace g2_11:=g2_11.mono hs
  replace g2_12:=g2_12.mono hs
  replace g2_18:=g2_18.mono hs
  replace g2_19:=g2_19.mono hs
  replace g2_20:=g2_20.mono hs
  replace g2_21:=g2_21.mono hs
  exact J167 _ (by omega) _ true A22 c23 t19.f1 A32 c33 t19.f2.f0.f6 A36 c37 t19.f2.f1 A32 c33 t19.f2.f0.f6 A36 c37 t19.f2.f1 F183 _ _ E .of S g180 g182 g184 g182 g184 g28 g31 g2_4 g2_5 g2_10 g2_11 g2_12 g2_18 g2_19 g2_20 g2_21 H
 refine sq fun K46 hK46=>pl0 ?_
 have hb2:=S.ba 1
 refine plc E (.r 0 1<|.b 1 1 hb2<|.r 2 1<|.nil) (fun a E=>?_)
 obtain ⟨t48,h49,H⟩:=bd H
 refine plq E S en36 (qAU.calls k t19.f1 y _ _ _ _ _ (Sub.refl _) (S.rd_at (i:=2) rfl) h49) fun u47 S a E=>plc E (.r 4 1 .nil) (fun a E=>pld (hK46 _ _ (wp_block (sq fun K50 hK50=>?_))))
 have J57:∀ kq55,kq55≤k→∀(G:NV)(y52:Bool)(y53:Bool)(a:Act)(w':World),Env 128 G a→At G [(1,iv y),(3,.pointer (pb b2)),(5,.pointer (pb b4)),(6,.pointer (pb b6)),(8,.pointer (pb b42)),(9,.bool y52),(22,.bool y53)]→Sm W F w' F21 [box b42 #[iv t19.f2.f0.f0,iv t19.f2.f0.f1,iv t19.f2.f0.f2,iv t19.f2.f0.f3,.slice A26 t19.f2.f0.f4.length c27,.slice A29 t19.f2.f0.f5.length c30,.slice A32 t19.f2.f0.f6.length c33,.slice A36 t19.f2.f1.length c37] 47,box b2 #[iv t19.f0,.slice A22 t19.f1.length c23,iv t19.f2.f0.f0,iv t19.f2.f0.f1,iv t19.f2.f0.f2,iv t19.f2.f0.f3,.slice A26 t19.f2.f0.f4.length c27,.slice A29 t19.f2.f0.f5.length c30,.slice A32 t19.f2.f0.f6.length c33,.slice A36 t19.f2.f1.length c37,iv t19.f3,.bool t19.f4,iv t19.f5,iv t19.f6.f0,.string t19.f6.f1,iv t19.f6.f2.f0,iv t19.f6.f2.f1,iv t19.f6.f3,iv t19.f6.f4,iv t19.f6.f5,iv t19.f7,iv t19.f8,iv t19.f9.f0,.bool t19.f9.f1,iv t19.f9.f2] 55,box b6 #[iv 0,.slice none 0 0,iv 0,iv 0,iv 0,iv 0,.slice none 0 0,.slice none 0 0,.slice none 0 0,.slice none 0 0,iv 0,.bool false,iv 0,iv 0,.string (⟨#[]⟩:ByteArray),iv 0,iv 0,iv 0,iv 0,iv 0,iv 0,iv 0,iv 0,.bool false,iv 0] 55,box b4 #[iv z.f0,iv z.f1,iv z.f2,.bool z.f3,.slice A2_4 z.f4.length c2_4,.slice A2_5 z.f5.length c2_5,iv z.f6.f0,iv z.f6.f1,iv z.f6.f2,iv z.f6.f3,.slice A2_10 z.f6.f4.length c2_10,.slice A2_11 z.f6.f5.length c2_11,.slice A2_12 z.f6.f6.length c2_12,iv z.f7,iv z.f8,iv z.f9,iv z.f10,iv z.f11,.slice A2_18 z.f12.length c2_18,.slice A2_19 z.f13.length c2_19,.slice A2_20 z.f14.f0.length c2_20,.slice A2_21 z.f14.f1.length c2_21,iv z.f14.f2,.bool z.f15,iv z.f16,iv z.f17,iv z.f18.f0,.string z.f18.f1,iv z.f18.f2.f0,iv z.f18.f2.f1,iv z.f18.f3,iv z.f18.f4,iv z.f18.f5,iv z.f19.f0,.bool z.f19.f1,iv z.f19.f2] 76,row ki 3 (.slice A22 t19.f1.length c23) t19.f1,row qC.k 87 (.slice A32 t19.f2.f0.f6.length c33) t19.f2.f0.f6,row qE.k 96 (.slice A36 t19.f2.f1.length c37) t19.f2.f1]→client_Hear.j54 kq55 y z t19 y52 y53=some r→K50 a w':=by
  intro kq55 hkq G y52 y53 a u58 E A S H
  obtain _ | k56:=kq55
  exact zz H
  rw [client_Hear.j54_s]at H
  obtain ⟨J,E⟩:=E.at A
  refine hK50 _ _ (E.ib 22 H (fun c59 E H=>?_) fun c59 E H=>?_)
  refine pl0 ?_
  have hb4:=S.ba 3
  refine plc E (.r 0 1<|.bn 1 2 8 (S.ba 1)<|.r 2 1<|.b 3 2 hb4<|.r 4 1<|.b 5 5 hb4<|.nil) (fun a E=>?_)
  exact zz H
  refine sq fun K60 hK60=>?_
  have J66:∀ kq64,kq64≤k56→∀(G:NV)(y62:Bool)(a:Act)(w':World),Env 128 G a→At G [(1,iv y),(3,.pointer (pb b2)),(5,.pointer (pb b4)),(6,.pointer (pb b6)),(8,.pointer (pb b42)),(40,.bool y62)]→Sm W F w' F21 [box b42 #[iv t19.f2.f0.f0,iv t19.f2.f0.f1,iv t19.f2.f0.f2,iv t19.f2.f0.f3,.slice A26 t19.f2.f0.f4.length c27,.slice A29 t19.f2.f0.f5.length c30,.slice A32 t19.f2.f0.f6.length c33,.slice A36 t19.f2.f1.length c37] 47,box b2 #[iv t19.f0,.slice A22 t19.f1.length c23,iv t19.f2.f0.f0,iv t19.f2.f0.f1,iv t19.f2.f0.f2,iv t19.f2.f0.f3,.slice A26 t19.f2.f0.f4.length c27,.slice A29 t19.f2.f0.f5.length c30,.slice A32 t19.f2.f0.f6.length c33,.slice A36 t19.f2.f1.length c37,iv t19.f3,.bool t19.f4,iv t19.f5,iv t19.f6.f0,.string t19.f6.f1,iv t19.f6.f2.f0,iv t19.f6.f2.f1,iv t19.f6.f3,iv t19.f6.f4,iv t19.f6.f5,iv t19.f7,iv t19.f8,iv t19.f9.f0,.bool t19.f9.f1,iv t19.f9.f2] 55,box b6 #[iv 0,.slice none 0 0,iv 0,iv 0,iv 0,iv 0,.slice none 0 0,.slice none 0 0,.slice none 0 0,.slice none 0 0,iv 0,.bool false,iv 0,iv 0,.string (⟨#[]⟩:ByteArray),iv 0,iv 0,iv 0,iv 0,iv 0,iv 0,iv 0,iv 0,.bool false,iv 0] 55,box b4 #[iv z.f0,iv z.f1,iv z.f2,.bool z.f3,.slice A2_4 z.f4.length c2_4,.slice A2_5 z.f5.length c2_5,iv z.f6.f0,iv z.f6.f1,iv z.f6.f2,iv z.f6.f3,.slice A2_10 z.f6.f4.length c2_10,.slice A2_11 z.f6.f5.length c2_11,.slice A2_12 z.f6.f6.length c2_12,iv z.f7,iv z.f8,iv z.f9,iv z.f10,iv z.f11,.slice A2_18 z.f12.length c2_18,.slice A2_19 z.f13.length c2_19,.slice A2_20 z.f14.f0.length c2_20,.slice A2_21 z.f14.f1.length c2_21,iv z.f14.f2,.bool z.f15,iv z.f16,iv z.f17,iv z.f18.f0,.string z.f18.f1,iv z.f18.f2.f0,iv z.f18.f2.f1,iv z.f18.f3,iv z.f18.f4,iv z.f18.f5,iv z.f19.f0,.bool z.f19.f1,iv z.f19.f2] 76,row ki 3 (.slice A22 t19.f1.length c23) t19.f1,row qC.k 87 (.slice A32 t19.f2.f0.f6.length c33) t19.f2.f0.f6,row qE.k 96 (.slice A36 t19.f2.f1.length c37) t19.f2.f1]→client_Hear.j63 kq64 y z t19 y62=some r→K60 a w':=by
   intro kq64 hkq G y62 a u67 E A S H
   obtain _ | k65:=kq64
   exact zz H
   rw [client_Hear.j63_s]at H
   obtain ⟨J,E⟩:=E.at A
   refine hK60 _ _ (E.ib 40 H (fun c68 E H=>?_) fun c68 E H=>?_)
   refine pl0 (plc E (.r 0 1<|.bn 1 2 8 (S.ba 1)<|.r 2 1<|.bn 3 6 7 (S.ba 3)<|.nil) (fun a E=>?_))
   exact zz H
   refine sq fun K69 hK69=>?_
   have J81:∀ kq79,kq79≤k65→∀(G:NV)(y77:Bool)(a:Act)(w':World),Env 128 G a→At G [(3,.pointer (pb b2)),(5,.pointer (pb b4)),(6,.pointer (pb b6)),(8,.pointer (pb b42)),(56,.bool y77)]→Sm W F w' F21 [box b42 #[iv t19.f2.f0.f0,iv t19.f2.f0.f1,iv t19.f2.f0.f2,iv t19.f2.f0.f3,.slice A26 t19.f2.f0.f4.length c27,.slice A29 t19.f2.f0.f5.length c30,.slice A32 t19.f2.f0.f6.length c33,.slice A36 t19.f2.f1.length c37] 47,box b2 #[iv t19.f0,.slice A22 t19.f1.length c23,iv t19.f2.f0.f0,iv t19.f2.f0.f1,iv t19.f2.f0.f2,iv t19.f2.f0.f3,.slice A26 t19.f2.f0.f4.length c27,.slice A29 t19.f2.f0.f5.length c30,.slice A32 t19.f2.f0.f6.length c33,.slice A36 t19.f2.f1.length c37,iv t19.f3,.bool t19.f4,iv t19.f5,iv t19.f6.f0,.string t19.f6.f1,iv t19.f6.f2.f0,iv t19.f6.f2.f1,iv t19.f6.f3,iv t19.f6.f4,iv t19.f6.f5,iv t19.f7,iv t19.f8,iv t19.f9.f0,.bool t19.f9.f1,iv t19.f9.f2] 55,box b6 #[iv 0,.slice none 0 0,iv 0,iv 0,iv 0,iv 0,.slice none 0 0,.slice none 0 0,.slice none 0 0,.slice none 0 0,iv 0,.bool false,iv 0,iv 0,.string (⟨#[]⟩:ByteArray),iv 0,iv 0,iv 0,iv 0,iv 0,iv 0,iv 0,iv 0,.bool false,iv 0] 55,box b4 #[iv z.f0,iv z.f1,iv z.f2,.bool z.f3,.slice A2_4 z.f4.length c2_4,.slice A2_5 z.f5.length c2_5,iv z.f6.f0,iv z.f6.f1,iv z.f6.f2,iv z.f6.f3,.slice A2_10 z.f6.f4.length c2_10,.slice A2_11 z.f6.f5.length c2_11,.slice A2_12 z.f6.f6.length c2_12,iv z.f7,iv z.f8,iv z.f9,iv z.f10,iv z.f11,.slice A2_18 z.f12.length c2_18,.slice A2_19 z.f13.length c2_19,.slice A2_20 z.f14.f0.length c2_20,.slice A2_21 z.f14.f1.length c2_21,iv z.f14.f2,.bool z.f15,iv z.f16,iv z.f17,iv z.f18.f0,.string z.f18.f1,iv z.f18.f2.f0,iv z.f18.f2.f1,iv z.f18.f3,iv z.f18.f4,iv z.f18.f5,iv z.f19.f0,.bool z.f19.f1,iv z.f19.f2] 76,row ki 3 (.slice A22 t19.f1.length c23) t19.f1,row qC.k 87 (.slice A32 t19.f2.f0.f6.length c33) t19.f2.f0.f6,row qE.k 96 (.slice A36 t19.f2.f1.length c37) t19.f2.f1]→client_Hear.j78 kq79 z t19 y77=some r→K69 a w':=by
    intro kq79 hkq G y77 a u82 E A S H
    obtain _ | k80:=kq79
    exact zz H
    rw [client_Hear.j78_s]at H
    obtain ⟨J,E⟩:=E.at A
    refine hK69 _ _ (E.ib 56 H (fun c83 E H=>?_) fun c83 E H=>?_)
    refine drawn 10 ⟨[5,7,9],[5,7,9],fun q=>q=b2⟩ mixed rfl (by kernel_rfl) (fun hst=>?_)
    replace S:=S.drew
    have hb2:=S.ba 1
    have ne84:¬ (b4=b2):=by intro h; exact S.ne (i:=3) (j:=1) rfl rfl (by decide) h
    have hb4:=S.ba 3
    refine mny 5 hst E (.r 0 1<|.b 1 10 hb2<|.r 2 1<|.bnX 3 33 3 hb4 ne84<|.r 4 1<|.nil) (fun a E=>?_)
    replace S:=S.front 1 rfl
    refine on1 5 E (.stx S [iv t19.f0,.slice A22 t19.f1.length c23,iv t19.f2.f0.f0,iv t19.f2.f0.f1,iv t19.f2.f0.f2,iv t19.f2.f0.f3,.slice A26 t19.f2.f0.f4.length c27,.slice A29 t19.f2.f0.f5.length c30,.slice A32 t19.f2.f0.f6.length c33,.slice A36 t19.f2.f1.length c37,iv t19.f3,.bool t19.f4,iv t19.f5,iv t19.f6.f0,.string t19.f6.f1,iv t19.f6.f2.f0,iv t19.f6.f2.f1,iv t19.f6.f3,iv t19.f6.f4,iv t19.f6.f5,iv t19.f7,iv t19.f3,iv t19.f9.f0,.bool t19.f9.f1,iv t19.f9.f2]) ?_
    rintro _ u85 a ⟨⟨rfl,hb2,S,hz⟩,hx⟩ E
    refine ⟨.c (hx.mono (by intro q h; subst h; simp)),?_⟩
    refine mny 3 hst E (.r 6 1 .nil) (fun a E=>?_)
    refine on1 7 E (.stx S [iv t19.f0,.slice A22 t19.f1.length c23,iv t19.f2.f0.f0,iv t19.f2.f0.f1,iv t19.f2.f0.f2,iv t19.f2.f0.f3,.slice A26 t19.f2.f0.f4.length c27,.slice A29 t19.f2.f0.f5.length c30,.slice A32 t19.f2.f0.f6.length c33,.slice A36 t19.f2.f1.length c37,iv t19.f3,.bool t19.f4,iv t19.f5,iv t19.f6.f0,.string t19.f6.f1,iv t19.f6.f2.f0,iv t19.f6.f2.f1,iv t19.f6.f3,iv t19.f6.f4,iv t19.f6.f5,iv t19.f7,iv t19.f3,iv z.f19.f0,.bool z.f19.f1,iv z.f19.f2]) ?_
    rintro _ u86 a ⟨⟨rfl,hb2,S,hz⟩,hx⟩ E
    refine ⟨.c (hx.mono (by intro q h; subst h; simp)),?_⟩
    refine mny 1 hst E (.r 8 1 .nil) (fun a E=>?_)
    refine on1 9 E (.stx S [iv t19.f0,.slice A22 t19.f1.length c23,iv t19.f2.f0.f0,iv t19.f2.f0.f1,iv t19.f2.f0.f2,iv t19.f2.f0.f3,.slice A26 t19.f2.f0.f4.length c27,.slice A29 t19.f2.f0.f5.length c30,.slice A32 t19.f2.f0.f6.length c33,.slice A36 t19.f2.f1.length c37,iv t19.f3,.bool false,iv t19.f5,iv t19.f6.f0,.string t19.f6.f1,iv t19.f6.f2.f0,iv t19.f6.f2.f1,iv t19.f6.f3,iv t19.f6.f4,iv t19.f6.f5,iv t19.f7,iv t19.f3,iv z.f19.f0,.bool z.f19.f1,iv z.f19.f2]) ?_
    rintro _ u87 a ⟨⟨rfl,hb2,S,hz⟩,hx⟩ E
    refine ⟨.c (hx.mono (by intro q h; subst h; simp)),?_⟩
    refine dn ?_
    refine qCL ?_
    exact J96 _ (by omega) _ false t19.f3 z.f19.f0 z.f19.f1 z.f19.f2 _ _ E .of S H
    refine wp_skip ?_
    refine qCL ?_
    replace S:=S.pm [1,0] 2
    exact J96 _ (by omega) _ t19.f4 t19.f8 t19.f9.f0 t19.f9.f1 t19.f9.f2 _ _ E .of S H
   refine pl0 ?_
   have hb2:=S.ba 1
   refine plc E (.r 0 1<|.b 1 11 hb2<|.r 2 1<|.nil) (fun a E=>E.fb 59 H (fun c70 E H=>?_) fun c70 E H=>?_)
   refine plc E (.r 3 1 .nil) (fun a E=>?_)
   obtain ⟨t72,h73,H⟩:=bd H
   refine plq E S en63 (client_in.calls y 1 999 _ _ _ S.own.sub h73) fun u71 S a E=>plc E (.r 5 2 .nil) (fun a E=>E.fb 63 H (fun c74 E H=>?_) fun c74 E H=>?_)
   have hb4:=S.ba 3
   refine plc E (.r 7 1<|.b 8 0 hb4<|.r 9 3<|.nil) (fun a E=>E.fk 68 H (fun c75 E H=>?_) fun c75 E H=>?_)
   have hb2:=S.ba 1
   refine plc E (.r 12 1<|.b 13 24 hb4<|.r 14 1<|.b 15 0 hb2<|.r 16 3<|.nil) (fun a E=>E.fk 75 H (fun c76 E H=>?_) fun c76 E H=>?_)
   refine plc E (.r 19 1<|.b 20 25 hb4<|.r 21 1<|.b 22 10 hb2<|.r 23 3<|.nil) (fun a E=>pld ?_)
   exact J81 _ (by omega) _ (z.f17 == t19.f3) _ _ E .of S H
   refine plc E (.r 19 7 .nil) (fun a E=>pld ?_)
   exact J81 _ (by omega) _ false _ _ E .of S H
   refine plc E (.r 12 14 .nil) (fun a E=>pld ?_)
   exact J81 _ (by omega) _ false _ _ E .of S H
   refine plc E (.r 7 19 .nil) (fun a E=>pld ?_)
   exact J81 _ (by omega) _ false _ _ E .of S H
   refine plc E (.r 3 23 .nil) (fun a E=>pld ?_)
   exact J81 _ (by omega) _ false _ _ E .of S H
  refine pl0 (plc E (.r 0 2 .nil) (fun a E=>E.fb 42 H (fun c61 E H=>?_) fun c61 E H=>?_))
  refine plc E (.r 2 1<|.b 3 0 (S.ba 3)<|.r 4 3<|.nil) (fun a E=>pld ?_)
  exact J66 _ (by omega) _ (z.f0 == 8) _ _ E .of S H
  refine plc E (.r 2 5 .nil) (fun a E=>pld ?_)
  exact J66 _ (by omega) _ false _ _ E .of S H
 refine pl0 (plc E (.r 0 2 .nil) (fun a E=>E.fb 9 H (fun c51 E H=>?_) fun c51 E H=>?_))
 replace E:=E.bt 24 c51
 refine plc E (.r 2 1<|.b 3 0 (S.ba 6)<|.r 4 3<|.nil) (fun a E=>pld ?_)
 replace S:=S.pm [0,1,5,6,2,3,4] 7
 exact J57 _ (by omega) _ true (z.f0 == 7) _ _ E .of S H
 replace E:=E.bf 24 c51
 refine plc E (.r 2 5 .nil) (fun a E=>pld ?_)
 replace S:=S.pm [0,1,5,6,2,3,4] 7
 exact J57 _ (by omega) _ false false _ _ E .of S H
 refine sq fun K14 hK14=>pl0 (plc E (.r 0 1 .nil) (fun a E=>pls E S [iv 0,.slice none 0 0,iv 0,iv 0,iv 0,iv 0,.slice none 0 0,.slice none 0 0,.slice none 0 0,.slice none 0 0,iv 0,.bool false,iv 0,iv 0,.string (⟨#[]⟩:ByteArray),iv 0,iv 0,iv 0,iv 0,iv 0,iv 0,iv 0,iv 0,.bool false,iv 0] fun u15 hb6 S a E=>plc E (.r 2 1 .nil) (fun a E=>pld (hK14 _ _ (wp_ret (qCJ ?_))))))
 replace S:=S.nilrow qAm.k 111
 replace S:=S.pm [0] 4
 obtain rfl:=si H
 exact rtm E (.b hb6 ag55 sz55 (.t .nil)) ⟨_,rfl,_,_,_,_,_,_,_,_,_,_,_,_,_,rfl,S,(Rd.nil _ _),(Rd.nil _ _),(Rd.nil _ _),(Rd.nil _ _),(Rd.nil _ _)⟩
def qAi.f(k:Nat):Option Bool:=(qAc.f k 1 1).bind fun t8=>((client_New.f k 2001 [1001] t8).bind fun t26=>((client_Ask.f k t26.1 0 (⟨4,(⟨#[97]⟩:ByteArray),(⟨0,0⟩:qk),0,0,0⟩:qAf)).bind fun t58=>((client_Hear.f k t58.1 1 (⟨20,0,0,false,[],[],(⟨0,0,0,0,[],[],[]⟩:qF),0,0,0,0,0,[],[],(⟨[],[],0⟩:qBn),false,2001,1,(⟨0,(⟨#[]⟩:ByteArray),(⟨0,0⟩:qk),0,0,0⟩:qAf),(⟨0,false,7⟩:qAO)⟩:qBe)).bind fun t83=>(if t26.2=0 then (if t58.2.2=0 then (if (t58.2.1.length:Int)=1 then (if 0≤(0:Int)∧0<(t58.2.1.length:Int) then (if (nth qAm.z t58.2.1 0).f0=1 then (if t83.1.f4=true then (some false) else (some (t83.1.f9.f2 == 7))) else (some false)) else (none)) else (some false)) else (some false)) else (some false)))))
def qAi.Post(W F:World)(r:Bool)(v:Value)(w':World):Prop:=∃(F':World),v = .bool r∧Sm W F w' F' []
theorem qAi.calls(k:Nat)(r:Bool)(W F:World)(hown:Sub F W)(H:qAi.f k=some r):
    Cr 16 #[] W (qAi.Post W F r):=by
 have S:=sT hown
 unfold qAi.f at H
 refine ent 54 rfl rfl rfl (fun a E=>?_)
 refine rr E fun a E=>(sq fun K2 hK2=>pl0 (ple E (.lit (d:=ki) (e:=3) S [1001] (.cons rfl .nil)) ?_))
 rintro _ u3 a ⟨A4,c5,rfl,S,hg⟩ E
 obtain ⟨t8,h9,H⟩:=bd H
 refine ple E (.cl en49 (qAc.calls k 1 1 _ _ _ S.own.sub h9)) ?_
 rintro _ u7 a ⟨F10,A11,c12,A14,c15,A17,c18,rfl,hC,g13,g16⟩ E
 have hs:=hC.sub
 replace S:=S.called (X:=[]) hC
 replace S:=S.front 1 rfl
 obtain ⟨F21,hs,g22,S⟩:=S.give
 replace g13:=g13.mono hs
 replace g16:=g16.mono hs
 obtain ⟨F23,hs,g24,S⟩:=S.give
 replace g22:=g22.mono hs
 replace g13:=g13.mono hs
 replace g16:=g16.mono hs
 obtain ⟨t26,h27,H⟩:=bd H
 refine ple E (.cl en17 (client_New.calls k 2001 [1001] t8 _ _ _ _ _ _ _ _ _ _ _ S.own.sub g22 g13 g16 g24 h27)) ?_
 rintro _ u25 a ⟨F28,A29,c30,A33,c34,A36,c37,A39,c40,A43,c44,rfl,hC,g35,g38⟩ E
 have hs:=hC.sub
 replace S:=S.called (X:=[]) hC
 replace g22:=g22.mono hs
 replace g13:=g13.mono hs
 replace g16:=g16.mono hs
 replace g24:=g24.mono hs
 refine plc E (.r 3 3 .nil) (fun a E=>pla (t:=55) E S [iv 0,.slice none 0 0,iv 0,iv 0,iv 0,iv 0,.slice none 0 0,.slice none 0 0,.slice none 0 0,.slice none 0 0,iv 0,.bool false,iv 0,iv 0,.string (⟨#[]⟩:ByteArray),iv 0,iv 0,iv 0,iv 0,iv 0,iv 0,iv 0,iv 0,.bool false,iv 0] fun b47 u48 hb47 S a E=>pls E S [iv t26.1.f0,.slice A29 t26.1.f1.length c30,iv t26.1.f2.f0.f0,iv t26.1.f2.f0.f1,iv t26.1.f2.f0.f2,iv t26.1.f2.f0.f3,.slice A33 t26.1.f2.f0.f4.length c34,.slice A36 t26.1.f2.f0.f5.length c37,.slice A39 t26.1.f2.f0.f6.length c40,.slice A43 t26.1.f2.f1.length c44,iv t26.1.f3,.bool t26.1.f4,iv t26.1.f5,iv t26.1.f6.f0,.string t26.1.f6.f1,iv t26.1.f6.f2.f0,iv t26.1.f6.f2.f1,iv t26.1.f6.f3,iv t26.1.f6.f4,iv t26.1.f6.f5,iv t26.1.f7,iv t26.1.f8,iv t26.1.f9.f0,.bool t26.1.f9.f1,iv t26.1.f9.f2] fun u49 hb47 S a E=>plc E (.r 8 1 .nil) (fun a E=>pld (hK2 _ _ (sq fun K50 hK50=>pl0 (plc E (.bn 0 0 25 hb47<|.r 1 1<|.nil) (fun a E=>?_))))))
 replace S:=S.front 1 rfl
 obtain ⟨F51,hs,g52,S⟩:=S.give
 replace g35:=g35.mono hs
 replace g38:=g38.mono hs
 replace g22:=g22.mono hs
 replace g13:=g13.mono hs
 replace g16:=g16.mono hs
 replace g24:=g24.mono hs
 replace S:=S.front 1 rfl
 obtain ⟨F53,hs,g54,S⟩:=S.give
 replace g52:=g52.mono hs
 replace g35:=g35.mono hs
 replace g38:=g38.mono hs
 replace g22:=g22.mono hs
 replace g13:=g13.mono hs
 replace g16:=g16.mono hs
 replace g24:=g24.mono hs
 replace S:=S.front 1 rfl
 obtain ⟨F55,hs,g56,S⟩:=S.give
 replace g52:=g52.mono hs
 replace g35:=g35.mono hs
 replace g38:=g38.mono hs
 replace g54:=g54.mono hs
 replace g22:=g22.mono hs
 replace g13:=g13.mono hs
 replace g16:=g16.mono hs
 replace g24:=g24.mono hs
 obtain ⟨t58,h59,H⟩:=bd H
 refine ple E (.cl en25 (client_Ask.calls k t26.1 0 (⟨4,(⟨#[97]⟩:ByteArray),(⟨0,0⟩:qk),0,0,0⟩:qAf) _ _ _ _ _ _ _ _ _ _ _ _ _ S.own.sub g52 g35 g38 g54 g56 h59)) ?_
 rintro _ u57 a ⟨F60,A61,c62,A64,c65,A67,c68,A70,c71,A73,c74,A76,c77,rfl,hC,g63,g66,g69,g72,g75⟩ E
 have hs:=hC.sub
 replace S:=S.called (X:=[]) hC
 replace g52:=g52.mono hs
 replace g35:=g35.mono hs
 replace g38:=g38.mono hs
 replace g54:=g54.mono hs
 replace g56:=g56.mono hs
 replace g22:=g22.mono hs
 replace g13:=g13.mono hs
 replace g16:=g16.mono hs
 replace g24:=g24.mono hs
 refine plc E (.r 3 4 .nil) (fun a E=>?_)
 replace S:=S.front 1 rfl
 refine pls E S [iv t58.1.f0,.slice A61 t58.1.f1.length c62,iv t58.1.f2.f0.f0,iv t58.1.f2.f0.f1,iv t58.1.f2.f0.f2,iv t58.1.f2.f0.f3,.slice A64 t58.1.f2.f0.f4.length c65,.slice A67 t58.1.f2.f0.f5.length c68,.slice A70 t58.1.f2.f0.f6.length c71,.slice A73 t58.1.f2.f1.length c74,iv t58.1.f3,.bool t58.1.f4,iv t58.1.f5,iv t58.1.f6.f0,.string t58.1.f6.f1,iv t58.1.f6.f2.f0,iv t58.1.f6.f2.f1,iv t58.1.f6.f3,iv t58.1.f6.f4,iv t58.1.f6.f5,iv t58.1.f7,iv t58.1.f8,iv t58.1.f9.f0,.bool t58.1.f9.f1,iv t58.1.f9.f2] fun u80 hb47 S a E=>plc E (.r 8 2 .nil) (fun a E=>pld (hK50 _ _ (sq fun K81 hK81=>pl0 (plc E (.bn 0 0 25 hb47<|.r 1 2<|.nil) (fun a E=>?_)))))
 obtain ⟨t83,h84,H⟩:=bd H
 refine ple E (.cl en28 (client_Hear.calls k t58.1 1 (⟨20,0,0,false,[],[],(⟨0,0,0,0,[],[],[]⟩:qF),0,0,0,0,0,[],[],(⟨[],[],0⟩:qBn),false,2001,1,(⟨0,(⟨#[]⟩:ByteArray),(⟨0,0⟩:qk),0,0,0⟩:qAf),(⟨0,false,7⟩:qAO)⟩:qBe) _ _ _ _ _ _ _ _ _ _ _ _ _ _ _ _ _ _ _ _ _ _ _ _ _ _ _ _ _ _ _ S.own.sub g63 g66 g69 g72 g75 (Rd.nil _ _) (Rd.nil _ _) (Rd.nil _ _) (Rd.nil _ _) (Rd.nil _ _) (Rd.nil _ _) (Rd.nil _ _) (Rd.nil _ _) (Rd.nil _ _) h84)) ?_
 rintro _ u82 a ⟨F85,A86,c87,A89,c90,A92,c93,A95,c96,A98,c99,A101,c102,rfl,hC,g88,g91,g94,g97,g100⟩ E
 have hs:=hC.sub
 replace S:=S.called (X:=[]) hC
 replace g52:=g52.mono hs
 replace g35:=g35.mono hs
 replace g38:=g38.mono hs
 replace g54:=g54.mono hs
 replace g56:=g56.mono hs
 replace g22:=g22.mono hs
 replace g13:=g13.mono hs
 replace g16:=g16.mono hs
 replace g24:=g24.mono hs
 replace g63:=g63.mono hs
 replace g66:=g66.mono hs
 replace g69:=g69.mono hs
 replace g72:=g72.mono hs
 replace g75:=g75.mono hs
 refine plc E (.r 4 3 .nil) (fun a E=>?_)
 replace S:=S.front 1 rfl
 refine pls E S [iv t83.1.f0,.slice A86 t83.1.f1.length c87,iv t83.1.f2.f0.f0,iv t83.1.f2.f0.f1,iv t83.1.f2.f0.f2,iv t83.1.f2.f0.f3,.slice A89 t83.1.f2.f0.f4.length c90,.slice A92 t83.1.f2.f0.f5.length c93,.slice A95 t83.1.f2.f0.f6.length c96,.slice A98 t83.1.f2.f1.length c99,iv t83.1.f3,.bool t83.1.f4,iv t83.1.f5,iv t83.1.f6.f0,.string t83.1.f6.f1,iv t83.1.f6.f2.f0,iv t83.1.f6.f2.f1,iv t83.1.f6.f3,iv t83.1.f6.f4,iv t83.1.f6.f5,iv t83.1.f7,iv t83.1.f8,iv t83.1.f9.f0,.bool t83.1.f9.f1,iv t83.1.f9.f2] fun u105 hb47 S a E=>pld (hK81 _ _ (sq fun K106 hK106=>pl0 (plc E (.r 0 3 .nil) (fun a E=>E.fk 27 H (fun c107 E H=>?_) fun c107 E H=>?_))))
 refine plc E (.r 3 4 .nil) (fun a E=>E.fk 31 H (fun c108 E H=>?_) fun c108 E H=>?_)
 refine plc E (.r 7 5 .nil) (fun a E=>E.fk 36 H (fun c109 E H=>?_) fun c109 E H=>?_)
 obtain ⟨c110,H⟩:=gd H
 have hr111:=S.ra 2
 have hE_:=E
 obtain ⟨b112,rfl⟩:=qCP hr111 c110.1 c110.2
 replace E:=hE_
 have hr_:=S.ra 2
 obtain ⟨cs114,⟨A116,c117,A119,c120,A122,c123,A125,c126,A128,c129,A131,c132,A134,c135,A137,c138,A140,c141,rfl,g118,g121,g124,g127,g130,g133,g136,g139,g142⟩,hc115⟩:=qCO hr_ qAm.z 0 c110.1 c110.2
 refine plc E (.r 12 1<|.x 13 c110<|.r 14 1<|.c 15 (hc115 0 _ rfl)<|.r 16 3<|.nil) (fun a E=>E.fk 43 H (fun c143 E H=>?_) fun c143 E H=>?_)
 refine plc E (.r 19 1<|.b 20 11 hb47<|.r 21 3<|.nil) (fun a E=>E.fbn 48 H (fun c144 E H=>?_) fun c144 E H=>?_)
 refine plc E (.r 24 6 .nil) (fun a E=>pld (hK106 _ _ (wp_ret ?_)))
 replace S:=S.pm [] 3
 obtain rfl:=si H
 exact rt1 E ⟨_,rfl,_,rfl,S⟩
 refine plc E (.r 24 2<|.b 26 24 hb47<|.r 27 3<|.nil) (fun a E=>pld (hK106 _ _ (wp_ret ?_)))
 replace S:=S.pm [] 3
 obtain rfl:=si H
 exact rt1 E ⟨_,rfl,_,rfl,S⟩
 refine plc E (.r 19 11 .nil) (fun a E=>pld (hK106 _ _ (wp_ret ?_)))
 replace S:=S.pm [] 3
 obtain rfl:=si H
 exact rt1 E ⟨_,rfl,_,rfl,S⟩
 refine plc E (.r 12 18 .nil) (fun a E=>pld (hK106 _ _ (wp_ret ?_)))
 replace S:=S.pm [] 3
 obtain rfl:=si H
 exact rt1 E ⟨_,rfl,_,rfl,S⟩
 refine plc E (.r 7 23 .nil) (fun a E=>pld (hK106 _ _ (wp_ret ?_)))
 replace S:=S.pm [] 3
 obtain rfl:=si H
 exact rt1 E ⟨_,rfl,_,rfl,S⟩
 refine plc E (.r 3 27 .nil) (fun a E=>pld (hK106 _ _ (wp_ret ?_)))
 replace S:=S.pm [] 3
 obtain rfl:=si H
 exact rt1 E ⟨_,rfl,_,rfl,S⟩
def qAj.f(x:Int):Option Bool:=if x≥0 then (some (decide (x<2147483648))) else (some false)
def qAj.Post(W F:World)(r:Bool)(v:Value)(w':World):Prop:=∃(F':World),v = .bool r∧Sm W F w' F' []
theorem qAj.calls(x:Int)(r:Bool)(W F:World)(hown:Sub F W)(H:qAj.f x=some r):
    Cr 155 #[iv x] W (qAj.Post W F r):=by
 have S:=sT hown
 unfold qAj.f at H
 refine ent 9 rfl rfl rfl (fun a E=>?_)
 refine rr E fun a E=>(sq fun K2 hK2=>pl0 (plc E (.r 0 3 .nil) (fun a E=>E.fk 5 H (fun c3 E H=>?_) fun c3 E H=>?_)))
 refine plc E (.r 3 4 .nil) (fun a E=>pld (hK2 _ _ (wp_ret ?_)))
 obtain rfl:=si H
 exact rt1 E ⟨_,rfl,_,rfl,S⟩
 refine plc E (.r 3 4 .nil) (fun a E=>pld (hK2 _ _ (wp_ret ?_)))
 obtain rfl:=si H
 exact rt1 E ⟨_,rfl,_,rfl,S⟩
def qBP.f(x:qE):Option qE:=if x.f0=1 then (some (⟨x.f0,x.f1,x.f2,x.f3,x.f4,0,[]⟩:qE)) else (if x.f0=2 then (some (⟨x.f0,x.f1,0,0,x.f4,0,[]⟩:qE)) else (if x.f0=8 then (some (⟨x.f0,0,0,0,0,x.f5,x.f6⟩:qE)) else (if x.f0=9 then (some (⟨x.f0,0,0,0,0,0,[]⟩:qE)) else (if x.f0=10 then (some (⟨x.f0,0,0,0,x.f4,x.f5,[]⟩:qE)) else (some (⟨x.f0,x.f1,0,0,0,0,[]⟩:qE))))))
def qBP.Post(W F:World)(r:qE)(v:Value)(w':World):Prop:=∃(F':World)(RA0_6:OA)(rc0_6:Nat),v = .agg #[iv r.f0,iv r.f1,iv r.f2,iv r.f3,iv r.f4,iv r.f5,.slice RA0_6 r.f6.length rc0_6]∧Sm W F w' F' []∧Rd ki F' RA0_6 rc0_6 r.f6
theorem qBP.calls(x:qE)(A0_6:OA)(c0_6:Nat)(r:qE)(W F:World)(hown:Sub F W)(g0_6:Rd ki F A0_6 c0_6 x.f6)(H:qBP.f x=some r):
    Cr 156 #[.agg #[iv x.f0,iv x.f1,iv x.f2,iv x.f3,iv x.f4,iv x.f5,.slice A0_6 x.f6.length c0_6]] W (qBP.Post W F r):=by
 have S:=sT hown
 unfold qBP.f at H
 refine ent 55 rfl rfl rfl (fun a E=>?_)
 refine sq fun K1 hK1=>pl0 (plx (t:=96) E S [iv x.f0,iv x.f1,iv x.f2,iv x.f3,iv x.f4,iv x.f5,.slice A0_6 x.f6.length c0_6] fun b2 u3 hb2 S a E=>pla (t:=96) E S [iv 0,iv 0,iv 0,iv 0,iv 0,iv 0,.slice none 0 0] fun b4 u5 hb4 S a E=>pld (hK1 _ _ (sq fun K6 hK6=>sq fun K7 hK7=>pl0 ?_)))
 have hb2:=S.ba 1
 refine plc E (.r 0 1<|.b 1 0 hb2<|.nil) (fun a E=>pld (hK7 _ _ (wp_block (rr E fun a E=>(E.ik 5 H (fun c9 E H=>?_) fun c9 E H=>?_)))))
 refine sq fun K10 hK10=>pl0 (plc E (.r 0 1<|.b 1 0 hb2<|.r 2 1<|.b 3 1 hb2<|.r 4 1<|.b 5 2 hb2<|.r 6 1<|.b 7 3 hb2<|.r 8 1<|.b 9 4 hb2<|.r 10 1<|.nil) (fun a E=>pls E S [iv x.f0,iv x.f1,iv x.f2,iv x.f3,iv x.f4,iv 0,.slice none 0 0] fun u11 hb4 S a E=>pld (hK10 _ _ (wp_ret (qCK (qCJ ?_))))))
 replace S:=S.pm [] 2
 obtain rfl:=si H
 exact ret1 E rfl (.cell (by kernel_rfl) (qCW [iv x.f0,iv x.f1,iv x.f2,iv x.f3,iv x.f4,iv 0,.slice none 0 0] ag96 sz96 hb4 rfl) .nil) ⟨_,rfl,_,_,_,rfl,S,(Rd.nil _ _)⟩
 refine rr E fun a E=>(E.ik 18 H (fun c13 E H=>?_) fun c13 E H=>?_)
 refine sq fun K14 hK14=>pl0 (plc E (.r 0 1<|.b 1 0 hb2<|.r 2 1<|.b 3 1 hb2<|.r 4 1<|.b 5 4 hb2<|.r 6 1<|.nil) (fun a E=>pls E S [iv x.f0,iv x.f1,iv 0,iv 0,iv x.f4,iv 0,.slice none 0 0] fun u15 hb4 S a E=>pld (hK14 _ _ (wp_ret (qCK (qCJ ?_))))))
 replace S:=S.pm [] 2
 obtain rfl:=si H
 exact ret1 E rfl (.cell (by kernel_rfl) (qCW [iv x.f0,iv x.f1,iv 0,iv 0,iv x.f4,iv 0,.slice none 0 0] ag96 sz96 hb4 rfl) .nil) ⟨_,rfl,_,_,_,rfl,S,(Rd.nil _ _)⟩
 refine rr E fun a E=>(E.ik 27 H (fun c17 E H=>?_) fun c17 E H=>?_)
 refine sq fun K18 hK18=>pl0 (plc E (.r 0 1<|.b 1 0 hb2<|.r 2 1<|.b 3 5 hb2<|.r 4 1<|.b 5 6 hb2<|.r 6 1<|.nil) (fun a E=>pls E S [iv x.f0,iv 0,iv 0,iv 0,iv 0,iv x.f5,.slice A0_6 x.f6.length c0_6] fun u19 hb4 S a E=>pld (hK18 _ _ (wp_ret (qCK (qCJ ?_))))))
 replace S:=S.pm [] 2
 obtain rfl:=si H
 exact ret1 E rfl (.cell (by kernel_rfl) (qCW [iv x.f0,iv 0,iv 0,iv 0,iv 0,iv x.f5,.slice A0_6 x.f6.length c0_6] ag96 sz96 hb4 rfl) .nil) ⟨_,rfl,_,_,_,rfl,S,g0_6⟩
 refine rr E fun a E=>(E.ik 36 H (fun c21 E H=>?_) fun c21 E H=>?_)
 refine sq fun K22 hK22=>pl0 (plc E (.r 0 1<|.b 1 0 hb2<|.r 2 1<|.nil) (fun a E=>pls E S [iv x.f0,iv 0,iv 0,iv 0,iv 0,iv 0,.slice none 0 0] fun u23 hb4 S a E=>pld (hK22 _ _ (wp_ret (qCK (qCJ ?_))))))
 replace S:=S.pm [] 2
 obtain rfl:=si H
 exact ret1 E rfl (.cell (by kernel_rfl) (qCW [iv x.f0,iv 0,iv 0,iv 0,iv 0,iv 0,.slice none 0 0] ag96 sz96 hb4 rfl) .nil) ⟨_,rfl,_,_,_,rfl,S,(Rd.nil _ _)⟩
 refine rr E fun a E=>(E.ik 41 H (fun c25 E H=>?_) fun c25 E H=>?_)
 refine sq fun K26 hK26=>pl0 (plc E (.r 0 1<|.b 1 0 hb2<|.r 2 1<|.b 3 5 hb2<|.r 4 1<|.b 5 4 hb2<|.r 6 1<|.nil) (fun a E=>pls E S [iv x.f0,iv 0,iv 0,iv 0,iv x.f4,iv x.f5,.slice none 0 0] fun u27 hb4 S a E=>pld (hK26 _ _ (wp_ret (qCK (qCJ ?_))))))
 replace S:=S.pm [] 2
 obtain rfl:=si H
 exact ret1 E rfl (.cell (by kernel_rfl) (qCW [iv x.f0,iv 0,iv 0,iv 0,iv x.f4,iv x.f5,.slice none 0 0] ag96 sz96 hb4 rfl) .nil) ⟨_,rfl,_,_,_,rfl,S,(Rd.nil _ _)⟩
 refine wp_skip ?_
 refine qCL ?_
 refine hK6 _ _ (sq fun K28 hK28=>pl0 (plc E (.r 0 1<|.b 1 0 hb2<|.r 2 1<|.b 3 1 hb2<|.r 4 1<|.nil) (fun a E=>pls E S [iv x.f0,iv x.f1,iv 0,iv 0,iv 0,iv 0,.slice none 0 0] fun u29 hb4 S a E=>pld (hK28 _ _ (wp_ret ?_)))))
 replace S:=S.pm [] 2
 obtain rfl:=si H
 exact ret1 E rfl (.cell (by kernel_rfl) (qCW [iv x.f0,iv x.f1,iv 0,iv 0,iv 0,iv 0,.slice none 0 0] ag96 sz96 hb4 rfl) .nil) ⟨_,rfl,_,_,_,rfl,S,(Rd.nil _ _)⟩
def qv.l9:Nat→List Int→List Int→Int→Option Bool
 | 0,_,_,_=>none
 | k+1,x,y,x8=>if x8<(x.length:Int) then (if 0≤x8∧x8<(x.length:Int) then (if 0≤x8∧x8<(y.length:Int) then (if (nth 0 x x8)=(nth 0 y x8) then (qv.l9 k x y (w64 (x8+1))) else (some false)) else (none)) else (none)) else (some true)
theorem qv.l9_s k x y x8:type_of% (qv.l9.eq_2 x y x8 k):=qv.l9.eq_2 x y x8 k
def qv.f(k:Nat)(x:List Int)(y:List Int):Option Bool:=if (x.length:Int)=(y.length:Int) then (qv.l9 k x y 0) else (some false)
def qv.Post(W F:World)(r:Bool)(v:Value)(w':World):Prop:=∃(F':World),v = .bool r∧Sm W F w' F' []
theorem qv.calls(k:Nat)(x:List Int)(y:List Int)(A0_0:OA)(c0_0:Nat)(A1_0:OA)(c1_0:Nat)(r:Bool)(W F:World)(hown:Sub F W)(g0_0:Rd ki F A0_0 c0_0 x)(g1_0:Rd ki F A1_0 c1_0 y)(H:qv.f k x y=some r):
    Cr 43 #[.slice A0_0 x.length c0_0,.slice A1_0 y.length c1_0] W (qv.Post W F r):=by
 have S:=sT hown
 unfold qv.f at H
 refine ent 26 rfl rfl rfl (fun a E=>?_)
 refine rr E fun a E=>(sq fun K2 hK2=>rr E fun a E=>(E.ikn 10 H (fun c4 E H=>?_) fun c4 E H=>?_))
 refine wp_skip (hK2 _ _ (sq fun K6 hK6=>rr E fun a E=>(wp_block ?_)))
 refine wp_loop_ghost (fun kq10 a w'=>∃(G:NV)(x8:Int),kq10≤k∧Env 26 G a∧At G [(0,.slice A0_0 x.length c0_0),(1,.slice A1_0 y.length c1_0),(5,iv x8)]∧Sm W F w' F []∧qv.l9 kq10 x y x8=some r) k ⟨_,0,Nat.le_refl _,E,.of,S,H⟩ ?_
 rintro kq10 a u12 ⟨G,x8,hkq,E,A,S,H⟩
 obtain _ | k11:=kq10
 exact zz H
 rw [qv.l9_s]at H
 obtain ⟨J,E⟩:=E.at A
 refine sq fun K13 hK13=>rr E fun a E=>(E.ik 14 H (fun c15 E H=>?_) fun c15 E H=>?_)
 refine wp_skip (hK13 _ _ (sq fun K16 hK16=>wp_block (sq fun K17 hK17=>?_)))
 refine drawn 9 ⟨[],[],fun q=>False⟩ mixed rfl (by kernel_rfl) (fun hst=>?_)
 replace S:=S.drew
 obtain ⟨c18,H⟩:=gd H
 have hE_:=E
 obtain ⟨ad19,rfl⟩:=g0_0.addr c18.1 c18.2
 replace E:=hE_
 obtain ⟨cs21,rfl,hc22⟩:=g0_0.el 0 x8 c18.1 c18.2
 obtain ⟨c23,H⟩:=gd H
 have hE_:=E
 obtain ⟨ad24,rfl⟩:=g1_0.addr c23.1 c23.2
 replace E:=hE_
 obtain ⟨cs26,rfl,hc27⟩:=g1_0.el 0 x8 c23.1 c23.2
 refine mny 0 hst E (.r 0 2<|.x 2 c18<|.c 3 (S.fc hc22 0)<|.r 4 2<|.x 6 c23<|.c 7 (S.fc hc27 0)<|.r 8 1<|.nil) (fun a E=>?_)
 refine dn ?_
 refine hK17 _ _ (E.ikn 25 H (fun c28 E H=>?_) fun c28 E H=>?_)
 refine wp_skip ?_
 refine qCL ?_
 refine hK16 _ _ (pl0 (plc E (.r 0 3 .nil) (fun a E=>pld ?_)))
 exact qCM ⟨k11,by omega,_,(w64 (x8+1)),by omega,E,.of,S,H⟩
 refine rr E fun a E=>(wp_ret (qCK (qCJ (qCJ (qCK (qCJ ?_))))))
 obtain rfl:=si H
 exact rt1 E ⟨_,rfl,_,rfl,S⟩
 refine wp_exit ?_
 refine hK6 _ _ (rr E fun a E=>(wp_ret ?_))
 obtain rfl:=si H
 exact rt1 E ⟨_,rfl,_,rfl,S⟩
 refine rr E fun a E=>(wp_ret (qCJ ?_))
 obtain rfl:=si H
 exact rt1 E ⟨_,rfl,_,rfl,S⟩
def qAt.f(k:Nat)(x:qE)(y:qE):Option Bool:=if x.f0=y.f0 then (if x.f1=y.f1 then (if x.f2=y.f2 then (if x.f3=y.f3 then (if x.f4=y.f4 then (if x.f5=y.f5 then ((qv.f k x.f6 y.f6).bind fun t14=>(some t14)) else (some false)) else (some false)) else (some false)) else (some false)) else (some false)) else (some false)
def qAt.Post(W F:World)(r:Bool)(v:Value)(w':World):Prop:=∃(F':World),v = .bool r∧Sm W F w' F' []
theorem qAt.calls(k:Nat)(x:qE)(y:qE)(A0_6:OA)(c0_6:Nat)(A1_6:OA)(c1_6:Nat)(r:Bool)(W F:World)(hown:Sub F W)(g0_6:Rd ki F A0_6 c0_6 x.f6)(g1_6:Rd ki F A1_6 c1_6 y.f6)(H:qAt.f k x y=some r):
    Cr 108 #[.agg #[iv x.f0,iv x.f1,iv x.f2,iv x.f3,iv x.f4,iv x.f5,.slice A0_6 x.f6.length c0_6],.agg #[iv y.f0,iv y.f1,iv y.f2,iv y.f3,iv y.f4,iv y.f5,.slice A1_6 y.f6.length c1_6]] W (qAt.Post W F r):=by
 have S:=sT hown
 unfold qAt.f at H
 refine ent 52 rfl rfl rfl (fun a E=>?_)
 refine sq fun K1 hK1=>pl0 (plx (t:=96) E S [iv x.f0,iv x.f1,iv x.f2,iv x.f3,iv x.f4,iv x.f5,.slice A0_6 x.f6.length c0_6] fun b2 u3 hb2 S a E=>plx (t:=96) E S [iv y.f0,iv y.f1,iv y.f2,iv y.f3,iv y.f4,iv y.f5,.slice A1_6 y.f6.length c1_6] fun b4 u5 hb4 S a E=>plc E (.r 2 1 .nil) (fun a E=>pld (hK1 _ _ (sq fun K6 hK6=>pl0 ?_))))
 have hb2:=S.ba 1
 refine plc E (.r 0 1<|.b 1 0 hb2<|.r 2 1<|.b 3 0 hb4<|.r 4 2<|.nil) (fun a E=>E.fk 10 H (fun c7 E H=>?_) fun c7 E H=>?_)
 refine plc E (.r 6 1<|.b 7 1 hb2<|.r 8 1<|.b 9 1 hb4<|.r 10 3<|.nil) (fun a E=>E.fk 17 H (fun c8 E H=>?_) fun c8 E H=>?_)
 refine plc E (.r 13 1<|.b 14 2 hb2<|.r 15 1<|.b 16 2 hb4<|.r 17 3<|.nil) (fun a E=>E.fk 24 H (fun c9 E H=>?_) fun c9 E H=>?_)
 refine plc E (.r 20 1<|.b 21 3 hb2<|.r 22 1<|.b 23 3 hb4<|.r 24 3<|.nil) (fun a E=>E.fk 31 H (fun c10 E H=>?_) fun c10 E H=>?_)
 refine plc E (.r 27 1<|.b 28 4 hb2<|.r 29 1<|.b 30 4 hb4<|.r 31 3<|.nil) (fun a E=>E.fk 38 H (fun c11 E H=>?_) fun c11 E H=>?_)
 refine plc E (.r 34 1<|.b 35 5 hb2<|.r 36 1<|.b 37 5 hb4<|.r 38 3<|.nil) (fun a E=>E.fk 45 H (fun c12 E H=>?_) fun c12 E H=>?_)
 refine plc E (.r 41 1<|.b 42 6 hb2<|.r 43 1<|.b 44 6 hb4<|.nil) (fun a E=>?_)
 obtain ⟨t14,h15,H⟩:=bd H
 refine plq E S en43 (qv.calls k x.f6 y.f6 _ _ _ _ _ _ _ S.own.sub g0_6 g1_6 h15) fun u13 S a E=>plc E (.r 46 2 .nil) (fun a E=>pld (hK6 _ _ (wp_ret ?_)))
 replace S:=S.pm [] 2
 obtain rfl:=si H
 exact rt1 E ⟨_,rfl,_,rfl,S⟩
 refine plc E (.r 41 7 .nil) (fun a E=>pld (hK6 _ _ (wp_ret ?_)))
 replace S:=S.pm [] 2
 obtain rfl:=si H
 exact rt1 E ⟨_,rfl,_,rfl,S⟩
 refine plc E (.r 34 14 .nil) (fun a E=>pld (hK6 _ _ (wp_ret ?_)))
 replace S:=S.pm [] 2
 obtain rfl:=si H
 exact rt1 E ⟨_,rfl,_,rfl,S⟩
 refine plc E (.r 27 21 .nil) (fun a E=>pld (hK6 _ _ (wp_ret ?_)))
 replace S:=S.pm [] 2
 obtain rfl:=si H
 exact rt1 E ⟨_,rfl,_,rfl,S⟩
 refine plc E (.r 20 28 .nil) (fun a E=>pld (hK6 _ _ (wp_ret ?_)))
 replace S:=S.pm [] 2
 obtain rfl:=si H
 exact rt1 E ⟨_,rfl,_,rfl,S⟩
 refine plc E (.r 13 35 .nil) (fun a E=>pld (hK6 _ _ (wp_ret ?_)))
 replace S:=S.pm [] 2
 obtain rfl:=si H
 exact rt1 E ⟨_,rfl,_,rfl,S⟩
 refine plc E (.r 6 42 .nil) (fun a E=>pld (hK6 _ _ (wp_ret ?_)))
 replace S:=S.pm [] 2
 obtain rfl:=si H
 exact rt1 E ⟨_,rfl,_,rfl,S⟩
def qAd.l7:Nat→qE→Int→Option Bool
 | 0,_,_=>none
 | k+1,x,x6=>if x6<(x.f6.length:Int) then (if 0≤x6∧x6<(x.f6.length:Int) then ((qAj.f (nth 0 x.f6 x6)).bind fun t22=>(if t22=true then (qAd.l7 k x (w64 (x6+1))) else (some false))) else (none)) else (if x.f0≥1 then (if x.f0≤10 then ((qBP.f x).bind fun t30=>((qAt.f k x t30).bind fun t37=>(if t37=true then (if (x.f6.length:Int)≤3 then ((qAj.f x.f1).bind fun t42=>(if t42=true then ((qAj.f x.f2).bind fun t46=>(if t46=true then ((qAj.f x.f3).bind fun t50=>(if t50=true then ((qAj.f x.f4).bind fun t54=>(if t54=true then ((qAj.f x.f5).bind fun t58=>(some t58)) else (some false))) else (some false))) else (some false))) else (some false))) else (some false)) else (some false)))) else (some false)) else (some false))
theorem qAd.l7_s k x x6:type_of% (qAd.l7.eq_2 x x6 k):=qAd.l7.eq_2 x x6 k
def qAd.f(k:Nat)(x:qE):Option Bool:=qAd.l7 k x 0
def qAd.Post(W F:World)(r:Bool)(v:Value)(w':World):Prop:=∃(F':World),v = .bool r∧Sm W F w' F' []
theorem qAd.calls(k:Nat)(x:qE)(A0_6:OA)(c0_6:Nat)(r:Bool)(W F:World)(hown:Sub F W)(g0_6:Rd ki F A0_6 c0_6 x.f6)(H:qAd.f k x=some r):
    Cr 115 #[.agg #[iv x.f0,iv x.f1,iv x.f2,iv x.f3,iv x.f4,iv x.f5,.slice A0_6 x.f6.length c0_6]] W (qAd.Post W F r):=by
 have S:=sT hown
 unfold qAd.f at H
 refine ent 63 rfl rfl rfl (fun a E=>?_)
 refine sq fun K1 hK1=>pl0 (plx (t:=96) E S [iv x.f0,iv x.f1,iv x.f2,iv x.f3,iv x.f4,iv x.f5,.slice A0_6 x.f6.length c0_6] fun b2 u3 hb2 S a E=>plc E (.r 1 1 .nil) (fun a E=>pld (hK1 _ _ (sq fun K4 hK4=>rr E fun a E=>(wp_block ?_)))))
 refine wp_loop_ghost (fun kq8 a w'=>∃(G:NV)(x6:Int),kq8≤k∧Env 63 G a∧At G [(1,.pointer (pb b2)),(3,iv x6)]∧Sm W F w' F [box b2 #[iv x.f0,iv x.f1,iv x.f2,iv x.f3,iv x.f4,iv x.f5,.slice A0_6 x.f6.length c0_6] 96]∧qAd.l7 kq8 x x6=some r) k ⟨_,0,Nat.le_refl _,E,.of,S,H⟩ ?_
 rintro kq8 a u10 ⟨G,x6,hkq,E,A,S,H⟩
 obtain _ | k9:=kq8
 exact zz H
 rw [qAd.l7_s]at H
 obtain ⟨J,E⟩:=E.at A
 refine sq fun K11 hK11=>sq fun K12 hK12=>pl0 ?_
 have hb2:=S.ba 0
 refine plc E (.r 0 2<|.b 2 6 hb2<|.r 3 2<|.nil) (fun a E=>pld (hK12 _ _ (E.ik 8 H (fun c13 E H=>?_) fun c13 E H=>?_)))
 refine wp_skip (hK11 _ _ (sq fun K14 hK14=>wp_block (sq fun K15 hK15=>pl0 ?_)))
 obtain ⟨c16,H⟩:=gd H
 have hE_:=E
 obtain ⟨ad17,rfl⟩:=g0_6.addr c16.1 c16.2
 replace E:=hE_
 obtain ⟨cs19,rfl,hc20⟩:=g0_6.el 0 x6 c16.1 c16.2
 refine plc E (.r 0 1<|.b 1 6 hb2<|.r 2 1<|.x 3 c16<|.c 4 (S.fc hc20 0)<|.nil) (fun a E=>?_)
 obtain ⟨t22,h23,H⟩:=bd H
 refine plq E S en155 (qAj.calls (nth 0 x.f6 x6) _ _ _ S.own.sub h23) fun u21 S a E=>plc E (.r 6 1 .nil) (fun a E=>pld (hK15 _ _ (E.ibn 17 H (fun c24 E H=>?_) fun c24 E H=>?_)))
 refine wp_skip ?_
 refine qCL ?_
 refine hK14 _ _ (pl0 (plc E (.r 0 3 .nil) (fun a E=>pld ?_)))
 exact qCM ⟨k9,by omega,_,(w64 (x6+1)),by omega,E,.of,S,H⟩
 refine rr E fun a E=>(wp_ret (qCK (qCJ (qCJ (qCK (qCJ ?_))))))
 replace S:=S.tail
 obtain rfl:=si H
 exact rt1 E ⟨_,rfl,_,rfl,S⟩
 refine wp_exit ?_
 refine hK4 _ _ (sq fun K26 hK26=>?_)
 refine drawn 46 ⟨[],[],fun q=>False⟩ mixed rfl (by kernel_rfl) (fun hst=>?_)
 replace S:=S.drew
 have hb2:=S.ba 0
 refine mny 42 hst E (.r 0 1<|.b 1 0 hb2<|.r 2 2<|.nil) (fun a E=>?_)
 refine E.fk 21 H (fun c27 E H=>?_) fun c27 E H=>?_
 refine mny 37 hst E (.r 4 1<|.b 5 0 hb2<|.r 6 3<|.nil) (fun a E=>?_)
 refine E.fk 26 H (fun c28 E H=>?_) fun c28 E H=>?_
 refine mny 35 hst E (.bn 9 0 7 hb2<|.bn 10 0 7 hb2<|.nil) (fun a E=>?_)
 obtain ⟨t30,h31,H⟩:=bd H
 refine on1 11 E (.cl en156 (qBP.calls x _ _ _ _ _ S.own.sub g0_6 h31)) ?_
 rintro _ u29 a ⟨F32,A33,c34,rfl,hC,g35⟩ E
 refine ⟨.of hC.agr,?_⟩
 have hs:=hC.sub
 replace S:=S.called (X:=[]) hC
 replace g0_6:=g0_6.mono hs
 obtain ⟨t37,h38,H⟩:=bd H
 refine on1 12 E (.cl en108 (qAt.calls k9 x t30 _ _ _ _ _ _ _ S.own.sub g0_6 g35 h38)) ?_
 rintro _ u36 a ⟨_,rfl,hC⟩ E
 refine ⟨.of hC.agr,?_⟩
 replace S:=S.lent hC
 refine mny 31 hst E (.r 13 2 .nil) (fun a E=>?_)
 refine E.fb 32 H (fun c39 E H=>?_) fun c39 E H=>?_
 have hb2:=S.ba 0
 refine mny 25 hst E (.r 15 1<|.b 16 6 hb2<|.r 17 4<|.nil) (fun a E=>?_)
 refine E.fk 38 H (fun c40 E H=>?_) fun c40 E H=>?_
 refine mny 23 hst E (.r 21 1<|.b 22 1 hb2<|.nil) (fun a E=>?_)
 obtain ⟨t42,h43,H⟩:=bd H
 refine on1 23 E (.cl en155 (qAj.calls x.f1 _ _ _ S.own.sub h43)) ?_
 rintro _ u41 a ⟨_,rfl,hC⟩ E
 refine ⟨.of hC.agr,?_⟩
 replace S:=S.lent hC
 refine mny 20 hst E (.r 24 2 .nil) (fun a E=>?_)
 refine E.fb 43 H (fun c44 E H=>?_) fun c44 E H=>?_
 have hb2:=S.ba 0
 refine mny 18 hst E (.r 26 1<|.b 27 2 hb2<|.nil) (fun a E=>?_)
 obtain ⟨t46,h47,H⟩:=bd H
 refine on1 28 E (.cl en155 (qAj.calls x.f2 _ _ _ S.own.sub h47)) ?_
 rintro _ u45 a ⟨_,rfl,hC⟩ E
 refine ⟨.of hC.agr,?_⟩
 replace S:=S.lent hC
 refine mny 15 hst E (.r 29 2 .nil) (fun a E=>?_)
 refine E.fb 48 H (fun c48 E H=>?_) fun c48 E H=>?_
 have hb2:=S.ba 0
 refine mny 13 hst E (.r 31 1<|.b 32 3 hb2<|.nil) (fun a E=>?_)
 obtain ⟨t50,h51,H⟩:=bd H
 refine on1 33 E (.cl en155 (qAj.calls x.f3 _ _ _ S.own.sub h51)) ?_
 rintro _ u49 a ⟨_,rfl,hC⟩ E
 refine ⟨.of hC.agr,?_⟩
 replace S:=S.lent hC
 refine mny 10 hst E (.r 34 2 .nil) (fun a E=>?_)
 refine E.fb 53 H (fun c52 E H=>?_) fun c52 E H=>?_
 have hb2:=S.ba 0
 refine mny 8 hst E (.r 36 1<|.b 37 4 hb2<|.nil) (fun a E=>?_)
 obtain ⟨t54,h55,H⟩:=bd H
 refine on1 38 E (.cl en155 (qAj.calls x.f4 _ _ _ S.own.sub h55)) ?_
 rintro _ u53 a ⟨_,rfl,hC⟩ E
 refine ⟨.of hC.agr,?_⟩
 replace S:=S.lent hC
 refine mny 5 hst E (.r 39 2 .nil) (fun a E=>?_)
 refine E.fb 58 H (fun c56 E H=>?_) fun c56 E H=>?_
 have hb2:=S.ba 0
 refine mny 3 hst E (.r 41 1<|.b 42 5 hb2<|.nil) (fun a E=>?_)
 obtain ⟨t58,h59,H⟩:=bd H
 refine on1 43 E (.cl en155 (qAj.calls x.f5 _ _ _ S.own.sub h59)) ?_
 rintro _ u57 a ⟨_,rfl,hC⟩ E
 refine ⟨.of hC.agr,?_⟩
 replace S:=S.lent hC
 refine mny 0 hst E (.r 44 2 .nil) (fun a E=>?_)
 refine dn ?_
 refine hK26 _ _ (wp_ret ?_)
 replace S:=S.tail
 obtain rfl:=si H
 exact rt1 E ⟨_,rfl,_,rfl,S⟩
 refine mny 0 hst E (.r 41 5 .nil) (fun a E=>?_)
 refine dn ?_
 refine hK26 _ _ (wp_ret ?_)
 replace S:=S.tail
 obtain rfl:=si H
 exact rt1 E ⟨_,rfl,_,rfl,S⟩
 refine mny 0 hst E (.r 36 10 .nil) (fun a E=>?_)
 refine dn ?_
 refine hK26 _ _ (wp_ret ?_)
 replace S:=S.tail
 obtain rfl:=si H
 exact rt1 E ⟨_,rfl,_,rfl,S⟩
 refine mny 0 hst E (.r 31 15 .nil) (fun a E=>?_)
 refine dn ?_
 refine hK26 _ _ (wp_ret ?_)
 replace S:=S.tail
 obtain rfl:=si H
 exact rt1 E ⟨_,rfl,_,rfl,S⟩
 refine mny 0 hst E (.r 26 20 .nil) (fun a E=>?_)
 refine dn ?_
 refine hK26 _ _ (wp_ret ?_)
 replace S:=S.tail
 obtain rfl:=si H
 exact rt1 E ⟨_,rfl,_,rfl,S⟩
 refine mny 0 hst E (.r 21 25 .nil) (fun a E=>?_)
 refine dn ?_
 refine hK26 _ _ (wp_ret ?_)
 replace S:=S.tail
 obtain rfl:=si H
 exact rt1 E ⟨_,rfl,_,rfl,S⟩
 refine mny 0 hst E (.r 15 31 .nil) (fun a E=>?_)
 refine dn ?_
 refine hK26 _ _ (wp_ret ?_)
 replace S:=S.tail
 obtain rfl:=si H
 exact rt1 E ⟨_,rfl,_,rfl,S⟩
 refine mny 0 hst E (.r 9 37 .nil) (fun a E=>?_)
 refine dn ?_
 refine hK26 _ _ (wp_ret ?_)
 replace S:=S.tail
 obtain rfl:=si H
 exact rt1 E ⟨_,rfl,_,rfl,S⟩
 refine mny 0 hst E (.r 4 42 .nil) (fun a E=>?_)
 refine dn ?_
 refine hK26 _ _ (wp_ret ?_)
 replace S:=S.tail
 obtain rfl:=si H
 exact rt1 E ⟨_,rfl,_,rfl,S⟩
mutual
def qh.l5:Nat→List qA→Int→Option Bool
 | 0,_,_=>none
 | k+1,x,x4=>if x4<(x.length:Int) then (if 0≤x4∧x4<(x.length:Int) then (if (nth qA.z x x4).f0<1 then (qh.j37 k x x4 true) else (if (nth qA.z x x4).f0>999 then (qh.j37 k x x4 true) else (if (nth qA.z x x4).f1<1 then (qh.j37 k x x4 true) else (if (nth qA.z x x4).f1>9 then (qh.j37 k x x4 true) else (if (nth qA.z x x4).f2<1 then (qh.j37 k x x4 true) else (if (nth qA.z x x4).f2>9 then (qh.j37 k x x4 true) else (if (nth qA.z x x4).f3<0 then (qh.j37 k x x4 true) else (if (nth qA.z x x4).f3>65536 then (qh.j37 k x x4 true) else (if x4>0 then (if 0≤(w64 (x4 - 1))∧(w64 (x4 - 1))<(x.length:Int) then (qh.j37 k x x4 (decide ((nth qA.z x (w64 (x4 - 1))).f0≥(nth qA.z x x4).f0))) else (none)) else (qh.j37 k x x4 false)))))))))) else (none)) else (some (decide ((x.length:Int)≤12)))
def qh.j37:Nat→List qA→Int→Bool→Option Bool
 | 0,_,_,_=>none
 | k+1,x,x4,y36=>if y36=true then (some false) else (qh.l5 k x (w64 (x4+1)))
end
theorem qh.l5_s k x x4:type_of% (qh.l5.eq_2 x x4 k):=qh.l5.eq_2 x x4 k
theorem qh.j37_s k x x4 y36:type_of% (qh.j37.eq_2 x x4 y36 k):=qh.j37.eq_2 x x4 y36 k
def qh.f(k:Nat)(x:List qA):Option Bool:=qh.l5 k x 0
def qh.Post(W F:World)(r:Bool)(v:Value)(w':World):Prop:=∃(F':World),v = .bool r∧Sm W F w' F' []
theorem qh.calls(k:Nat)(x:List qA)(A0_0:OA)(c0_0:Nat)(r:Bool)(W F:World)(hown:Sub F W)(g0_0:Rd qA.k F A0_0 c0_0 x)(H:qh.f k x=some r):
    Cr 39 #[.slice A0_0 x.length c0_0] W (qh.Post W F r):=by
 have S:=sT hown
 unfold qh.f at H
 refine ent 71 rfl rfl rfl (fun a E=>?_)
 refine rr E fun a E=>(sq fun K2 hK2=>rr E fun a E=>(wp_block ?_))
 refine wp_loop_ghost (fun kq6 a w'=>∃(G:NV)(x4:Int),kq6≤k∧Env 71 G a∧At G [(0,.slice A0_0 x.length c0_0),(3,iv x4)]∧Sm W F w' F []∧qh.l5 kq6 x x4=some r) k ⟨_,0,Nat.le_refl _,E,.of,S,H⟩ ?_
 rintro kq6 a u8 ⟨G,x4,hkq,E,A,S,H⟩
 obtain _ | k7:=kq6
 exact zz H
 rw [qh.l5_s]at H
 obtain ⟨J,E⟩:=E.at A
 refine sq fun K9 hK9=>rr E fun a E=>(E.ik 8 H (fun c11 E H=>?_) fun c11 E H=>?_)
 refine wp_skip (hK9 _ _ (sq fun K12 hK12=>wp_block (sq fun K13 hK13=>pl0 ?_)))
 obtain ⟨c14,H⟩:=gd H
 have hE_:=E
 obtain ⟨ad15,rfl⟩:=g0_0.addr c14.1 c14.2
 replace E:=hE_
 obtain ⟨cs17,rfl,hc18⟩:=g0_0.el qA.z x4 c14.1 c14.2
 refine plc E (.r 0 2<|.x 2 c14<|.cs 3 (S.fcs hc18)<|.nil) (fun a E=>pla (t:=153) E S [iv 0,iv 0,iv 0,iv 0,.bool false,.bool false] fun b19 u20 hb19 S a E=>pls E S [iv ((nth qA.z x x4).f0),iv ((nth qA.z x x4).f1),iv ((nth qA.z x x4).f2),iv ((nth qA.z x x4).f3),.bool ((nth qA.z x x4).f4),.bool ((nth qA.z x x4).f5)] fun u21 hb19 S a E=>pld (hK13 _ _ (sq fun K22 hK22=>?_)))
 have J40:∀ kq38,kq38≤k7→∀(G:NV)(y36:Bool)(a:Act)(w':World),Env 71 G a→At G [(0,.slice (some ad15) x.length c0_0),(3,iv x4),(67,.bool y36)]→Sm W F w' F [box b19 #[iv ((nth qA.z x x4).f0),iv ((nth qA.z x x4).f1),iv ((nth qA.z x x4).f2),iv ((nth qA.z x x4).f3),.bool ((nth qA.z x x4).f4),.bool ((nth qA.z x x4).f5)] 153]→qh.j37 kq38 x x4 y36=some r→K22 a w':=by
  intro kq38 hkq G y36 a u41 E A S H
  obtain _ | k39:=kq38
  exact zz H
  rw [qh.j37_s]at H
  obtain ⟨J,E⟩:=E.at A
  refine hK22 _ _ (E.ib 67 H (fun c42 E H=>?_) fun c42 E H=>?_)
  refine rr E fun a E=>(wp_ret (qCK (qCJ (qCJ (qCK (qCJ ?_))))))
  replace S:=S.tail
  obtain rfl:=si H
  exact rt1 E ⟨_,rfl,_,rfl,S⟩
  refine wp_skip ?_
  refine qCL ?_
  refine hK12 _ _ (pl0 (plc E (.r 0 3 .nil) (fun a E=>pld ?_)))
  replace S:=S.tail
  exact qCM ⟨k39,by omega,_,(w64 (x4+1)),by omega,E,.of,S,H⟩
 refine drawn 53 ⟨[],[],fun q=>False⟩ mixed rfl (by kernel_rfl) (fun hst=>?_)
 replace S:=S.drew
 have hb19:=S.ba 0
 refine mny 49 hst E (.r 0 1<|.b 1 0 hb19<|.r 2 2<|.nil) (fun a E=>?_)
 refine E.fk 18 H (fun c23 E H=>?_) fun c23 E H=>?_
 refine mny 0 hst E (.r 4 49 .nil) (fun a E=>?_)
 refine dn ?_
 exact J40 _ (by omega) _ true _ _ E .of S H
 refine mny 44 hst E (.r 4 1<|.b 5 0 hb19<|.r 6 3<|.nil) (fun a E=>?_)
 refine E.fk 23 H (fun c24 E H=>?_) fun c24 E H=>?_
 refine mny 0 hst E (.r 9 44 .nil) (fun a E=>?_)
 refine dn ?_
 exact J40 _ (by omega) _ true _ _ E .of S H
 refine mny 39 hst E (.r 9 1<|.b 10 1 hb19<|.r 11 3<|.nil) (fun a E=>?_)
 refine E.fk 28 H (fun c25 E H=>?_) fun c25 E H=>?_
 refine mny 0 hst E (.r 14 39 .nil) (fun a E=>?_)
 refine dn ?_
 exact J40 _ (by omega) _ true _ _ E .of S H
 refine mny 34 hst E (.r 14 1<|.b 15 1 hb19<|.r 16 3<|.nil) (fun a E=>?_)
 refine E.fk 33 H (fun c26 E H=>?_) fun c26 E H=>?_
 refine mny 0 hst E (.r 19 34 .nil) (fun a E=>?_)
 refine dn ?_
 exact J40 _ (by omega) _ true _ _ E .of S H
 refine mny 29 hst E (.r 19 1<|.b 20 2 hb19<|.r 21 3<|.nil) (fun a E=>?_)
 refine E.fk 38 H (fun c27 E H=>?_) fun c27 E H=>?_
 refine mny 0 hst E (.r 24 29 .nil) (fun a E=>?_)
 refine dn ?_
 exact J40 _ (by omega) _ true _ _ E .of S H
 refine mny 24 hst E (.r 24 1<|.b 25 2 hb19<|.r 26 3<|.nil) (fun a E=>?_)
 refine E.fk 43 H (fun c28 E H=>?_) fun c28 E H=>?_
 refine mny 0 hst E (.r 29 24 .nil) (fun a E=>?_)
 refine dn ?_
 exact J40 _ (by omega) _ true _ _ E .of S H
 refine mny 19 hst E (.r 29 1<|.b 30 3 hb19<|.r 31 3<|.nil) (fun a E=>?_)
 refine E.fk 48 H (fun c29 E H=>?_) fun c29 E H=>?_
 refine mny 0 hst E (.r 34 19 .nil) (fun a E=>?_)
 refine dn ?_
 exact J40 _ (by omega) _ true _ _ E .of S H
 refine mny 14 hst E (.r 34 1<|.b 35 3 hb19<|.r 36 3<|.nil) (fun a E=>?_)
 refine E.fk 53 H (fun c30 E H=>?_) fun c30 E H=>?_
 refine mny 0 hst E (.r 39 14 .nil) (fun a E=>?_)
 refine dn ?_
 exact J40 _ (by omega) _ true _ _ E .of S H
 refine mny 11 hst E (.r 39 3 .nil) (fun a E=>?_)
 refine E.fk 56 H (fun c31 E H=>?_) fun c31 E H=>?_
 obtain ⟨c32,H⟩:=gd H
 obtain ⟨cs34,rfl,hc35⟩:=g0_0.el qA.z (w64 (x4 - 1)) c32.1 c32.2
 refine mny 0 hst E (.r 42 3<|.x 45 c32<|.r 46 1<|.c 47 (S.fc hc35 0)<|.r 48 1<|.b 49 0 hb19<|.r 50 3<|.nil) (fun a E=>?_)
 refine dn ?_
 exact J40 _ (by omega) _ (decide ((nth qA.z x (w64 (x4 - 1))).f0≥(nth qA.z x x4).f0)) _ _ E .of S H
 refine mny 0 hst E (.r 42 11 .nil) (fun a E=>?_)
 refine dn ?_
 exact J40 _ (by omega) _ false _ _ E .of S H
 refine wp_exit ?_
 refine hK2 _ _ (rr E fun a E=>(wp_ret ?_))
 obtain rfl:=si H
 exact rt1 E ⟨_,rfl,_,rfl,S⟩
def qAA.l7:Nat→List qA→Int→Int→Option (qA × Bool)
 | 0,_,_,_=>none
 | k+1,x,y,x6=>if x6<(x.length:Int) then (if 0≤x6∧x6<(x.length:Int) then (if (nth qA.z x x6).f0=y then (some ((nth qA.z x x6),true)) else (qAA.l7 k x y (w64 (x6+1)))) else (none)) else (some ((⟨0,0,0,0,false,false⟩:qA),false))
theorem qAA.l7_s k x y x6:type_of% (qAA.l7.eq_2 x y x6 k):=qAA.l7.eq_2 x y x6 k
def qAA.f(k:Nat)(x:List qA)(y:Int):Option (qA × Bool):=qAA.l7 k x y 0
def qAA.Post(W F:World)(r:qA × Bool)(v:Value)(w':World):Prop:=∃(F':World),v = .tuple #[.agg #[iv r.1.f0,iv r.1.f1,iv r.1.f2,iv r.1.f3,.bool r.1.f4,.bool r.1.f5],.bool r.2]∧Sm W F w' F' []
theorem qAA.calls(k:Nat)(x:List qA)(y:Int)(A0_0:OA)(c0_0:Nat)(r:qA × Bool)(W F:World)(hown:Sub F W)(g0_0:Rd qA.k F A0_0 c0_0 x)(H:qAA.f k x y=some r):
    Cr 106 #[.slice A0_0 x.length c0_0,iv y] W (qAA.Post W F r):=by
 have S:=sT hown
 unfold qAA.f at H
 refine ent 25 rfl rfl rfl (fun a E=>?_)
 refine sq fun K1 hK1=>pl0 (pla (t:=153) E S [iv 0,iv 0,iv 0,iv 0,.bool false,.bool false] fun b2 u3 hb2 S a E=>plc E (.r 1 1 .nil) (fun a E=>pld (hK1 _ _ (sq fun K4 hK4=>rr E fun a E=>(wp_block ?_)))))
 refine wp_loop_ghost (fun kq8 a w'=>∃(G:NV)(x6:Int),kq8≤k∧Env 25 G a∧At G [(0,.slice A0_0 x.length c0_0),(1,iv y),(4,.pointer (pb b2)),(6,iv x6)]∧Sm W F w' F [box b2 #[iv 0,iv 0,iv 0,iv 0,.bool false,.bool false] 153]∧qAA.l7 kq8 x y x6=some r) k ⟨_,0,Nat.le_refl _,E,.of,S,H⟩ ?_
 rintro kq8 a u10 ⟨G,x6,hkq,E,A,S,H⟩
 obtain _ | k9:=kq8
 exact zz H
 rw [qAA.l7_s]at H
 obtain ⟨J,E⟩:=E.at A
 refine sq fun K11 hK11=>rr E fun a E=>(E.ik 10 H (fun c13 E H=>?_) fun c13 E H=>?_)
 refine wp_skip (hK11 _ _ (sq fun K14 hK14=>wp_block (sq fun K15 hK15=>pl0 ?_)))
 obtain ⟨c16,H⟩:=gd H
 have hE_:=E
 obtain ⟨ad17,rfl⟩:=g0_0.addr c16.1 c16.2
 replace E:=hE_
 obtain ⟨cs19,rfl,hc20⟩:=g0_0.el qA.z x6 c16.1 c16.2
 refine plc E (.r 0 2<|.x 2 c16<|.r 3 1<|.c 4 (S.fc hc20 0)<|.r 5 2<|.nil) (fun a E=>pld (hK15 _ _ (E.ik 19 H (fun c21 E H=>?_) fun c21 E H=>?_)))
 refine sq fun K22 hK22=>pl0 (plc E (.r 0 2<|.x 2 c16<|.cs 3 (S.fcs hc20)<|.nil) (fun a E=>pls E S [iv ((nth qA.z x x6).f0),iv ((nth qA.z x x6).f1),iv ((nth qA.z x x6).f2),iv ((nth qA.z x x6).f3),.bool ((nth qA.z x x6).f4),.bool ((nth qA.z x x6).f5)] fun u26 hb2 S a E=>plc E (.r 5 1 .nil) (fun a E=>pld (hK22 _ _ (wp_ret (qCK (qCJ (qCJ (qCK (qCJ ?_))))))))))
 replace S:=S.tail
 obtain rfl:=si H
 exact rtm E (.b hb2 ag153 sz153 (.t .nil)) ⟨_,rfl,_,rfl,S⟩
 refine wp_skip ?_
 refine qCL ?_
 refine hK14 _ _ (pl0 (plc E (.r 0 3 .nil) (fun a E=>pld ?_)))
 exact qCM ⟨k9,by omega,_,(w64 (x6+1)),by omega,E,.of,S,H⟩
 refine wp_exit ?_
 refine hK4 _ _ (sq fun K27 hK27=>pl0 (plc E (.r 0 1 .nil) (fun a E=>pls E S [iv 0,iv 0,iv 0,iv 0,.bool false,.bool false] fun u28 hb2 S a E=>plc E (.r 2 1 .nil) (fun a E=>pld (hK27 _ _ (wp_ret ?_))))))
 replace S:=S.tail
 obtain rfl:=si H
 exact rtm E (.b hb2 ag153 sz153 (.t .nil)) ⟨_,rfl,_,rfl,S⟩
end Go.Proofs.YtpabbpebefdafaaGreat.CN
