import Derived.Test.YtpohepinmjmbkaaGreatPP8
namespace Go.Proofs.YtpohepinmjmbkaaGreat.PP
open Go Go.RowKit Go.Proofs.YtpohepinmjmbkaaGreat.Sl
set_option linter.unusedVariables false
set_option linter.unusedSimpArgs false
set_option maxHeartbeats 4000000
set_option maxRecDepth 100000
def qBN.j16:Nat→Bool→Option Int
 | 0,_=>none
 | k+1,y15=>if y15=true then (some 1) else (some 0)
theorem qBN.j16_s k y15:type_of% (qBN.j16.eq_2 y15 k):=qBN.j16.eq_2 y15 k
def qBN.f(k:Nat)(x:qAi):Option Int:=(qu.f k x.f1).bind fun t6=>((qAL.f k x.f0).bind fun t11=>(if t11=0 then (if (x.f1.length:Int)>8 then (qBN.j16 k true) else (qBN.j16 k t6)) else (qBN.j16 k true)))
def qBN.Post(W F:World)(r:Int)(v:Value)(w':World):Prop:=∃(F':World),v=iv r∧Sm W F w' F' []
theorem qBN.calls(k:Nat)(x:qAi)(A0_4:OA)(c0_4:Nat)(A0_5:OA)(c0_5:Nat)(A0_6:OA)(c0_6:Nat)(A0_7:OA)(c0_7:Nat)(r:Int)(W F:World)(hown:Sub F W)(g0_4:Rd qA.k F A0_4 c0_4 x.f0.f4)(g0_5:Rd qD.k F A0_5 c0_5 x.f0.f5)(g0_6:Rd qC.k F A0_6 c0_6 x.f0.f6)(g0_7:Rd qE.k F A0_7 c0_7 x.f1)(H:qBN.f k x=some r):
    Cr 95 #[.agg #[iv x.f0.f0,iv x.f0.f1,iv x.f0.f2,iv x.f0.f3,.slice A0_4 x.f0.f4.length c0_4,.slice A0_5 x.f0.f5.length c0_5,.slice A0_6 x.f0.f6.length c0_6,.slice A0_7 x.f1.length c0_7]] W (qBN.Post W F r):=by
 have S:=St.start (Own.nil hown)
 unfold qBN.f at H
 refine ent 20 rfl rfl rfl (fun a E=>?_)
 refine sq fun K1 hK1=>pl0 (plx (t:=59) E S [iv x.f0.f0,iv x.f0.f1,iv x.f0.f2,iv x.f0.f3,.slice A0_4 x.f0.f4.length c0_4,.slice A0_5 x.f0.f5.length c0_5,.slice A0_6 x.f0.f6.length c0_6,.slice A0_7 x.f1.length c0_7] fun b2 u3 hb2 S a E=>plc E (.r 1 1 .nil) (fun a E=>pld (hK1 _ _ (sq fun K4 hK4=>pl0 (plc E (.r 0 1<|.b 1 7 hb2<|.nil) (fun a E=>?_))))))
 obtain ⟨t6,h7,H⟩:=bd H
 refine plq E S en151 (qu.calls k x.f1 _ _ _ _ _ S.own.sub g0_7 h7) fun u5 S a E=>plc E (.r 3 1 .nil) (fun a E=>pld (hK4 _ _ (sq fun K8 hK8=>sq fun K9 hK9=>?_)))
 have J19:∀ kq17,kq17≤k→∀(G:NV)(y15:Bool)(a:Act)(w':World),Env 20 G a→At G [(19,.bool y15)]→Sm W F w' F [box b2 #[iv x.f0.f0,iv x.f0.f1,iv x.f0.f2,iv x.f0.f3,.slice A0_4 x.f0.f4.length c0_4,.slice A0_5 x.f0.f5.length c0_5,.slice A0_6 x.f0.f6.length c0_6,.slice A0_7 x.f1.length c0_7] 59]→qBN.j16 kq17 y15=some r→K9 a w':=by
  intro kq17 hkq G y15 a u20 E A S H
  obtain _ | k18:=kq17
  exact zz H
  rw [qBN.j16_s]at H
  obtain ⟨J,E⟩:=E.at A
  refine hK9 _ _ (E.ib 19 H (fun c21 E H=>?_) fun c21 E H=>?_)
  refine rr E fun a E=>(wp_ret (qCV ?_))
  replace S:=S.tail
  obtain rfl:=si H
  exact rt1 E ⟨_,rfl,_,rfl,S⟩
  refine wp_skip (hK8 _ _ (rr E fun a E=>(wp_ret ?_)))
  replace S:=S.tail
  obtain rfl:=si H
  exact rt1 E ⟨_,rfl,_,rfl,S⟩
 refine pl0 ?_
 have hb2:=S.ba 0
 refine plc E (.r 0 1<|.bn 1 0 7 hb2<|.nil) (fun a E=>?_)
 obtain ⟨t11,h12,H⟩:=bd H
 refine plq E S en32 (qAL.calls k x.f0 _ _ _ _ _ _ _ _ _ S.own.sub g0_4 g0_5 g0_6 h12) fun u10 S a E=>plc E (.r 3 2 .nil) (fun a E=>E.fkn 11 H (fun c13 E H=>?_) fun c13 E H=>?_)
 refine plc E (.r 5 1<|.b 6 7 (S.ba 0)<|.r 7 4<|.nil) (fun a E=>E.fk 17 H (fun c14 E H=>?_) fun c14 E H=>?_)
 refine plc E (.r 11 2 .nil) (fun a E=>pld ?_)
 exact J19 _ (by omega) _ true _ _ E .of S H
 refine plc E (.r 11 2 .nil) (fun a E=>pld ?_)
 exact J19 _ (by omega) _ t6 _ _ E .of S H
 refine plc E (.r 5 8 .nil) (fun a E=>pld ?_)
 exact J19 _ (by omega) _ true _ _ E .of S H
def qBr.f(k:Nat)(x:qAi):Option qF:=(qBN.f k x).bind fun t9=>(if t9=0 then ((qBQ.f k x.f0 x.f1).bind fun t17=>(some t17)) else (some (⟨0,0,0,0,[],[],[]⟩:qF)))
def qBr.Post(W F:World)(r:qF)(v:Value)(w':World):Prop:=∃(F':World)(RA0_4:OA)(rc0_4:Nat)(RA0_5:OA)(rc0_5:Nat)(RA0_6:OA)(rc0_6:Nat),v = .agg #[iv r.f0,iv r.f1,iv r.f2,iv r.f3,.slice RA0_4 r.f4.length rc0_4,.slice RA0_5 r.f5.length rc0_5,.slice RA0_6 r.f6.length rc0_6]∧Sm W F w' F' [row qC.k 49 (.slice RA0_6 r.f6.length rc0_6) r.f6]∧Rd qA.k F' RA0_4 rc0_4 r.f4∧Rd qD.k F' RA0_5 rc0_5 r.f5
theorem qBr.calls(k:Nat)(x:qAi)(A0_4:OA)(c0_4:Nat)(A0_5:OA)(c0_5:Nat)(A0_6:OA)(c0_6:Nat)(A0_7:OA)(c0_7:Nat)(r:qF)(W F:World)(hown:Sub F W)(g0_4:Rd qA.k F A0_4 c0_4 x.f0.f4)(g0_5:Rd qD.k F A0_5 c0_5 x.f0.f5)(g0_6:Rd qC.k F A0_6 c0_6 x.f0.f6)(g0_7:Rd qE.k F A0_7 c0_7 x.f1)(H:qBr.f k x=some r):
    Cr 39 #[.agg #[iv x.f0.f0,iv x.f0.f1,iv x.f0.f2,iv x.f0.f3,.slice A0_4 x.f0.f4.length c0_4,.slice A0_5 x.f0.f5.length c0_5,.slice A0_6 x.f0.f6.length c0_6,.slice A0_7 x.f1.length c0_7]] W (qBr.Post W F r):=by
 have S:=St.start (Own.nil hown)
 unfold qBr.f at H
 refine ent 12 rfl rfl rfl (fun a E=>?_)
 refine sq fun K1 hK1=>pl0 (plx (t:=59) E S [iv x.f0.f0,iv x.f0.f1,iv x.f0.f2,iv x.f0.f3,.slice A0_4 x.f0.f4.length c0_4,.slice A0_5 x.f0.f5.length c0_5,.slice A0_6 x.f0.f6.length c0_6,.slice A0_7 x.f1.length c0_7] fun b2 u3 hb2 S a E=>pla (t:=26) E S [iv 0,iv 0,iv 0,iv 0,.slice none 0 0,.slice none 0 0,.slice none 0 0] fun b4 u5 hb4 S a E=>pld (hK1 _ _ (sq fun K6 hK6=>sq fun K7 hK7=>pl0 ?_)))
 have hb2:=S.ba 1
 refine plc E (.bn 0 0 8 hb2 .nil) (fun a E=>?_)
 obtain ⟨t9,h10,H⟩:=bd H
 refine plq E S en95 (qBN.calls k x _ _ _ _ _ _ _ _ _ _ _ S.own.sub g0_4 g0_5 g0_6 g0_7 h10) fun u8 S a E=>plc E (.r 2 1 .nil) (fun a E=>pld (hK7 _ _ (E.ikn 5 H (fun c11 E H=>?_) fun c11 E H=>?_)))
 refine wp_skip (hK6 _ _ (sq fun K15 hK15=>pl0 ?_))
 have hb2:=S.ba 1
 refine plc E (.r 0 1<|.bn 1 0 7 hb2<|.r 2 1<|.b 3 7 hb2<|.nil) (fun a E=>?_)
 obtain ⟨t17,h18,H⟩:=bd H
 refine ple E (.cl en29 (qBQ.calls k x.f0 x.f1 _ _ _ _ _ _ _ _ _ _ _ S.own.sub g0_4 g0_5 g0_6 g0_7 h18)) ?_
 rintro _ u16 a ⟨F19,A20,c21,A23,c24,A26,c27,rfl,hC,g22,g25⟩ E
 have hs:=hC.sub
 replace S:=S.called (X:=[]) hC
 replace g0_4:=g0_4.mono hs
 replace g0_5:=g0_5.mono hs
 replace g0_6:=g0_6.mono hs
 replace g0_7:=g0_7.mono hs
 replace S:=S.front 1 rfl
 refine pls E S [iv t17.f0,iv t17.f1,iv t17.f2,iv t17.f3,.slice A20 t17.f4.length c21,.slice A23 t17.f5.length c24,.slice A26 t17.f6.length c27] fun u30 hb4 S a E=>pld (hK15 _ _ (wp_ret ?_))
 replace S:=S.pm [1] 3
 obtain rfl:=si H
 exact ret1 E rfl (.cell (by kernel_rfl) (qCk [iv t17.f0,iv t17.f1,iv t17.f2,iv t17.f3,.slice A20 t17.f4.length c21,.slice A23 t17.f5.length c24,.slice A26 t17.f6.length c27] ag26 sz26 hb4 rfl) .nil) ⟨_,rfl,_,_,_,_,_,_,_,rfl,S,g22,g25⟩
 refine sq fun K12 hK12=>pl0 (plc E (.r 0 1 .nil) (fun a E=>pls E S [iv 0,iv 0,iv 0,iv 0,.slice none 0 0,.slice none 0 0,.slice none 0 0] fun u13 hb4 S a E=>pld (hK12 _ _ (wp_ret (qCV ?_)))))
 replace S:=S.nilrow qC.k 49
 replace S:=S.pm [0] 3
 obtain rfl:=si H
 exact ret1 E rfl (.cell (by kernel_rfl) (qCk [iv 0,iv 0,iv 0,iv 0,.slice none 0 0,.slice none 0 0,.slice none 0 0] ag26 sz26 hb4 rfl) .nil) ⟨_,rfl,_,_,_,_,_,_,_,rfl,S,(Rd.nil _ _),(Rd.nil _ _)⟩
def qAU.f(x:List qE):Option (List qE):=if ((([]:List qE).length:Int)+(x.length:Int)) * 72≤140737488355328 then (some (([]:List qE)++x)) else (none)
def qAU.Post(W F:World)(r:List qE)(v:Value)(w':World):Prop:=∃(F':World)(RA0_0:OA)(rc0_0:Nat),v = .slice RA0_0 r.length rc0_0∧Sm W F w' F' [row qE.k 40 (.slice RA0_0 r.length rc0_0) r]
theorem qAU.calls(x:List qE)(A0_0:OA)(c0_0:Nat)(r:List qE)(W F:World)(hown:Sub F W)(g0_0:Rd qE.k F A0_0 c0_0 x)(H:qAU.f x=some r):
    Cr 99 #[.slice A0_0 x.length c0_0] W (qAU.Post W F r):=by
 have S:=St.start (Own.nil hown)
 unfold qAU.f at H
 refine ent 8 rfl rfl rfl (fun a E=>?_)
 rcases A0_0 with _ | ad1
 have hnil:=g0_0.none_nil
 replace H:(some [])=some r:=by simpa [hnil] using H
 refine rr E fun a E=>(sq fun K3 hK3=>rr E fun a E=>(ct E (rr E fun a E=>(wp_ret (qCV ?_)))))
 replace S:=S.nilrow qE.k 40
 obtain rfl:=si H
 exact rt1 E ⟨_,rfl,_,_,_,rfl,S⟩
 refine rr E fun a E=>(sq fun K8 hK8=>rr E fun a E=>(cf E (wp_skip (hK8 _ _ (sq fun K10 hK10=>pl0 (ple E (.lit (d:=qE.k) (e:=40) S ([]:List qE) (.nil)) ?_))))))
 rintro _ u11 a ⟨A12,c13,rfl,S,hg⟩ E
 refine plc E (.r 1 1 .nil) (fun a E=>?_)
 obtain ⟨c15,H⟩:=gd H
 refine ple E (.ap (d:=qE.k) 72 S (g0_0.src S.own.sub) c15 c0_0) ?_
 rintro _ u18 a ⟨A16,c17,rfl,S,hz⟩ E
 refine plc E (.r 3 1 .nil) (fun a E=>pld (hK10 _ _ (wp_ret ?_)))
 obtain rfl:=si H
 exact rt1 E ⟨_,rfl,_,_,_,rfl,S⟩
def qBH.l16:Nat→List qE→List qE→Int→Option (List qE)
 | 0,_,_,_=>none
 | k+1,t4,l13,x14=>if x14<(t4.length:Int) then (if 0≤x14∧x14<(t4.length:Int) then ((qAX.f ((nth qE.z l13 x14).f6)).bind fun t39=>(qBH.l16 k t4 (l13.set (x14).toNat (⟨(nth qE.z l13 x14).f0,(nth qE.z l13 x14).f1,(nth qE.z l13 x14).f2,(nth qE.z l13 x14).f3,(nth qE.z l13 x14).f4,(nth qE.z l13 x14).f5,t39⟩:qE)) (w64 (x14+1)))) else (none)) else (some l13)
theorem qBH.l16_s k t4 l13 x14:type_of% (qBH.l16.eq_2 t4 l13 x14 k):=qBH.l16.eq_2 t4 l13 x14 k
def qBH.f(k:Nat)(x:List qE):Option (List qE):=(qAU.f x).bind fun t4=>(qBH.l16 k t4 t4 0)
def qBH.Post(W F:World)(r:List qE)(v:Value)(w':World):Prop:=∃(F':World)(RA0_0:OA)(rc0_0:Nat),v = .slice RA0_0 r.length rc0_0∧Sm W F w' F' [row qE.k 40 (.slice RA0_0 r.length rc0_0) r]
theorem qBH.calls(k:Nat)(x:List qE)(A0_0:OA)(c0_0:Nat)(r:List qE)(W F:World)(hown:Sub F W)(g0_0:Rd qE.k F A0_0 c0_0 x)(H:qBH.f k x=some r):
    Cr 98 #[.slice A0_0 x.length c0_0] W (qBH.Post W F r):=by
 have S:=St.start (Own.nil hown)
 unfold qBH.f at H
 refine ent 23 rfl rfl rfl (fun a E=>?_)
 refine rr E fun a E=>(sq fun K2 hK2=>pl0 (plc E (.r 0 1 .nil) (fun a E=>?_)))
 obtain ⟨t4,h5,H⟩:=bd H
 refine ple E (.cl en99 (qAU.calls x _ _ _ _ _ S.own.sub g0_0 h5)) ?_
 rintro _ u3 a ⟨F6,A7,c8,rfl,hC⟩ E
 have hs:=hC.sub
 replace S:=S.called (X:=[]) hC
 replace g0_0:=g0_0.mono hs
 refine plc E (.r 2 1 .nil) (fun a E=>pld (hK2 _ _ (sq fun K11 hK11=>rr E fun a E=>(wp_block ?_))))
 refine wp_loop_ghost (fun kq17 a w'=>∃(G:NV)(l13:List qE)(x14:Int)(F15:World),kq17≤k∧Env 23 G a∧At G [(0,.slice A7 t4.length c8),(7,.slice A7 t4.length c8),(8,iv (t4.length:Int)),(9,iv x14)]∧Sm W F w' F15 [row qE.k 40 (.slice A7 t4.length c8) l13]∧qBH.l16 kq17 t4 l13 x14=some r) k ⟨_,t4,0,F6,Nat.le_refl _,E,.of,S,H⟩ ?_
 rintro kq17 a u19 ⟨G,l13,x14,F15,hkq,E,A,S,H⟩
 obtain _ | k18:=kq17
 exact zz H
 rw [qBH.l16_s]at H
 obtain ⟨J,E⟩:=E.at A
 refine rr E fun a E=>(sq fun K21 hK21=>E.ik 10 H (fun c22 E H=>?_) fun c22 E H=>?_)
 refine wp_skip (hK21 _ _ (sq fun K23 hK23=>wp_block (sq fun K24 hK24=>pl0 ?_)))
 obtain ⟨c25,H⟩:=gd H
 have hr26:=S.ra 0
 have c27:0≤x14∧x14<(l13.length:Int):=by rw [← (qCZ hr26).1]; exact c25
 have hE_:=E
 obtain ⟨b28,rfl⟩:=qCc hr26 c27.1 c27.2
 replace E:=hE_
 have hr_:=S.ra 0
 obtain ⟨cs30,⟨A32,c33,rfl,g34⟩,hc31⟩:=qCa hr_ qE.z x14 c27.1 c27.2
 refine plc E (.r 0 1<|.x 1 c25<|.cs 2 hc31<|.nil) (fun a E=>pla (t:=40) E S [iv 0,iv 0,iv 0,iv 0,iv 0,iv 0,.slice none 0 0] fun b35 u36 hb35 S a E=>plc E (.r 4 1 .nil) (fun a E=>pls E S [iv ((nth qE.z l13 x14).f0),iv ((nth qE.z l13 x14).f1),iv ((nth qE.z l13 x14).f2),iv ((nth qE.z l13 x14).f3),iv ((nth qE.z l13 x14).f4),iv ((nth qE.z l13 x14).f5),.slice A32 (((nth qE.z l13 x14).f6).length) c33] fun u37 hb35 S a E=>pld (hK24 _ _ (pl0 (plc E (.r 0 3<|.b 3 6 hb35<|.nil) (fun a E=>?_))))))
 obtain ⟨t39,h40,H⟩:=bd H
 refine ple E (.cl en112 (qAX.calls ((nth qE.z l13 x14).f6) _ _ _ _ _ S.own.sub g34 h40)) ?_
 rintro _ u38 a ⟨F41,A42,c43,rfl,hC⟩ E
 have hs:=hC.sub
 replace S:=S.called (X:=[]) hC
 replace g34:=g34.mono hs
 have hr46:=S.ra 2
 have c47:0≤x14∧x14<(l13.length:Int):=by rw [← (qCZ hr46).1]; exact c25
 have hr_:=S.ra 2
 obtain ⟨cs49,⟨A51,c52,rfl,g53⟩,hc50⟩:=qCa hr_ qE.z x14 c47.1 c47.2
 refine plc E (.x 5 c25<|.r 6 1<|.nil) (fun a E=>?_)
 obtain ⟨F55,hs,g56,S⟩:=S.give
 replace g34:=g34.mono hs
 replace S:=S.front 1 rfl
 obtain ⟨cs60,⟨A57,c58,rfl,g59⟩,hc61⟩:=qCa (S.row_at (i:=0) rfl) qE.z x14 c47.1 c47.2
 refine ple E (.set (d:=qE.k) (n:=t4.length) (i:=x14) (⟨(nth qE.z l13 x14).f0,(nth qE.z l13 x14).f1,(nth qE.z l13 x14).f2,(nth qE.z l13 x14).f3,(nth qE.z l13 x14).f4,(nth qE.z l13 x14).f5,t39⟩:qE) 6 (ea1 _ _ _) S c47 [iv ((nth qE.z l13 x14).f0),iv ((nth qE.z l13 x14).f1),iv ((nth qE.z l13 x14).f2),iv ((nth qE.z l13 x14).f3),iv ((nth qE.z l13 x14).f4),iv ((nth qE.z l13 x14).f5),.slice A57 (((nth qE.z l13 x14).f6).length) c58] hc61 [iv ((nth qE.z l13 x14).f0),iv ((nth qE.z l13 x14).f1),iv ((nth qE.z l13 x14).f2),iv ((nth qE.z l13 x14).f3),iv ((nth qE.z l13 x14).f4),iv ((nth qE.z l13 x14).f5),.slice A42 t39.length c43] ⟨_,_,rfl,g56⟩) ?_
 rintro _ u54 a ⟨rfl,S,hz⟩ E
 refine pld ?_
 refine qCX ?_
 refine hK23 _ _ (pl0 (plc E (.r 0 2 .nil) (fun a E=>pld ?_)))
 replace S:=S.pm [0] 2
 exact qCY ⟨k18,by omega,_,(l13.set (x14).toNat (⟨(nth qE.z l13 x14).f0,(nth qE.z l13 x14).f1,(nth qE.z l13 x14).f2,(nth qE.z l13 x14).f3,(nth qE.z l13 x14).f4,(nth qE.z l13 x14).f5,t39⟩:qE)),(w64 (x14+1)),F55,by omega,E,.of,S,H⟩
 refine wp_exit ?_
 refine hK11 _ _ (rr E fun a E=>(wp_ret ?_))
 have hn63:=(qCZ (S.row_at (i:=0) rfl)).1
 replace E:=E.set (d:=2) (v:=.slice A7 l13.length c8) (Eq.trans (b:=.slice A7 t4.length c8) (by kernel_rfl) (by rw [← hn63]))
 replace S:Sm W F u19 F15 [row qE.k 40 (.slice A7 l13.length c8) l13]:=by rw [← hn63]; exact S
 obtain rfl:=si H
 exact rt1 E ⟨_,rfl,_,_,_,rfl,S⟩
def qCN.f(k:Nat)(x:qAi):Option qAi:=(qBQ.f k x.f0 []).bind fun t8=>((qBH.f k x.f1).bind fun t22=>(some (⟨t8,t22⟩:qAi)))
def qCN.Post(W F:World)(r:qAi)(v:Value)(w':World):Prop:=∃(F':World)(RA0_4:OA)(rc0_4:Nat)(RA0_5:OA)(rc0_5:Nat)(RA0_6:OA)(rc0_6:Nat)(RA0_7:OA)(rc0_7:Nat),v = .agg #[iv r.f0.f0,iv r.f0.f1,iv r.f0.f2,iv r.f0.f3,.slice RA0_4 r.f0.f4.length rc0_4,.slice RA0_5 r.f0.f5.length rc0_5,.slice RA0_6 r.f0.f6.length rc0_6,.slice RA0_7 r.f1.length rc0_7]∧Sm W F w' F' [row qC.k 49 (.slice RA0_6 r.f0.f6.length rc0_6) r.f0.f6,row qE.k 40 (.slice RA0_7 r.f1.length rc0_7) r.f1]∧Rd qA.k F' RA0_4 rc0_4 r.f0.f4∧Rd qD.k F' RA0_5 rc0_5 r.f0.f5
theorem qCN.calls(k:Nat)(x:qAi)(A0_4:OA)(c0_4:Nat)(A0_5:OA)(c0_5:Nat)(A0_6:OA)(c0_6:Nat)(A0_7:OA)(c0_7:Nat)(r:qAi)(W F:World)(hown:Sub F W)(g0_4:Rd qA.k F A0_4 c0_4 x.f0.f4)(g0_5:Rd qD.k F A0_5 c0_5 x.f0.f5)(g0_6:Rd qC.k F A0_6 c0_6 x.f0.f6)(g0_7:Rd qE.k F A0_7 c0_7 x.f1)(H:qCN.f k x=some r):
    Cr 96 #[.agg #[iv x.f0.f0,iv x.f0.f1,iv x.f0.f2,iv x.f0.f3,.slice A0_4 x.f0.f4.length c0_4,.slice A0_5 x.f0.f5.length c0_5,.slice A0_6 x.f0.f6.length c0_6,.slice A0_7 x.f1.length c0_7]] W (qCN.Post W F r):=by
 have S:=St.start (Own.nil hown)
 unfold qCN.f at H
 refine ent 10 rfl rfl rfl (fun a E=>?_)
 refine sq fun K1 hK1=>pl0 (plx (t:=59) E S [iv x.f0.f0,iv x.f0.f1,iv x.f0.f2,iv x.f0.f3,.slice A0_4 x.f0.f4.length c0_4,.slice A0_5 x.f0.f5.length c0_5,.slice A0_6 x.f0.f6.length c0_6,.slice A0_7 x.f1.length c0_7] fun b2 u3 hb2 S a E=>pla (t:=59) E S [iv 0,iv 0,iv 0,iv 0,.slice none 0 0,.slice none 0 0,.slice none 0 0,.slice none 0 0] fun b4 u5 hb4 S a E=>pld (hK1 _ _ (sq fun K6 hK6=>?_)))
 refine drawn 8 ⟨[7],[],fun q=>False⟩ mixed rfl (by kernel_rfl) (fun hst=>?_)
 replace S:=S.drew
 have hb2:=S.ba 1
 refine mny 4 hst E (.r 0 1<|.bn 1 0 7 hb2<|.r 3 1<|.b 4 7 hb2<|.nil) (fun a E=>?_)
 obtain ⟨t8,h9,H⟩:=bd H
 refine on1 2 E (.cl en29 (qBQ.calls k x.f0 [] _ _ _ _ _ _ _ _ _ _ _ S.own.sub g0_4 g0_5 g0_6 (Rd.nil _ _) h9)) ?_
 rintro _ u7 a ⟨F10,A11,c12,A14,c15,A17,c18,rfl,hC,g13,g16⟩ E
 refine ⟨.of hC.agr,?_⟩
 have hs:=hC.sub
 replace S:=S.called (X:=[]) hC
 replace g0_4:=g0_4.mono hs
 replace g0_5:=g0_5.mono hs
 replace g0_6:=g0_6.mono hs
 replace g0_7:=g0_7.mono hs
 obtain ⟨t22,h23,H⟩:=bd H
 refine on1 5 E (.cl en98 (qBH.calls k x.f1 _ _ _ _ _ S.own.sub g0_7 h23)) ?_
 rintro _ u21 a ⟨F24,A25,c26,rfl,hC⟩ E
 refine ⟨.of hC.agr,?_⟩
 have hs:=hC.sub
 replace S:=S.called (X:=[]) hC
 replace g0_4:=g0_4.mono hs
 replace g0_5:=g0_5.mono hs
 replace g0_6:=g0_6.mono hs
 replace g0_7:=g0_7.mono hs
 replace g13:=g13.mono hs
 replace g16:=g16.mono hs
 refine mny 1 hst E (.r 6 1 .nil) (fun a E=>?_)
 replace S:=S.front 2 rfl
 refine on1 7 E (.sto S [iv t8.f0,iv t8.f1,iv t8.f2,iv t8.f3,.slice A11 t8.f4.length c12,.slice A14 t8.f5.length c15,.slice A17 t8.f6.length c18,.slice A25 t22.length c26]) ?_
 rintro _ u29 a ⟨rfl,hb4,S,hz⟩ E
 refine ⟨.d,?_⟩
 refine dn ?_
 refine hK6 _ _ (wp_ret ?_)
 replace S:=S.pm [2,1] 4
 obtain rfl:=si H
 exact ret1 E rfl (.cell (by kernel_rfl) (qCk [iv t8.f0,iv t8.f1,iv t8.f2,iv t8.f3,.slice A11 t8.f4.length c12,.slice A14 t8.f5.length c15,.slice A17 t8.f6.length c18,.slice A25 t22.length c26] ag59 sz59 hb4 rfl) .nil) ⟨_,rfl,_,_,_,_,_,_,_,_,_,rfl,S,g13,g16⟩
mutual
def qAk.j53:Nat→Int→List qE→qAi→qF→Bool→Option (qAi × Int)
 | 0,_,_,_,_,_=>none
 | k+1,y,z,t18,t38,y52=>if y52=true then (some (t18,0)) else (if 0≤(if (w64 ((w64 (t38.f0 - y))+1))<(z.length:Int) then (w64 ((w64 (t38.f0 - y))+1)) else (z.length:Int))∧(if (w64 ((w64 (t38.f0 - y))+1))<(z.length:Int) then (w64 ((w64 (t38.f0 - y))+1)) else (z.length:Int))≤(z.length:Int) then (qAk.l92 k y z t38 0 0 t18.f0.f0 t18.f0.f1 t18.f0.f2 t18.f0.f3 t18.f0.f4 t18.f0.f5 t18.f0.f6 t18.f1) else (none))
def qAk.l92:Nat→Int→List qE→qF→Int→Int→Int→Int→Int→Int→List qA→List qD→List qC→List qE→Option (qAi × Int)
 | 0,_,_,_,_,_,_,_,_,_,_,_,_,_=>none
 | k+1,y,z,t38,x71,x72,x73,x74,x75,x76,l79,l83,l87,l90=>if x72<((cutl z (if (w64 ((w64 (t38.f0 - y))+1))<(z.length:Int) then (w64 ((w64 (t38.f0 - y))+1)) else (z.length:Int)) (z.length:Int)).length:Int) then (if 0≤x72∧x72<((cutl z (if (w64 ((w64 (t38.f0 - y))+1))<(z.length:Int) then (w64 ((w64 (t38.f0 - y))+1)) else (z.length:Int)) (z.length:Int)).length:Int) then ((acceptor_CheckDelta.f k (nth qE.z (cutl z (if (w64 ((w64 (t38.f0 - y))+1))<(z.length:Int) then (w64 ((w64 (t38.f0 - y))+1)) else (z.length:Int)) (z.length:Int)) x72)).bind fun t115=>(if t115=0 then ((qBH.f k [(nth qE.z (cutl z (if (w64 ((w64 (t38.f0 - y))+1))<(z.length:Int) then (w64 ((w64 (t38.f0 - y))+1)) else (z.length:Int)) (z.length:Int)) x72)]).bind fun t126=>(if ((l90.length:Int)+(t126.length:Int)) * 72≤140737488355328 then (if ((l90++t126).length:Int)>8 then (if 0≤(4:Int)∧(4:Int)≤((l90++t126).length:Int) then ((qBQ.f k (⟨x73,x74,x75,x76,l79,l83,l87⟩:qF) (cutl (l90++t126) 0 (4:Int))).bind fun t152=>((qAU.f (cutl (l90++t126) (4:Int) ((l90++t126).length:Int))).bind fun t171=>(qAk.l92 k y z t38 (w64 (x71+1)) (w64 (x72+1)) t152.f0 t152.f1 t152.f2 t152.f3 t152.f4 t152.f5 t152.f6 t171))) else (none)) else (qAk.l92 k y z t38 (w64 (x71+1)) (w64 (x72+1)) x73 x74 x75 x76 l79 l83 l87 (l90++t126))) else (none))) else (qAk.j201 k x71 x73 x74 x75 x76 l79 l83 l87 l90))) else (none)) else (qAk.j201 k x71 x73 x74 x75 x76 l79 l83 l87 l90)
def qAk.j201:Nat→Int→Int→Int→Int→Int→List qA→List qD→List qC→List qE→Option (qAi × Int)
 | 0,_,_,_,_,_,_,_,_,_=>none
 | k+1,x181,x182,x183,x184,x185,l188,l192,l196,l199=>some ((⟨(⟨x182,x183,x184,x185,l188,l192,l196⟩:qF),l199⟩:qAi),x181)
end
theorem qAk.j53_s k y z t18 t38 y52:type_of% (qAk.j53.eq_2 y z t18 t38 y52 k):=qAk.j53.eq_2 y z t18 t38 y52 k
theorem qAk.l92_s k y z t38 x71 x72 x73 x74 x75 x76 l79 l83 l87 l90:type_of% (qAk.l92.eq_2 y z t38 x71 x72 x73 x74 x75 x76 l79 l83 l87 l90 k):=qAk.l92.eq_2 y z t38 x71 x72 x73 x74 x75 x76 l79 l83 l87 l90 k
theorem qAk.j201_s k x181 x182 x183 x184 x185 l188 l192 l196 l199:type_of% (qAk.j201.eq_2 x181 x182 x183 x184 x185 l188 l192 l196 l199 k):=qAk.j201.eq_2 x181 x182 x183 x184 x185 l188 l192 l196 l199 k
def qAk.f(k:Nat)(x:qAi)(y:Int)(z:List qE):Option (qAi × Int):=(qBN.f k x).bind fun t9=>(if t9=0 then ((qCN.f k x).bind fun t18=>((qBr.f k t18).bind fun t38=>(if y<1 then (qAk.j53 k y z t18 t38 true) else (qAk.j53 k y z t18 t38 (decide ((w64 (y - 1))>t38.f0)))))) else (some ((⟨(⟨0,0,0,0,[],[],[]⟩:qF),[]⟩:qAi),0)))
def qAk.Post(W F:World)(r:qAi × Int)(v:Value)(w':World):Prop:=∃(F':World)(RA0_4:OA)(rc0_4:Nat)(RA0_5:OA)(rc0_5:Nat)(RA0_6:OA)(rc0_6:Nat)(RA0_7:OA)(rc0_7:Nat),v = .tuple #[.agg #[iv r.1.f0.f0,iv r.1.f0.f1,iv r.1.f0.f2,iv r.1.f0.f3,.slice RA0_4 r.1.f0.f4.length rc0_4,.slice RA0_5 r.1.f0.f5.length rc0_5,.slice RA0_6 r.1.f0.f6.length rc0_6,.slice RA0_7 r.1.f1.length rc0_7],iv r.2]∧Sm W F w' F' [row qC.k 49 (.slice RA0_6 r.1.f0.f6.length rc0_6) r.1.f0.f6,row qE.k 40 (.slice RA0_7 r.1.f1.length rc0_7) r.1.f1]∧Rd qA.k F' RA0_4 rc0_4 r.1.f0.f4∧Rd qD.k F' RA0_5 rc0_5 r.1.f0.f5
theorem qAk.calls(k:Nat)(x:qAi)(y:Int)(z:List qE)(A0_4:OA)(c0_4:Nat)(A0_5:OA)(c0_5:Nat)(A0_6:OA)(c0_6:Nat)(A0_7:OA)(c0_7:Nat)(A2_0:OA)(c2_0:Nat)(r:qAi × Int)(W F:World)(hown:Sub F W)(g0_4:Rd qA.k F A0_4 c0_4 x.f0.f4)(g0_5:Rd qD.k F A0_5 c0_5 x.f0.f5)(g0_6:Rd qC.k F A0_6 c0_6 x.f0.f6)(g0_7:Rd qE.k F A0_7 c0_7 x.f1)(g2_0:Rd qE.k F A2_0 c2_0 z)(H:qAk.f k x y z=some r):
    Cr 38 #[.agg #[iv x.f0.f0,iv x.f0.f1,iv x.f0.f2,iv x.f0.f3,.slice A0_4 x.f0.f4.length c0_4,.slice A0_5 x.f0.f5.length c0_5,.slice A0_6 x.f0.f6.length c0_6,.slice A0_7 x.f1.length c0_7],iv y,.slice A2_0 z.length c2_0] W (qAk.Post W F r):=by
 have S:=St.start (Own.nil hown)
 unfold qAk.f at H
 refine ent 75 rfl rfl rfl (fun a E=>?_)
 refine sq fun K1 hK1=>pl0 (plx (t:=59) E S [iv x.f0.f0,iv x.f0.f1,iv x.f0.f2,iv x.f0.f3,.slice A0_4 x.f0.f4.length c0_4,.slice A0_5 x.f0.f5.length c0_5,.slice A0_6 x.f0.f6.length c0_6,.slice A0_7 x.f1.length c0_7] fun b2 u3 hb2 S a E=>pla (t:=59) E S [iv 0,iv 0,iv 0,iv 0,.slice none 0 0,.slice none 0 0,.slice none 0 0,.slice none 0 0] fun b4 u5 hb4 S a E=>plc E (.r 2 1 .nil) (fun a E=>pld (hK1 _ _ (sq fun K6 hK6=>sq fun K7 hK7=>pl0 ?_))))
 have hb2:=S.ba 1
 refine plc E (.bn 0 0 8 hb2 .nil) (fun a E=>?_)
 obtain ⟨t9,h10,H⟩:=bd H
 refine plq E S en95 (qBN.calls k x _ _ _ _ _ _ _ _ _ _ _ S.own.sub g0_4 g0_5 g0_6 g0_7 h10) fun u8 S a E=>plc E (.r 2 1 .nil) (fun a E=>pld (hK7 _ _ (E.ikn 14 H (fun c11 E H=>?_) fun c11 E H=>?_)))
 refine wp_skip (hK6 _ _ (sq fun K16 hK16=>pl0 (plc E (.bn 0 0 8 (S.ba 1) .nil) (fun a E=>?_))))
 obtain ⟨t18,h19,H⟩:=bd H
 refine ple E (.cl en96 (qCN.calls k x _ _ _ _ _ _ _ _ _ _ _ S.own.sub g0_4 g0_5 g0_6 g0_7 h19)) ?_
 rintro _ u17 a ⟨F20,A21,c22,A24,c25,A27,c28,A31,c32,rfl,hC,g23,g26⟩ E
 have hs:=hC.sub
 replace S:=S.called (X:=[]) hC
 replace g0_4:=g0_4.mono hs
 replace g0_5:=g0_5.mono hs
 replace g0_6:=g0_6.mono hs
 replace g0_7:=g0_7.mono hs
 replace g2_0:=g2_0.mono hs
 replace S:=S.front 3 rfl
 refine pls E S [iv t18.f0.f0,iv t18.f0.f1,iv t18.f0.f2,iv t18.f0.f3,.slice A21 t18.f0.f4.length c22,.slice A24 t18.f0.f5.length c25,.slice A27 t18.f0.f6.length c28,.slice A31 t18.f1.length c32] fun u35 hb2 S a E=>pld (hK16 _ _ (sq fun K36 hK36=>pl0 (plc E (.bn 0 0 8 hb2 .nil) (fun a E=>?_))))
 obtain ⟨t38,h39,H⟩:=bd H
 refine ple E (.cl en39 (qBr.calls k t18 _ _ _ _ _ _ _ _ _ _ _ (Sub.refl _) (g23.mono S.own.sub) (g26.mono S.own.sub) (S.rd_at (i:=1) rfl) (S.rd_at (i:=2) rfl) h39)) ?_
 rintro _ u37 a ⟨_,A40,c41,A43,c44,A46,c47,rfl,hC,g42,g45⟩ E
 replace S:=S.lent hC
 refine plc E (.r 2 2 .nil) (fun a E=>pld (hK36 _ _ (sq fun K49 hK49=>sq fun K50 hK50=>?_)))
 have J56:∀ kq54,kq54≤k→∀(G:NV)(y52:Bool)(a:Act)(w':World),Env 75 G a→At G [(1,iv y),(2,.slice A2_0 z.length c2_0),(3,.pointer (pb b2)),(6,.pointer (pb b4)),(8,iv t38.f0),(28,.bool y52)]→Sm W F w' F20 [box b2 #[iv t18.f0.f0,iv t18.f0.f1,iv t18.f0.f2,iv t18.f0.f3,.slice A21 t18.f0.f4.length c22,.slice A24 t18.f0.f5.length c25,.slice A27 t18.f0.f6.length c28,.slice A31 t18.f1.length c32] 59,box b4 #[iv 0,iv 0,iv 0,iv 0,.slice none 0 0,.slice none 0 0,.slice none 0 0,.slice none 0 0] 59,row qC.k 49 (.slice A27 t18.f0.f6.length c28) t18.f0.f6,row qE.k 40 (.slice A31 t18.f1.length c32) t18.f1]→qAk.j53 kq54 y z t18 t38 y52=some r→K50 a w':=by
  intro kq54 hkq G y52 a u57 E A S H
  obtain _ | k55:=kq54
  exact zz H
  rw [qAk.j53_s]at H
  obtain ⟨J,E⟩:=E.at A
  refine hK50 _ _ (E.ib 28 H (fun c58 E H=>?_) fun c58 E H=>?_)
  refine sq fun K59 hK59=>pl0 (plc E (.bn 0 0 8 (S.ba 0) .nil) (fun a E=>?_))
  replace S:=S.front 1 rfl
  refine pls E S [iv t18.f0.f0,iv t18.f0.f1,iv t18.f0.f2,iv t18.f0.f3,.slice A21 t18.f0.f4.length c22,.slice A24 t18.f0.f5.length c25,.slice A27 t18.f0.f6.length c28,.slice A31 t18.f1.length c32] fun u60 hb4 S a E=>plc E (.r 2 1 .nil) (fun a E=>pld (hK59 _ _ (wp_ret (qCV ?_))))
  replace S:=S.pm [] 2
  obtain rfl:=si H
  exact rtm E (.b hb4 ag59 sz59 (.t .nil)) ⟨_,rfl,_,_,_,_,_,_,_,_,_,rfl,S,g23,g26⟩
  refine wp_skip (hK49 _ _ (rr E fun a E=>(sq fun K62 hK62=>?_)))
  have J204:∀ kq202,kq202≤k55→∀(G:NV)(x181:Int)(x182:Int)(x183:Int)(x184:Int)(x185:Int)(A186:OA)(c187:Nat)(l188:List qA)(A190:OA)(c191:Nat)(l192:List qD)(A194:OA)(c195:Nat)(l196:List qC)(A197:OA)(c198:Nat)(l199:List qE)(F200:World)(a:Act)(w':World),Env 75 G a→At G [(3,.pointer (pb b2)),(6,.pointer (pb b4)),(9,iv x181)]→Sm W F w' F200 [box b2 #[iv x182,iv x183,iv x184,iv x185,.slice A186 l188.length c187,.slice A190 l192.length c191,.slice A194 l196.length c195,.slice A197 l199.length c198] 59,box b4 #[iv 0,iv 0,iv 0,iv 0,.slice none 0 0,.slice none 0 0,.slice none 0 0,.slice none 0 0] 59,row qC.k 49 (.slice A194 l196.length c195) l196,row qE.k 40 (.slice A197 l199.length c198) l199]→Rd qA.k F200 A186 c187 l188→Rd qD.k F200 A190 c191 l192→qAk.j201 kq202 x181 x182 x183 x184 x185 l188 l192 l196 l199=some r→K62 a w':=by
   intro kq202 hkq G x181 x182 x183 x184 x185 A186 c187 l188 A190 c191 l192 A194 c195 l196 A197 c198 l199 F200 a u205 E A S g189 g193 H
   obtain _ | k203:=kq202
   exact zz H
   rw [qAk.j201_s]at H
   obtain ⟨J,E⟩:=E.at A
   refine hK62 _ _ (sq fun K206 hK206=>pl0 (plc E (.bn 0 0 8 (S.ba 0)<|.r 1 1<|.nil) (fun a E=>?_)))
   replace S:=S.front 1 rfl
   refine pls E S [iv x182,iv x183,iv x184,iv x185,.slice A186 l188.length c187,.slice A190 l192.length c191,.slice A194 l196.length c195,.slice A197 l199.length c198] fun u207 hb4 S a E=>plc E (.r 3 1 .nil) (fun a E=>pld (hK206 _ _ (wp_ret ?_)))
   replace S:=S.pm [] 2
   obtain rfl:=si H
   exact rtm E (.b hb4 ag59 sz59 (.t .nil)) ⟨_,rfl,_,_,_,_,_,_,_,_,_,rfl,S,g189,g193⟩
  refine sq fun K63 hK63=>pl0 ?_
  obtain ⟨c64,H⟩:=gd H
  obtain ⟨A65,c66,g67,hv68⟩:=qDC (P:=Tryz.prog) g2_0 ⟨c64.1,c64.2,Int.le_refl _⟩ sz40
  refine plc E (.r 0 8<|.y 8 (hv68 (by kernel_rfl))<|.r 9 2<|.nil) (fun a E=>pld (hK63 _ _ (wp_block ?_)))
  refine wp_loop_ghost (fun kq93 a w'=>∃(G:NV)(x71:Int)(x72:Int)(x73:Int)(x74:Int)(x75:Int)(x76:Int)(A77:OA)(c78:Nat)(l79:List qA)(A81:OA)(c82:Nat)(l83:List qD)(A85:OA)(c86:Nat)(l87:List qC)(A88:OA)(c89:Nat)(l90:List qE)(F91:World),kq93≤k55∧Env 75 G a∧At G [(3,.pointer (pb b2)),(6,.pointer (pb b4)),(9,iv x71),(38,.slice A65 ((cutl z (if (w64 ((w64 (t38.f0 - y))+1))<(z.length:Int) then (w64 ((w64 (t38.f0 - y))+1)) else (z.length:Int)) (z.length:Int)).length) c66),(39,iv ((cutl z (if (w64 ((w64 (t38.f0 - y))+1))<(z.length:Int) then (w64 ((w64 (t38.f0 - y))+1)) else (z.length:Int)) (z.length:Int)).length:Int)),(40,iv x72)]∧Sm W F w' F91 [box b2 #[iv x73,iv x74,iv x75,iv x76,.slice A77 l79.length c78,.slice A81 l83.length c82,.slice A85 l87.length c86,.slice A88 l90.length c89] 59,box b4 #[iv 0,iv 0,iv 0,iv 0,.slice none 0 0,.slice none 0 0,.slice none 0 0,.slice none 0 0] 59,row qC.k 49 (.slice A85 l87.length c86) l87,row qE.k 40 (.slice A88 l90.length c89) l90]∧Rd qA.k F91 A77 c78 l79∧Rd qD.k F91 A81 c82 l83∧Rd qE.k F91 A65 c66 (cutl z (if (w64 ((w64 (t38.f0 - y))+1))<(z.length:Int) then (w64 ((w64 (t38.f0 - y))+1)) else (z.length:Int)) (z.length:Int))∧qAk.l92 kq93 y z t38 x71 x72 x73 x74 x75 x76 l79 l83 l87 l90=some r) k55 ⟨_,0,0,t18.f0.f0,t18.f0.f1,t18.f0.f2,t18.f0.f3,A21,c22,t18.f0.f4,A24,c25,t18.f0.f5,A27,c28,t18.f0.f6,A31,c32,t18.f1,F20,Nat.le_refl _,E,.of,S,g23,g26,g67,H⟩ ?_
  rintro kq93 a u95 ⟨G,x71,x72,x73,x74,x75,x76,A77,c78,l79,A81,c82,l83,A85,c86,l87,A88,c89,l90,F91,hkq,E,A,S,g80,g84,g67,H⟩
  obtain _ | k94:=kq93
  exact zz H
  rw [qAk.l92_s]at H
  obtain ⟨J,E⟩:=E.at A
  refine rr E fun a E=>(sq fun K97 hK97=>E.ik 41 H (fun c98 E H=>?_) fun c98 E H=>?_)
  refine wp_skip (hK97 _ _ (sq fun K99 hK99=>wp_block (sq fun K100 hK100=>pl0 ?_)))
  obtain ⟨c101,H⟩:=gd H
  have hE_:=E
  obtain ⟨ad102,rfl⟩:=g67.addr c101.1 c101.2
  replace E:=hE_
  obtain ⟨cs104,⟨A106,c107,rfl,g108⟩,hc105⟩:=g67.el qE.z x72 c101.1 c101.2
  refine plc E (.x 0 c101<|.cs 1 (S.fcs hc105)<|.nil) (fun a E=>pla (t:=40) E S [iv 0,iv 0,iv 0,iv 0,iv 0,iv 0,.slice none 0 0] fun b109 u110 hb109 S a E=>pls E S [iv ((nth qE.z (cutl z (if (w64 ((w64 (t38.f0 - y))+1))<(z.length:Int) then (w64 ((w64 (t38.f0 - y))+1)) else (z.length:Int)) (z.length:Int)) x72).f0),iv ((nth qE.z (cutl z (if (w64 ((w64 (t38.f0 - y))+1))<(z.length:Int) then (w64 ((w64 (t38.f0 - y))+1)) else (z.length:Int)) (z.length:Int)) x72).f1),iv ((nth qE.z (cutl z (if (w64 ((w64 (t38.f0 - y))+1))<(z.length:Int) then (w64 ((w64 (t38.f0 - y))+1)) else (z.length:Int)) (z.length:Int)) x72).f2),iv ((nth qE.z (cutl z (if (w64 ((w64 (t38.f0 - y))+1))<(z.length:Int) then (w64 ((w64 (t38.f0 - y))+1)) else (z.length:Int)) (z.length:Int)) x72).f3),iv ((nth qE.z (cutl z (if (w64 ((w64 (t38.f0 - y))+1))<(z.length:Int) then (w64 ((w64 (t38.f0 - y))+1)) else (z.length:Int)) (z.length:Int)) x72).f4),iv ((nth qE.z (cutl z (if (w64 ((w64 (t38.f0 - y))+1))<(z.length:Int) then (w64 ((w64 (t38.f0 - y))+1)) else (z.length:Int)) (z.length:Int)) x72).f5),.slice A106 (((nth qE.z (cutl z (if (w64 ((w64 (t38.f0 - y))+1))<(z.length:Int) then (w64 ((w64 (t38.f0 - y))+1)) else (z.length:Int)) (z.length:Int)) x72).f6).length) c107] fun u111 hb109 S a E=>?_)
  refine pld (hK100 _ _ (sq fun K112 hK112=>sq fun K113 hK113=>pl0 (plc E (.bn 0 0 7 hb109 .nil) (fun a E=>?_))))
  obtain ⟨t115,h116,H⟩:=bd H
  refine plq E S en97 (acceptor_CheckDelta.calls k94 (nth qE.z (cutl z (if (w64 ((w64 (t38.f0 - y))+1))<(z.length:Int) then (w64 ((w64 (t38.f0 - y))+1)) else (z.length:Int)) (z.length:Int)) x72) _ _ _ _ _ S.own.sub g108 h116) fun u114 S a E=>plc E (.r 2 1 .nil) (fun a E=>pld (hK113 _ _ (E.ikn 46 H (fun c117 E H=>?_) fun c117 E H=>?_)))
  refine wp_skip (hK112 _ _ (sq fun K118 hK118=>?_))
  refine drawn 8 ⟨[5,7],[],fun q=>False⟩ mixed rfl (by kernel_rfl) (fun hst=>?_)
  replace S:=S.drew
  have hb2:=S.ba 1
  have hb109:=S.ba 0
  refine mny 5 hst E (.r 0 1<|.b 1 7 hb2<|.bn 2 0 7 hb109<|.nil) (fun a E=>?_)
  refine on1 3 E (.lit (d:=qE.k) (e:=40) S [(nth qE.z (cutl z (if (w64 ((w64 (t38.f0 - y))+1))<(z.length:Int) then (w64 ((w64 (t38.f0 - y))+1)) else (z.length:Int)) (z.length:Int)) x72)] (.cons ⟨_,_,rfl,g108⟩ .nil)) ?_
  rintro _ u119 a ⟨A120,c121,rfl,S,hg⟩ E
  refine ⟨.of hg,?_⟩
  obtain ⟨F123,hs,g124,S⟩:=S.give
  replace g67:=g67.mono hs
  replace g108:=g108.mono hs
  replace g80:=g80.mono hs
  replace g84:=g84.mono hs
  obtain ⟨t126,h127,H⟩:=bd H
  refine on1 4 E (.cl en98 (qBH.calls k94 [(nth qE.z (cutl z (if (w64 ((w64 (t38.f0 - y))+1))<(z.length:Int) then (w64 ((w64 (t38.f0 - y))+1)) else (z.length:Int)) (z.length:Int)) x72)] _ _ _ _ _ S.own.sub g124 h127)) ?_
  rintro _ u125 a ⟨F128,A129,c130,rfl,hC⟩ E
  refine ⟨.of hC.agr,?_⟩
  have hs:=hC.sub
  replace S:=S.called (X:=[]) hC
  replace g67:=g67.mono hs
  replace g108:=g108.mono hs
  replace g124:=g124.mono hs
  replace g80:=g80.mono hs
  replace g84:=g84.mono hs
  obtain ⟨c133,H⟩:=gd H
  replace S:=S.front 5 rfl
  refine on1 5 E (.ap (d:=qE.k) 72 S (qCf (S.row_at (i:=1) rfl)) c133 c130) ?_
  rintro _ u136 a ⟨A134,c135,rfl,S,hz⟩ E
  refine ⟨.d,?_⟩
  refine mny 1 hst E (.r 6 1 .nil) (fun a E=>?_)
  replace S:=S.front 3 rfl
  refine on1 7 E (.sto S [iv x73,iv x74,iv x75,iv x76,.slice A77 l79.length c78,.slice A81 l83.length c82,.slice A85 l87.length c86,.slice A134 ((l90++t126).length) c135]) ?_
  rintro _ u137 a ⟨rfl,hb2,S,hz⟩ E
  refine ⟨.d,?_⟩
  refine dn ?_
  refine hK118 _ _ (rr E fun a E=>(rg E (.r 0 1<|.b 1 7 hb2<|.r 2 2<|.nil) fun a E=>(E.ik 59 H (fun c140 E H=>?_) fun c140 E H=>?_)))
  refine sq fun K141 hK141=>?_
  refine drawn 8 ⟨[7],[],fun q=>False⟩ mixed rfl (by kernel_rfl) (fun hst=>?_)
  replace S:=S.drew
  have hb2:=S.ba 0
  replace S:=S.front 1 rfl
  obtain ⟨F142,hs,g143,S⟩:=S.give
  replace g67:=g67.mono hs
  replace g108:=g108.mono hs
  replace g124:=g124.mono hs
  replace g80:=g80.mono hs
  replace g84:=g84.mono hs
  obtain ⟨c144,H⟩:=gd H
  obtain ⟨A145,c146,g147,hv148⟩:=qDC (P:=Tryz.prog) g143 ⟨Int.le_refl _,c144.1,c144.2⟩ sz40
  refine mny 3 hst E (.r 0 1<|.bn 1 0 7 hb2<|.r 2 1<|.b 3 7 hb2<|.y 4 (hv148 (by kernel_rfl))<|.nil) (fun a E=>?_)
  replace S:=S.front 4 rfl
  obtain ⟨F149,hs,g150,S⟩:=S.give
  replace g67:=g67.mono hs
  replace g108:=g108.mono hs
  replace g124:=g124.mono hs
  replace g143:=g143.mono hs
  replace g80:=g80.mono hs
  replace g84:=g84.mono hs
  replace g147:=g147.mono hs
  obtain ⟨t152,h153,H⟩:=bd H
  refine on1 5 E (.cl en29 (qBQ.calls k94 (⟨x73,x74,x75,x76,l79,l83,l87⟩:qF) (cutl (l90++t126) 0 (4:Int)) _ _ _ _ _ _ _ _ _ _ _ S.own.sub g80 g84 g150 g147 h153)) ?_
  rintro _ u151 a ⟨F154,A155,c156,A158,c159,A161,c162,rfl,hC,g157,g160⟩ E
  refine ⟨.of hC.agr,?_⟩
  have hs:=hC.sub
  replace S:=S.called (X:=[]) hC
  replace g67:=g67.mono hs
  replace g108:=g108.mono hs
  replace g124:=g124.mono hs
  replace g143:=g143.mono hs
  replace g80:=g80.mono hs
  replace g84:=g84.mono hs
  replace g150:=g150.mono hs
  replace g147:=g147.mono hs
  refine mny 1 hst E (.r 6 1 .nil) (fun a E=>?_)
  replace S:=S.front 1 rfl
  refine on1 7 E (.sto S [iv t152.f0,iv t152.f1,iv t152.f2,iv t152.f3,.slice A155 t152.f4.length c156,.slice A158 t152.f5.length c159,.slice A161 t152.f6.length c162,.slice A134 ((l90++t126).length) c135]) ?_
  rintro _ u165 a ⟨rfl,hb2,S,hz⟩ E
  refine ⟨.d,?_⟩
  refine dn ?_
  refine hK141 _ _ (pl0 ?_)
  obtain ⟨A166,c167,g168,hv169⟩:=qDC (P:=Tryz.prog) g143 ⟨c144.1,c144.2,Int.le_refl _⟩ sz40
  refine plc E (.r 0 1<|.b 1 7 hb2<|.y 2 (hv169 (by kernel_rfl))<|.nil) (fun a E=>?_)
  obtain ⟨t171,h172,H⟩:=bd H
  refine ple E (.cl en99 (qAU.calls (cutl (l90++t126) (4:Int) ((l90++t126).length:Int)) _ _ _ _ _ S.own.sub g168 h172)) ?_
  rintro _ u170 a ⟨F173,A174,c175,rfl,hC⟩ E
  have hs:=hC.sub
  replace S:=S.called (X:=[]) hC
  replace g67:=g67.mono hs
  replace g108:=g108.mono hs
  replace g124:=g124.mono hs
  replace g143:=g143.mono hs
  replace g80:=g80.mono hs
  replace g84:=g84.mono hs
  replace g150:=g150.mono hs
  replace g147:=g147.mono hs
  replace g157:=g157.mono hs
  replace g160:=g160.mono hs
  replace g168:=g168.mono hs
  refine plc E (.r 4 1 .nil) (fun a E=>?_)
  replace S:=S.front 1 rfl
  refine pls E S [iv t152.f0,iv t152.f1,iv t152.f2,iv t152.f3,.slice A155 t152.f4.length c156,.slice A158 t152.f5.length c159,.slice A161 t152.f6.length c162,.slice A174 t171.length c175] fun u178 hb2 S a E=>pld ?_
  refine qCX ?_
  refine hK99 _ _ (pl0 (plc E (.r 0 2 .nil) (fun a E=>pld ?_)))
  replace S:=S.pm [0,5,2,1] 6
  exact qCY ⟨k94,by omega,_,(w64 (x71+1)),(w64 (x72+1)),t152.f0,t152.f1,t152.f2,t152.f3,A155,c156,t152.f4,A158,c159,t152.f5,A161,c162,t152.f6,A174,c175,t171,F173,by omega,E,.of,S,g157,g160,g67,H⟩
  refine wp_skip ?_
  refine qCX ?_
  refine hK99 _ _ (pl0 (plc E (.r 0 2 .nil) (fun a E=>pld ?_)))
  replace S:=S.pm [0,4,5,1] 6
  exact qCY ⟨k94,by omega,_,(w64 (x71+1)),(w64 (x72+1)),x73,x74,x75,x76,A77,c78,l79,A81,c82,l83,A85,c86,l87,A134,c135,(l90++t126),F128,by omega,E,.of,S,g80,g84,g67,H⟩
  refine wp_exit ?_
  replace S:=S.tail
  exact J204 _ (by omega) _ x71 x73 x74 x75 x76 A77 c78 l79 A81 c82 l83 A85 c86 l87 A88 c89 l90 F91 _ _ E .of S g80 g84 H
  refine wp_exit ?_
  exact J204 _ (by omega) _ x71 x73 x74 x75 x76 A77 c78 l79 A81 c82 l83 A85 c86 l87 A88 c89 l90 F91 _ _ E .of S g80 g84 H
 refine pl0 (plc E (.r 0 3 .nil) (fun a E=>E.fk 23 H (fun c51 E H=>?_) fun c51 E H=>?_))
 refine plc E (.r 3 5 .nil) (fun a E=>pld ?_)
 replace S:=S.pm [0,3,1,2] 4
 exact J56 _ (by omega) _ true _ _ E .of S H
 refine plc E (.r 3 5 .nil) (fun a E=>pld ?_)
 replace S:=S.pm [0,3,1,2] 4
 exact J56 _ (by omega) _ (decide ((w64 (y - 1))>t38.f0)) _ _ E .of S H
 refine sq fun K12 hK12=>pl0 (plc E (.r 0 1 .nil) (fun a E=>pls E S [iv 0,iv 0,iv 0,iv 0,.slice none 0 0,.slice none 0 0,.slice none 0 0,.slice none 0 0] fun u13 hb4 S a E=>plc E (.r 2 1 .nil) (fun a E=>pld (hK12 _ _ (wp_ret (qCV ?_))))))
 replace S:=S.nilrow qC.k 49
 replace S:=S.nilrow qE.k 40
 replace S:=S.pm [1,0] 4
 obtain rfl:=si H
 exact rtm E (.b hb4 ag59 sz59 (.t .nil)) ⟨_,rfl,_,_,_,_,_,_,_,_,_,rfl,S,(Rd.nil _ _),(Rd.nil _ _)⟩
mutual
def qL.j23:Nat→qF→List qE→List Int→Bool→Option Bool
 | 0,_,_,_,_=>none
 | k+1,x,y,z,y22=>if y22=true then ((qBC.f k).bind fun t31=>(some t31)) else (qL.l63 k x y z 0 0 x.f0 x.f1 x.f2 x.f3 x.f4 x.f5 x.f6 [])
def qL.l63:Nat→qF→List qE→List Int→Int→Int→Int→Int→Int→Int→List qA→List qD→List qC→List qE→Option Bool
 | 0,_,_,_,_,_,_,_,_,_,_,_,_,_=>none
 | k+1,x,y,z,x41,x42,x43,x44,x45,x46,l49,l53,l57,l61=>if x42<(z.length:Int) then (if x42<80 then (qL.j72 k x y z x41 x42 x43 x44 x45 x46 l49 l53 l57 l61 (decide (x41<(y.length:Int)))) else (qL.j72 k x y z x41 x42 x43 x44 x45 x46 l49 l53 l57 l61 false)) else (qL.j72 k x y z x41 x42 x43 x44 x45 x46 l49 l53 l57 l61 false)
def qL.j72:Nat→qF→List qE→List Int→Int→Int→Int→Int→Int→Int→List qA→List qD→List qC→List qE→Bool→Option Bool
 | 0,_,_,_,_,_,_,_,_,_,_,_,_,_,_=>none
 | k+1,x,y,z,x41,x42,x43,x44,x45,x46,l49,l53,l57,l61,y71=>if y71=true then (if 0≤x42∧x42<(z.length:Int) then (if (w64 (x41+1))≠0 then (if (w64 (x41+(w64 ((nth 0 z x42).tmod 16))))>(y.length:Int) then (qL.j94 k x y z x41 x42 x43 x44 x45 x46 l49 l53 l57 l61 (y.length:Int)) else (qL.j94 k x y z x41 x42 x43 x44 x45 x46 l49 l53 l57 l61 (w64 (x41+(w64 ((nth 0 z x42).tmod 16)))))) else (none)) else (none)) else (if 0≤x41∧x41≤(y.length:Int) then ((qBr.f k (⟨(⟨x43,x44,x45,x46,l49,l53,l57⟩:qF),l61⟩:qAi)).bind fun t157=>((qAf.f k x (cutl y 0 x41)).bind fun t171=>((qj.f k t157 t171).bind fun t184=>(if t184=true then ((qBC.f k).bind fun t188=>(some t188)) else (some false))))) else (none))
def qL.j94:Nat→qF→List qE→List Int→Int→Int→Int→Int→Int→Int→List qA→List qD→List qC→List qE→Int→Option Bool
 | 0,_,_,_,_,_,_,_,_,_,_,_,_,_,_=>none
 | k+1,x,y,z,x41,x42,x43,x44,x45,x46,l49,l53,l57,l61,x93=>if 0≤(w64 (x41 - ((w64 (IntKind.u8.wrap ((nth 0 z x42).tdiv 16))).tmod (w64 (x41+1)))))∧(w64 (x41 - ((w64 (IntKind.u8.wrap ((nth 0 z x42).tdiv 16))).tmod (w64 (x41+1)))))≤x93∧x93≤(y.length:Int) then ((qAk.f k (⟨(⟨x43,x44,x45,x46,l49,l53,l57⟩:qF),l61⟩:qAi) (w64 ((w64 ((w64 (x.f0+1))+x41)) - ((w64 (IntKind.u8.wrap ((nth 0 z x42).tdiv 16))).tmod (w64 (x41+1))))) (cutl y (w64 (x41 - ((w64 (IntKind.u8.wrap ((nth 0 z x42).tdiv 16))).tmod (w64 (x41+1))))) x93)).bind fun t105=>(if t105.2=(w64 (x93 - x41)) then (qL.j136 k x y z x42 x93 t105 false) else (if (w64 ((w64 (x.f0+x41)) - ((w64 (IntKind.u8.wrap ((nth 0 z x42).tdiv 16))).tmod (w64 (x41+1)))))≥0 then (qL.j136 k x y z x42 x93 t105 (decide ((w64 ((w64 ((w64 (x.f0+1))+x41)) - ((w64 (IntKind.u8.wrap ((nth 0 z x42).tdiv 16))).tmod (w64 (x41+1)))))≥1))) else (qL.j136 k x y z x42 x93 t105 false)))) else (none)
def qL.j136:Nat→qF→List qE→List Int→Int→Int→qAi × Int→Bool→Option Bool
 | 0,_,_,_,_,_,_,_=>none
 | k+1,x,y,z,x42,x93,t105,y135=>if y135=true then (some false) else (qL.l63 k x y z x93 (w64 (x42+1)) t105.1.f0.f0 t105.1.f0.f1 t105.1.f0.f2 t105.1.f0.f3 t105.1.f0.f4 t105.1.f0.f5 t105.1.f0.f6 t105.1.f1)
end
theorem qL.j23_s k x y z y22:type_of% (qL.j23.eq_2 x y z y22 k):=qL.j23.eq_2 x y z y22 k
theorem qL.l63_s k x y z x41 x42 x43 x44 x45 x46 l49 l53 l57 l61:type_of% (qL.l63.eq_2 x y z x41 x42 x43 x44 x45 x46 l49 l53 l57 l61 k):=qL.l63.eq_2 x y z x41 x42 x43 x44 x45 x46 l49 l53 l57 l61 k
theorem qL.j72_s k x y z x41 x42 x43 x44 x45 x46 l49 l53 l57 l61 y71:type_of% (qL.j72.eq_2 x y z x41 x42 x43 x44 x45 x46 l49 l53 l57 l61 y71 k):=qL.j72.eq_2 x y z x41 x42 x43 x44 x45 x46 l49 l53 l57 l61 y71 k
theorem qL.j94_s k x y z x41 x42 x43 x44 x45 x46 l49 l53 l57 l61 x93:type_of% (qL.j94.eq_2 x y z x41 x42 x43 x44 x45 x46 l49 l53 l57 l61 x93 k):=qL.j94.eq_2 x y z x41 x42 x43 x44 x45 x46 l49 l53 l57 l61 x93 k
theorem qL.j136_s k x y z x42 x93 t105 y135:type_of% (qL.j136.eq_2 x y z x42 x93 t105 y135 k):=qL.j136.eq_2 x y z x42 x93 t105 y135 k
def qL.f(k:Nat)(x:qF)(y:List qE)(z:List Int):Option Bool:=(qW.f k x).bind fun t7=>(if t7=true then ((qt.f k y).bind fun t11=>(if t11=true then ((qf.f k x).bind fun t15=>(if t15=true then (if x.f0>1000000 then (qL.j23 k x y z true) else ((qAj.f k y).bind fun t20=>(qL.j23 k x y z (!t20)))) else (qL.j23 k x y z true))) else (qL.j23 k x y z true))) else (qL.j23 k x y z true))
def qL.Post(W F:World)(r:Bool)(v:Value)(w':World):Prop:=∃(F':World),v = .bool r∧Sm W F w' F' []
theorem qL.calls(k:Nat)(x:qF)(y:List qE)(z:List Int)(A0_4:OA)(c0_4:Nat)(A0_5:OA)(c0_5:Nat)(A0_6:OA)(c0_6:Nat)(A1_0:OA)(c1_0:Nat)(A2_0:OA)(c2_0:Nat)(r:Bool)(W F:World)(hown:Sub F W)(g0_4:Rd qA.k F A0_4 c0_4 x.f4)(g0_5:Rd qD.k F A0_5 c0_5 x.f5)(g0_6:Rd qC.k F A0_6 c0_6 x.f6)(g1_0:Rd qE.k F A1_0 c1_0 y)(g2_0:Rd (Kn.int .u8) F A2_0 c2_0 z)(H:qL.f k x y z=some r):
    Cr 9 #[.agg #[iv x.f0,iv x.f1,iv x.f2,iv x.f3,.slice A0_4 x.f4.length c0_4,.slice A0_5 x.f5.length c0_5,.slice A0_6 x.f6.length c0_6],.slice A1_0 y.length c1_0,.slice A2_0 z.length c2_0] W (qL.Post W F r):=by
 have S:=St.start (Own.nil hown)
 unfold qL.f at H
 refine ent 134 rfl rfl rfl (fun a E=>?_)
 refine sq fun K1 hK1=>pl0 (plx (t:=26) E S [iv x.f0,iv x.f1,iv x.f2,iv x.f3,.slice A0_4 x.f4.length c0_4,.slice A0_5 x.f5.length c0_5,.slice A0_6 x.f6.length c0_6] fun b2 u3 hb2 S a E=>plc E (.r 1 1 .nil) (fun a E=>pld (hK1 _ _ (sq fun K4 hK4=>sq fun K5 hK5=>?_))))
 have J26:∀ kq24,kq24≤k→∀(G:NV)(y22:Bool)(a:Act)(w':World),Env 134 G a→At G [(1,.slice A1_0 y.length c1_0),(2,.slice A2_0 z.length c2_0),(3,.pointer (pb b2)),(36,.bool y22)]→Sm W F w' F [box b2 #[iv x.f0,iv x.f1,iv x.f2,iv x.f3,.slice A0_4 x.f4.length c0_4,.slice A0_5 x.f5.length c0_5,.slice A0_6 x.f6.length c0_6] 26]→qL.j23 kq24 x y z y22=some r→K5 a w':=by
  intro kq24 hkq G y22 a u27 E A S H
  obtain _ | k25:=kq24
  exact zz H
  rw [qL.j23_s]at H
  obtain ⟨J,E⟩:=E.at A
  refine hK5 _ _ (E.ib 36 H (fun c28 E H=>?_) fun c28 E H=>?_)
  refine sq fun K29 hK29=>pl0 ?_
  obtain ⟨t31,h32,H⟩:=bd H
  refine plq E S en37 (qBC.calls k25 _ _ _ S.own.sub h32) fun u30 S a E=>plc E (.r 1 1 .nil) (fun a E=>pld (hK29 _ _ (wp_ret (qCV ?_))))
  replace S:=S.tail
  obtain rfl:=si H
  exact rt1 E ⟨_,rfl,_,rfl,S⟩
  refine wp_skip (hK4 _ _ (sq fun K33 hK33=>pl0 ?_))
  have hb2:=S.ba 0
  refine plc E (.bn 0 0 7 hb2<|.r 1 1<|.nil) (fun a E=>pla (t:=59) E S [iv 0,iv 0,iv 0,iv 0,.slice none 0 0,.slice none 0 0,.slice none 0 0,.slice none 0 0] fun b34 u35 hb34 S a E=>pls E S [iv x.f0,iv x.f1,iv x.f2,iv x.f3,.slice A0_4 x.f4.length c0_4,.slice A0_5 x.f5.length c0_5,.slice A0_6 x.f6.length c0_6,.slice none 0 0] fun u36 hb34 S a E=>pld (hK33 _ _ (rr E fun a E=>(sq fun K38 hK38=>rr E fun a E=>(wp_block ?_)))))
  replace S:=S.nilrow qE.k 40
  replace S:=S.pm [1,2,0] 3
  refine wp_loop_ghost (fun kq64 a w'=>∃(G:NV)(x41:Int)(x42:Int)(x43:Int)(x44:Int)(x45:Int)(x46:Int)(A47:OA)(c48:Nat)(l49:List qA)(A51:OA)(c52:Nat)(l53:List qD)(A55:OA)(c56:Nat)(l57:List qC)(A59:OA)(c60:Nat)(l61:List qE)(F62:World),kq64≤k25∧Env 134 G a∧At G [(1,.slice A1_0 y.length c1_0),(2,.slice A2_0 z.length c2_0),(3,.pointer (pb b2)),(7,.pointer (pb b34)),(8,iv x41),(9,iv x42)]∧Sm W F w' F62 [box b34 #[iv x43,iv x44,iv x45,iv x46,.slice A47 l49.length c48,.slice A51 l53.length c52,.slice A55 l57.length c56,.slice A59 l61.length c60] 59,box b2 #[iv x.f0,iv x.f1,iv x.f2,iv x.f3,.slice A0_4 x.f4.length c0_4,.slice A0_5 x.f5.length c0_5,.slice A0_6 x.f6.length c0_6] 26,row qE.k 40 (.slice A59 l61.length c60) l61]∧Rd qA.k F62 A47 c48 l49∧Rd qD.k F62 A51 c52 l53∧Rd qC.k F62 A55 c56 l57∧Rd qE.k F62 A1_0 c1_0 y∧Rd (Kn.int .u8) F62 A2_0 c2_0 z∧Rd qA.k F62 A0_4 c0_4 x.f4∧Rd qD.k F62 A0_5 c0_5 x.f5∧Rd qC.k F62 A0_6 c0_6 x.f6∧qL.l63 kq64 x y z x41 x42 x43 x44 x45 x46 l49 l53 l57 l61=some r) k25 ⟨_,0,0,x.f0,x.f1,x.f2,x.f3,A0_4,c0_4,x.f4,A0_5,c0_5,x.f5,A0_6,c0_6,x.f6,none,0,[],F,Nat.le_refl _,E,.of,S,g0_4,g0_5,g0_6,g1_0,g2_0,g0_4,g0_5,g0_6,H⟩ ?_
  rintro kq64 a u66 ⟨G,x41,x42,x43,x44,x45,x46,A47,c48,l49,A51,c52,l53,A55,c56,l57,A59,c60,l61,F62,hkq,E,A,S,g50,g54,g58,g1_0,g2_0,g0_4,g0_5,g0_6,H⟩
  obtain _ | k65:=kq64
  exact zz H
  rw [qL.l63_s]at H
  obtain ⟨J,E⟩:=E.at A
  refine sq fun K67 hK67=>sq fun K68 hK68=>?_
  have J75:∀ kq73,kq73≤k65→∀(G:NV)(y71:Bool)(a:Act)(w':World),Env 134 G a→At G [(1,.slice A1_0 y.length c1_0),(2,.slice A2_0 z.length c2_0),(3,.pointer (pb b2)),(7,.pointer (pb b34)),(8,iv x41),(9,iv x42),(53,.bool y71)]→Sm W F w' F62 [box b34 #[iv x43,iv x44,iv x45,iv x46,.slice A47 l49.length c48,.slice A51 l53.length c52,.slice A55 l57.length c56,.slice A59 l61.length c60] 59,box b2 #[iv x.f0,iv x.f1,iv x.f2,iv x.f3,.slice A0_4 x.f4.length c0_4,.slice A0_5 x.f5.length c0_5,.slice A0_6 x.f6.length c0_6] 26,row qE.k 40 (.slice A59 l61.length c60) l61]→qL.j72 kq73 x y z x41 x42 x43 x44 x45 x46 l49 l53 l57 l61 y71=some r→K68 a w':=by
   intro kq73 hkq G y71 a u76 E A S H
   obtain _ | k74:=kq73
   exact zz H
   rw [qL.j72_s]at H
   obtain ⟨J,E⟩:=E.at A
   refine hK68 _ _ (E.ib 53 H (fun c77 E H=>?_) fun c77 E H=>?_)
   refine wp_skip (hK67 _ _ (sq fun K78 hK78=>wp_block (sq fun K79 hK79=>pl0 ?_)))
   obtain ⟨c80,H⟩:=gd H
   have hE_:=E
   obtain ⟨ad81,rfl⟩:=g2_0.addr c80.1 c80.2
   replace E:=hE_
   obtain ⟨cs83,rfl,hc84⟩:=g2_0.el 0 x42 c80.1 c80.2
   obtain ⟨c85,H⟩:=gd H
   refine plc E (.r 0 2<|.x 2 c80<|.c 3 (S.fc hc84 0)<|.r 4 4<|.y 8 (y_rem 3 .i64 (w64 (IntKind.u8.wrap ((nth 0 z x42).tdiv 16))) c85)<|.r 9 1<|.nil) (fun a E=>pld (hK79 _ _ (rg E (.r 0 3<|.x 3 c80<|.c 4 (S.fc hc84 0)<|.r 5 4<|.nil) fun a E=>(sq fun K90 hK90=>?_))))
   have J97:∀ kq95,kq95≤k74→∀(G:NV)(x93:Int)(a:Act)(w':World),Env 134 G a→At G [(1,.slice A1_0 y.length c1_0),(2,.slice (some ad81) z.length c2_0),(3,.pointer (pb b2)),(7,.pointer (pb b34)),(8,iv x41),(9,iv x42),(10,iv ((w64 (IntKind.u8.wrap ((nth 0 z x42).tdiv 16))).tmod (w64 (x41+1)))),(11,iv x93)]→Sm W F w' F62 [box b34 #[iv x43,iv x44,iv x45,iv x46,.slice A47 l49.length c48,.slice A51 l53.length c52,.slice A55 l57.length c56,.slice A59 l61.length c60] 59,box b2 #[iv x.f0,iv x.f1,iv x.f2,iv x.f3,.slice A0_4 x.f4.length c0_4,.slice A0_5 x.f5.length c0_5,.slice A0_6 x.f6.length c0_6] 26,row qE.k 40 (.slice A59 l61.length c60) l61]→qL.j94 kq95 x y z x41 x42 x43 x44 x45 x46 l49 l53 l57 l61 x93=some r→K90 a w':=by
    intro kq95 hkq G x93 a u98 E A S H
    obtain _ | k96:=kq95
    exact zz H
    rw [qL.j94_s]at H
    obtain ⟨J,E⟩:=E.at A
    refine hK90 _ _ (sq fun K99 hK99=>?_)
    refine drawn 21 ⟨[19],[],fun q=>False⟩ mixed rfl (by kernel_rfl) (fun hst=>?_)
    replace S:=S.drew
    have hb34:=S.ba 0
    have hb2:=S.ba 1
    obtain ⟨c100,H⟩:=gd H
    obtain ⟨A101,c102,g103,hv104⟩:=qDC (P:=Tryz.prog) g1_0 c100 sz40
    refine mny 7 hst E (.bn 0 0 8 hb34<|.r 1 1<|.b 2 0 hb2<|.r 3 10<|.y 13 (hv104 (by kernel_rfl))<|.nil) (fun a E=>?_)
    obtain ⟨t105,h106,H⟩:=bd H
    refine meet2 (fun a w'=>∃(G:NV)(b125:Nat)(A117:OA)(c118:Nat)(A121:OA)(c122:Nat)(A111:OA)(c112:Nat)(A114:OA)(c115:Nat)(F128:World),Env 134 G a∧At G [(1,.slice A1_0 y.length c1_0),(2,.slice (some ad81) z.length c2_0),(3,.pointer (pb b2)),(7,.pointer (pb b34)),(8,iv x41),(9,iv x42),(10,iv ((w64 (IntKind.u8.wrap ((nth 0 z x42).tdiv 16))).tmod (w64 (x41+1)))),(11,iv x93),(12,.pointer (pb b125)),(95,.agg #[iv t105.1.f0.f0,iv t105.1.f0.f1,iv t105.1.f0.f2,iv t105.1.f0.f3,.slice A111 t105.1.f0.f4.length c112,.slice A114 t105.1.f0.f5.length c115,.slice A117 t105.1.f0.f6.length c118,.slice A121 t105.1.f1.length c122]),(96,iv t105.2)]∧Sm W F w' F128 [box b125 #[iv 0,iv 0,iv 0,iv 0,.slice none 0 0,.slice none 0 0,.slice none 0 0,.slice none 0 0] 59,box b34 #[iv x43,iv x44,iv x45,iv x46,.slice A47 l49.length c48,.slice A51 l53.length c52,.slice A55 l57.length c56,.slice A59 l61.length c60] 59,box b2 #[iv x.f0,iv x.f1,iv x.f2,iv x.f3,.slice A0_4 x.f4.length c0_4,.slice A0_5 x.f5.length c0_5,.slice A0_6 x.f6.length c0_6] 26,row qC.k 49 (.slice A117 t105.1.f0.f6.length c118) t105.1.f0.f6,row qE.k 40 (.slice A121 t105.1.f1.length c122) t105.1.f1]∧Rd qE.k F128 A1_0 c1_0 y∧Rd (Kn.int .u8) F128 (some ad81) c2_0 z∧Rd qA.k F128 A111 c112 t105.1.f0.f4∧Rd qD.k F128 A114 c115 t105.1.f0.f5∧Rd qA.k F128 A47 c48 l49∧Rd qD.k F128 A51 c52 l53∧Rd qC.k F128 A55 c56 l57∧Rd qE.k F128 A59 c60 l61∧Rd qA.k F128 A0_4 c0_4 x.f4∧Rd qD.k F128 A0_5 c0_5 x.f5∧Rd qC.k F128 A0_6 c0_6 x.f6) 2 524287 ?_ (fun hJ=>?_)
    rintro a u129 ⟨G,b125,A117,c118,A121,c122,A111,c112,A114,c115,F128,E,A,S,g1_0,g2_0,g113,g116,g50,g54,g58,g108,g0_4,g0_5,g0_6⟩
    obtain ⟨J,E⟩:=E.at A
    refine on1 19 E (.sto S [iv t105.1.f0.f0,iv t105.1.f0.f1,iv t105.1.f0.f2,iv t105.1.f0.f3,.slice A111 t105.1.f0.f4.length c112,.slice A114 t105.1.f0.f5.length c115,.slice A117 t105.1.f0.f6.length c118,.slice A121 t105.1.f1.length c122]) ?_
    rintro _ u130 a ⟨rfl,hb125,S,hz⟩ E
    refine ⟨.d,?_⟩
    refine mny 0 hst E (.r 20 1 .nil) (fun a E=>?_)
    refine dn ?_
    refine hK99 _ _ (sq fun K131 hK131=>sq fun K132 hK132=>?_)
    have J139:∀ kq137,kq137≤k96→∀(G:NV)(y135:Bool)(a:Act)(w':World),Env 134 G a→At G [(1,.slice A1_0 y.length c1_0),(2,.slice (some ad81) z.length c2_0),(3,.pointer (pb b2)),(7,.pointer (pb b34)),(9,iv x42),(11,iv x93),(12,.pointer (pb b125)),(120,.bool y135)]→Sm W F w' F128 [box b125 #[iv t105.1.f0.f0,iv t105.1.f0.f1,iv t105.1.f0.f2,iv t105.1.f0.f3,.slice A111 t105.1.f0.f4.length c112,.slice A114 t105.1.f0.f5.length c115,.slice A117 t105.1.f0.f6.length c118,.slice A121 t105.1.f1.length c122] 59,box b34 #[iv x43,iv x44,iv x45,iv x46,.slice A47 l49.length c48,.slice A51 l53.length c52,.slice A55 l57.length c56,.slice A59 l61.length c60] 59,box b2 #[iv x.f0,iv x.f1,iv x.f2,iv x.f3,.slice A0_4 x.f4.length c0_4,.slice A0_5 x.f5.length c0_5,.slice A0_6 x.f6.length c0_6] 26,row qC.k 49 (.slice A117 t105.1.f0.f6.length c118) t105.1.f0.f6,row qE.k 40 (.slice A121 t105.1.f1.length c122) t105.1.f1]→qL.j136 kq137 x y z x42 x93 t105 y135=some r→K132 a w':=by
     intro kq137 hkq G y135 a u140 E A S H
     obtain _ | k138:=kq137
     exact zz H
     rw [qL.j136_s]at H
     obtain ⟨J,E⟩:=E.at A
     refine hK132 _ _ (E.ib 120 H (fun c141 E H=>?_) fun c141 E H=>?_)
     refine rr E fun a E=>(wp_ret (qCV (qCW (qCV (qCV (qCW (qCV ?_)))))))
     replace S:=S.pm [] 5
     obtain rfl:=si H
     exact rt1 E ⟨_,rfl,_,rfl,S⟩
     refine wp_skip (hK131 _ _ (sq fun K143 hK143=>pl0 (plc E (.bn 0 0 8 (S.ba 0) .nil) (fun a E=>?_))))
     replace S:=S.front 1 rfl
     refine pls E S [iv t105.1.f0.f0,iv t105.1.f0.f1,iv t105.1.f0.f2,iv t105.1.f0.f3,.slice A111 t105.1.f0.f4.length c112,.slice A114 t105.1.f0.f5.length c115,.slice A117 t105.1.f0.f6.length c118,.slice A121 t105.1.f1.length c122] fun u144 hb34 S a E=>pld (hK143 _ _ (pl0 (plc E (.r 0 2 .nil) (fun a E=>pld ?_))))
     refine qCX ?_
     refine hK78 _ _ (pl0 (plc E (.r 0 3 .nil) (fun a E=>pld ?_)))
     replace S:=S.front 3 rfl
     obtain ⟨F145,hs,g146,S⟩:=S.give
     replace g1_0:=g1_0.mono hs
     replace g2_0:=g2_0.mono hs
     replace g113:=g113.mono hs
     replace g116:=g116.mono hs
     replace g0_4:=g0_4.mono hs
     replace g0_5:=g0_5.mono hs
     replace g0_6:=g0_6.mono hs
     replace S:=S.pm [0] 2
     exact qCY ⟨k138,by omega,_,x93,(w64 (x42+1)),t105.1.f0.f0,t105.1.f0.f1,t105.1.f0.f2,t105.1.f0.f3,A111,c112,t105.1.f0.f4,A114,c115,t105.1.f0.f5,A117,c118,t105.1.f0.f6,A121,c122,t105.1.f1,F145,by omega,E,.of,S,g113,g116,g146,g1_0,g2_0,g0_4,g0_5,g0_6,H⟩
    refine pl0 (plc E (.r 0 6 .nil) (fun a E=>E.fkn 102 H (fun c133 E H=>?_) fun c133 E H=>?_))
    refine plc E (.r 6 18 .nil) (fun a E=>pld ?_)
    exact J139 _ (by omega) _ false _ _ E .of S H
    have hb2:=S.ba 2
    refine plc E (.r 6 1<|.b 7 0 hb2<|.r 8 7<|.nil) (fun a E=>E.fk 111 H (fun c134 E H=>?_) fun c134 E H=>?_)
    refine plc E (.r 15 1<|.b 16 0 hb2<|.r 17 7<|.nil) (fun a E=>pld ?_)
    exact J139 _ (by omega) _ (decide ((w64 ((w64 ((w64 (x.f0+1))+x41)) - ((w64 (IntKind.u8.wrap ((nth 0 z x42).tdiv 16))).tmod (w64 (x41+1)))))≥1)) _ _ E .of S H
    refine plc E (.r 15 9 .nil) (fun a E=>pld ?_)
    exact J139 _ (by omega) _ false _ _ E .of S H
    refine pk2 14 18 ?_ ?_
    replace S:=S.front 2 rfl
    obtain ⟨F107,hs,g108,S⟩:=S.give
    replace g1_0:=g1_0.mono hs
    replace g2_0:=g2_0.mono hs
    replace g50:=g50.mono hs
    replace g54:=g54.mono hs
    replace g58:=g58.mono hs
    replace g103:=g103.mono hs
    replace g0_4:=g0_4.mono hs
    replace g0_5:=g0_5.mono hs
    replace g0_6:=g0_6.mono hs
    refine pk1 14 E (.cl en38 (qAk.calls k96 (⟨(⟨x43,x44,x45,x46,l49,l53,l57⟩:qF),l61⟩:qAi) (w64 ((w64 ((w64 (x.f0+1))+x41)) - ((w64 (IntKind.u8.wrap ((nth 0 z x42).tdiv 16))).tmod (w64 (x41+1))))) (cutl y (w64 (x41 - ((w64 (IntKind.u8.wrap ((nth 0 z x42).tdiv 16))).tmod (w64 (x41+1))))) x93) _ _ _ _ _ _ _ _ _ _ _ _ _ S.own.sub g50 g54 g58 g108 g103 h106)) ?_
    rintro _ u109 a ⟨F110,A111,c112,A114,c115,A117,c118,A121,c122,rfl,hC,g113,g116⟩ E
    refine ⟨.of hC.agr,?_⟩
    have hs:=hC.sub
    replace S:=S.called (X:=[]) hC
    replace g1_0:=g1_0.mono hs
    replace g2_0:=g2_0.mono hs
    replace g50:=g50.mono hs
    replace g54:=g54.mono hs
    replace g58:=g58.mono hs
    replace g108:=g108.mono hs
    replace g103:=g103.mono hs
    replace g0_4:=g0_4.mono hs
    replace g0_5:=g0_5.mono hs
    replace g0_6:=g0_6.mono hs
    refine mny 3 hst E (.r 15 3 .nil) (fun a E=>?_)
    refine on1 18 E (.al (t:=59) S [iv 0,iv 0,iv 0,iv 0,.slice none 0 0,.slice none 0 0,.slice none 0 0,.slice none 0 0]) ?_
    rintro _ u126 a ⟨b125,rfl,hb125,S,hg⟩ E
    refine ⟨.of hg,?_⟩
    replace S:=S.pm [0,3,4,1,2] 5
    exact hJ _ _ ⟨_,b125,A117,c118,A121,c122,A111,c112,A114,c115,F110,E,.of,S,g1_0,g2_0,g113,g116,g50,g54,g58,g108,g0_4,g0_5,g0_6⟩
    refine pk1 18 E (.al (t:=59) S [iv 0,iv 0,iv 0,iv 0,.slice none 0 0,.slice none 0 0,.slice none 0 0,.slice none 0 0]) ?_
    rintro _ u126 a ⟨b125,rfl,hb125,S,hg⟩ E
    refine ⟨.of hg,?_⟩
    replace S:=S.front 3 rfl
    obtain ⟨F107,hs,g108,S⟩:=S.give
    replace g1_0:=g1_0.mono hs
    replace g2_0:=g2_0.mono hs
    replace g50:=g50.mono hs
    replace g54:=g54.mono hs
    replace g58:=g58.mono hs
    replace g103:=g103.mono hs
    replace g0_4:=g0_4.mono hs
    replace g0_5:=g0_5.mono hs
    replace g0_6:=g0_6.mono hs
    refine on1 14 E (.cl en38 (qAk.calls k96 (⟨(⟨x43,x44,x45,x46,l49,l53,l57⟩:qF),l61⟩:qAi) (w64 ((w64 ((w64 (x.f0+1))+x41)) - ((w64 (IntKind.u8.wrap ((nth 0 z x42).tdiv 16))).tmod (w64 (x41+1))))) (cutl y (w64 (x41 - ((w64 (IntKind.u8.wrap ((nth 0 z x42).tdiv 16))).tmod (w64 (x41+1))))) x93) _ _ _ _ _ _ _ _ _ _ _ _ _ S.own.sub g50 g54 g58 g108 g103 h106)) ?_
    rintro _ u109 a ⟨F110,A111,c112,A114,c115,A117,c118,A121,c122,rfl,hC,g113,g116⟩ E
    refine ⟨.of hC.agr,?_⟩
    have hs:=hC.sub
    replace S:=S.called (X:=[]) hC
    replace g1_0:=g1_0.mono hs
    replace g2_0:=g2_0.mono hs
    replace g50:=g50.mono hs
    replace g54:=g54.mono hs
    replace g58:=g58.mono hs
    replace g108:=g108.mono hs
    replace g103:=g103.mono hs
    replace g0_4:=g0_4.mono hs
    replace g0_5:=g0_5.mono hs
    replace g0_6:=g0_6.mono hs
    refine mny 2 hst E (.r 15 3 .nil) (fun a E=>?_)
    replace S:=S.pm [2,3,4,0,1] 5
    exact hJ _ _ ⟨_,b125,A117,c118,A121,c122,A111,c112,A114,c115,F110,E,.of,S,g1_0,g2_0,g113,g116,g50,g54,g58,g108,g0_4,g0_5,g0_6⟩
   refine rr E fun a E=>(E.ik 76 H (fun c92 E H=>?_) fun c92 E H=>?_)
   refine pl0 (plc E (.r 0 3 .nil) (fun a E=>pld ?_))
   exact J97 _ (by omega) _ (y.length:Int) _ _ E .of S H
   refine wp_skip ?_
   exact J97 _ (by omega) _ (w64 (x41+(w64 ((nth 0 z x42).tmod 16)))) _ _ E .of S H
   refine wp_exit ?_
   refine hK38 _ _ (sq fun K148 hK148=>?_)
   refine drawn 12 ⟨[],[],fun q=>False⟩ mixed rfl (by kernel_rfl) (fun hst=>?_)
   replace S:=S.drew
   have hb34:=S.ba 0
   have hb2:=S.ba 1
   obtain ⟨c149,H⟩:=gd H
   obtain ⟨A150,c151,g152,hv153⟩:=qDC (P:=Tryz.prog) g1_0 ⟨Int.le_refl _,c149.1,c149.2⟩ sz40
   refine mny 7 hst E (.bn 0 0 8 hb34<|.bn 2 0 7 hb2<|.r 3 2<|.y 5 (hv153 (by kernel_rfl))<|.nil) (fun a E=>?_)
   replace S:=S.front 2 rfl
   obtain ⟨F154,hs,g155,S⟩:=S.give
   replace g1_0:=g1_0.mono hs
   replace g2_0:=g2_0.mono hs
   replace g50:=g50.mono hs
   replace g54:=g54.mono hs
   replace g58:=g58.mono hs
   replace g0_4:=g0_4.mono hs
   replace g0_5:=g0_5.mono hs
   replace g0_6:=g0_6.mono hs
   replace g152:=g152.mono hs
   obtain ⟨t157,h158,H⟩:=bd H
   refine on1 1 E (.cl en39 (qBr.calls k74 (⟨(⟨x43,x44,x45,x46,l49,l53,l57⟩:qF),l61⟩:qAi) _ _ _ _ _ _ _ _ _ _ _ S.own.sub g50 g54 g58 g155 h158)) ?_
   rintro _ u156 a ⟨F159,A160,c161,A163,c164,A166,c167,rfl,hC,g162,g165⟩ E
   refine ⟨.of hC.agr,?_⟩
   have hs:=hC.sub
   replace S:=S.called (X:=[]) hC
   replace g1_0:=g1_0.mono hs
   replace g2_0:=g2_0.mono hs
   replace g50:=g50.mono hs
   replace g54:=g54.mono hs
   replace g58:=g58.mono hs
   replace g155:=g155.mono hs
   replace g0_4:=g0_4.mono hs
   replace g0_5:=g0_5.mono hs
   replace g0_6:=g0_6.mono hs
   replace g152:=g152.mono hs
   obtain ⟨t171,h172,H⟩:=bd H
   refine on1 6 E (.cl en30 (qAf.calls k74 x (cutl y 0 x41) _ _ _ _ _ _ _ _ _ _ _ S.own.sub g0_4 g0_5 g0_6 g152 h172)) ?_
   rintro _ u170 a ⟨F173,A174,c175,A177,c178,A180,c181,rfl,hC,g176,g179,g182⟩ E
   refine ⟨.of hC.agr,?_⟩
   have hs:=hC.sub
   replace S:=S.called (X:=[]) hC
   replace g1_0:=g1_0.mono hs
   replace g2_0:=g2_0.mono hs
   replace g50:=g50.mono hs
   replace g54:=g54.mono hs
   replace g58:=g58.mono hs
   replace g155:=g155.mono hs
   replace g162:=g162.mono hs
   replace g165:=g165.mono hs
   replace g0_4:=g0_4.mono hs
   replace g0_5:=g0_5.mono hs
   replace g0_6:=g0_6.mono hs
   replace g152:=g152.mono hs
   obtain ⟨t184,h185,H⟩:=bd H
   refine on1 7 E (.cl en16 (qj.calls k74 t157 t171 _ _ _ _ _ _ _ _ _ _ _ _ _ _ _ (Sub.refl _) (g162.mono S.own.sub) (g165.mono S.own.sub) (S.rd_at (i:=0) rfl) (g176.mono S.own.sub) (g179.mono S.own.sub) (g182.mono S.own.sub) h185)) ?_
   rintro _ u183 a ⟨_,rfl,hC⟩ E
   refine ⟨.of hC.agr,?_⟩
   replace S:=S.lent hC
   refine mny 3 hst E (.r 8 1 .nil) (fun a E=>?_)
   refine E.fb 131 H (fun c186 E H=>?_) fun c186 E H=>?_
   obtain ⟨t188,h189,H⟩:=bd H
   refine on1 9 E (.cl en37 (qBC.calls k74 _ _ _ S.own.sub h189)) ?_
   rintro _ u187 a ⟨_,rfl,hC⟩ E
   refine ⟨.of hC.agr,?_⟩
   replace S:=S.lent hC
   refine mny 0 hst E (.r 10 2 .nil) (fun a E=>?_)
   refine dn ?_
   refine hK148 _ _ (wp_ret ?_)
   replace S:=S.pm [] 3
   obtain rfl:=si H
   exact rt1 E ⟨_,rfl,_,rfl,S⟩
   refine mny 0 hst E (.r 9 3 .nil) (fun a E=>?_)
   refine dn ?_
   refine hK148 _ _ (wp_ret ?_)
   replace S:=S.pm [] 3
   obtain rfl:=si H
   exact rt1 E ⟨_,rfl,_,rfl,S⟩
  refine pl0 (plc E (.r 0 5 .nil) (fun a E=>E.fk 44 H (fun c69 E H=>?_) fun c69 E H=>?_))
  refine plc E (.r 5 4 .nil) (fun a E=>E.fk 48 H (fun c70 E H=>?_) fun c70 E H=>?_)
  refine plc E (.r 9 5 .nil) (fun a E=>pld ?_)
  exact J75 _ (by omega) _ (decide (x41<(y.length:Int))) _ _ E .of S H
  refine plc E (.r 9 5 .nil) (fun a E=>pld ?_)
  exact J75 _ (by omega) _ false _ _ E .of S H
  refine plc E (.r 5 9 .nil) (fun a E=>pld ?_)
  exact J75 _ (by omega) _ false _ _ E .of S H
 refine pl0 (plc E (.bn 0 0 7 hb2 .nil) (fun a E=>?_))
 obtain ⟨t7,h8,H⟩:=bd H
 refine plq E S en20 (qW.calls k x _ _ _ _ _ _ _ _ _ S.own.sub g0_4 g0_5 g0_6 h8) fun u6 S a E=>plc E (.r 2 2 .nil) (fun a E=>E.fbn 17 H (fun c9 E H=>?_) fun c9 E H=>?_)
 refine plc E (.r 4 1 .nil) (fun a E=>?_)
 obtain ⟨t11,h12,H⟩:=bd H
 refine plq E S en27 (qt.calls k y _ _ _ _ _ S.own.sub g1_0 h12) fun u10 S a E=>plc E (.r 6 3 .nil) (fun a E=>E.fbn 22 H (fun c13 E H=>?_) fun c13 E H=>?_)
 have hb2:=S.ba 0
 refine plc E (.bn 9 0 7 hb2 .nil) (fun a E=>?_)
 obtain ⟨t15,h16,H⟩:=bd H
 refine plq E S en19 (qf.calls k x _ _ _ _ _ _ _ _ _ S.own.sub g0_4 g0_5 g0_6 h16) fun u14 S a E=>plc E (.r 11 3 .nil) (fun a E=>E.fbn 27 H (fun c17 E H=>?_) fun c17 E H=>?_)
 refine plc E (.r 14 1<|.b 15 0 (S.ba 0)<|.r 16 3<|.nil) (fun a E=>E.fk 32 H (fun c18 E H=>?_) fun c18 E H=>?_)
 refine plc E (.r 19 4 .nil) (fun a E=>pld ?_)
 exact J26 _ (by omega) _ true _ _ E .of S H
 refine plc E (.r 19 1 .nil) (fun a E=>?_)
 obtain ⟨t20,h21,H⟩:=bd H
 refine plq E S en36 (qAj.calls k y _ _ _ _ _ S.own.sub g1_0 h21) fun u19 S a E=>plc E (.r 21 2 .nil) (fun a E=>pld ?_)
 exact J26 _ (by omega) _ (!t20) _ _ E .of S H
 refine plc E (.r 14 9 .nil) (fun a E=>pld ?_)
 exact J26 _ (by omega) _ true _ _ E .of S H
 refine plc E (.r 9 14 .nil) (fun a E=>pld ?_)
 exact J26 _ (by omega) _ true _ _ E .of S H
 refine plc E (.r 4 19 .nil) (fun a E=>pld ?_)
 exact J26 _ (by omega) _ true _ _ E .of S H
end Go.Proofs.YtpohepinmjmbkaaGreat.PP
