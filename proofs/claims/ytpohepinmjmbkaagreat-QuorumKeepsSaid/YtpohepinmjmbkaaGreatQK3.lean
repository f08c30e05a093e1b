import Derived.Test.YtpohepinmjmbkaaGreatQK2
namespace Go.Proofs.YtpohepinmjmbkaaGreat.QK
open Go Go.RowKit Go.Proofs.YtpohepinmjmbkaaGreat.Sl
set_option linter.unusedVariables false
set_option linter.unusedSimpArgs false
set_option maxHeartbeats 4000000
set_option maxRecDepth 100000
mutual
def qAg.l9:Nat→List qB→Int→Option Int
 | 0,_,_=>none
 | k+1,x,x8=>if x8<(x.length:Int) then (if 0≤x8∧x8<(x.length:Int) then (if (nth qB.z x x8).f0<0 then (qAg.j37 k x x8 true) else (if (nth qB.z x x8).f0>2147483647 then (qAg.j37 k x x8 true) else (if (nth qB.z x x8).f1<0 then (qAg.j37 k x x8 true) else (if (nth qB.z x x8).f1>65536 then (qAg.j37 k x x8 true) else (if x8>0 then (if 0≤(w64 (x8 - 1))∧(w64 (x8 - 1))<(x.length:Int) then (qAg.j37 k x x8 (decide ((nth qB.z x x8).f0≤(nth qB.z x (w64 (x8 - 1))).f0))) else (none)) else (qAg.j37 k x x8 false)))))) else (none)) else (some 0)
def qAg.j37:Nat→List qB→Int→Bool→Option Int
 | 0,_,_,_=>none
 | k+1,x,x8,y36=>if y36=true then (some 1) else (qAg.l9 k x (w64 (x8+1)))
end
theorem qAg.l9_s k x x8:type_of% (qAg.l9.eq_2 x x8 k):=qAg.l9.eq_2 x x8 k
theorem qAg.j37_s k x x8 y36:type_of% (qAg.j37.eq_2 x x8 y36 k):=qAg.j37.eq_2 x x8 y36 k
def qAg.f(k:Nat)(x:List qB):Option Int:=if (x.length:Int)>64 then (some 1) else (qAg.l9 k x 0)
def qAg.Post(W F:World)(r:Int)(v:Value)(w':World):Prop:=∃(F':World),v=iv r∧Sm W F w' F' []
theorem qAg.calls(k:Nat)(x:List qB)(A0_0:OA)(c0_0:Nat)(r:Int)(W F:World)(hown:Sub F W)(g0_0:Rd qB.k F A0_0 c0_0 x)(H:qAg.f k x=some r):
    Cr 243 #[.slice A0_0 x.length c0_0] W (qAg.Post W F r):=by
 have S:=sT hown
 unfold qAg.f at H
 refine ent 49 rfl rfl rfl (fun a E=>?_)
 refine rr E fun a E=>(sq fun K2 hK2=>rr E fun a E=>(E.ik 7 H (fun c4 E H=>?_) fun c4 E H=>?_))
 refine rr E fun a E=>(wp_ret (qCA ?_))
 obtain rfl:=si H
 exact rt1 E ⟨_,rfl,_,rfl,S⟩
 refine wp_skip (hK2 _ _ (sq fun K6 hK6=>rr E fun a E=>(wp_block ?_)))
 refine wp_loop_ghost (fun kq10 a w'=>∃(G:NV)(x8:Int),kq10≤k∧Env 49 G a∧At G [(0,.slice A0_0 x.length c0_0),(8,.slice A0_0 x.length c0_0),(9,iv (x.length:Int)),(10,iv x8)]∧Sm W F w' F []∧qAg.l9 kq10 x x8=some r) k ⟨_,0,Nat.le_refl _,E,.of,S,H⟩ ?_
 rintro kq10 a u12 ⟨G,x8,hkq,E,A,S,H⟩
 obtain _ | k11:=kq10
 exact zz H
 rw [qAg.l9_s]at H
 obtain ⟨J,E⟩:=E.at A
 refine rr E fun a E=>(sq fun K14 hK14=>E.ik 11 H (fun c15 E H=>?_) fun c15 E H=>?_)
 refine wp_skip (hK14 _ _ (sq fun K16 hK16=>wp_block (sq fun K17 hK17=>pl0 ?_)))
 obtain ⟨c18,H⟩:=gd H
 have hE_:=E
 obtain ⟨ad19,rfl⟩:=g0_0.addr c18.1 c18.2
 replace E:=hE_
 obtain ⟨cs21,rfl,hc22⟩:=g0_0.el qB.z x8 c18.1 c18.2
 refine plc E (.r 0 1<|.x 1 c18<|.cs 2 (S.fcs hc22)<|.nil) (fun a E=>pla (t:=216) E S [iv 0,iv 0] fun b23 u24 hb23 S a E=>plc E (.r 4 1 .nil) (fun a E=>pls E S [iv ((nth qB.z x x8).f0),iv ((nth qB.z x x8).f1)] fun u25 hb23 S a E=>pld (hK17 _ _ (sq fun K26 hK26=>?_))))
 have J40:∀ kq38,kq38≤k11→∀(G:NV)(y36:Bool)(a:Act)(w':World),Env 49 G a→At G [(0,.slice (some ad19) x.length c0_0),(8,.slice (some ad19) x.length c0_0),(9,iv (x.length:Int)),(10,iv x8),(47,.bool y36)]→Sm W F w' F [box b23 #[iv ((nth qB.z x x8).f0),iv ((nth qB.z x x8).f1)] 216]→qAg.j37 kq38 x x8 y36=some r→K26 a w':=by
  intro kq38 hkq G y36 a u41 E A S H
  obtain _ | k39:=kq38
  exact zz H
  rw [qAg.j37_s]at H
  obtain ⟨J,E⟩:=E.at A
  refine hK26 _ _ (E.ib 47 H (fun c42 E H=>?_) fun c42 E H=>?_)
  refine rr E fun a E=>(wp_ret (qCB (qCA (qCA (qCB (qCA ?_))))))
  replace S:=S.tail
  obtain rfl:=si H
  exact rt1 E ⟨_,rfl,_,rfl,S⟩
  refine wp_skip ?_
  refine qCC ?_
  refine hK16 _ _ (pl0 (plc E (.r 0 2 .nil) (fun a E=>pld ?_)))
  replace S:=S.tail
  exact qCD ⟨k39,by omega,_,(w64 (x8+1)),by omega,E,.of,S,H⟩
 refine drawn 33 ⟨[],[],fun q=>False⟩ mixed rfl (by kernel_rfl) (fun hst=>?_)
 replace S:=S.drew
 have hb23:=S.ba 0
 refine mny 29 hst E (.r 0 1<|.b 1 0 hb23<|.r 2 2<|.nil) (fun a E=>?_)
 refine E.fk 18 H (fun c27 E H=>?_) fun c27 E H=>?_
 refine mny 0 hst E (.r 4 29 .nil) (fun a E=>?_)
 refine dn ?_
 exact J40 _ (by omega) _ true _ _ E .of S H
 refine mny 24 hst E (.r 4 1<|.b 5 0 hb23<|.r 6 3<|.nil) (fun a E=>?_)
 refine E.fk 23 H (fun c28 E H=>?_) fun c28 E H=>?_
 refine mny 0 hst E (.r 9 24 .nil) (fun a E=>?_)
 refine dn ?_
 exact J40 _ (by omega) _ true _ _ E .of S H
 refine mny 19 hst E (.r 9 1<|.b 10 1 hb23<|.r 11 3<|.nil) (fun a E=>?_)
 refine E.fk 28 H (fun c29 E H=>?_) fun c29 E H=>?_
 refine mny 0 hst E (.r 14 19 .nil) (fun a E=>?_)
 refine dn ?_
 exact J40 _ (by omega) _ true _ _ E .of S H
 refine mny 14 hst E (.r 14 1<|.b 15 1 hb23<|.r 16 3<|.nil) (fun a E=>?_)
 refine E.fk 33 H (fun c30 E H=>?_) fun c30 E H=>?_
 refine mny 0 hst E (.r 19 14 .nil) (fun a E=>?_)
 refine dn ?_
 exact J40 _ (by omega) _ true _ _ E .of S H
 refine mny 11 hst E (.r 19 3 .nil) (fun a E=>?_)
 refine E.fk 36 H (fun c31 E H=>?_) fun c31 E H=>?_
 obtain ⟨c32,H⟩:=gd H
 obtain ⟨cs34,rfl,hc35⟩:=g0_0.el qB.z (w64 (x8 - 1)) c32.1 c32.2
 refine mny 0 hst E (.r 22 1<|.b 23 0 hb23<|.r 24 3<|.x 27 c32<|.r 28 1<|.c 29 (S.fc hc35 0)<|.r 30 3<|.nil) (fun a E=>?_)
 refine dn ?_
 exact J40 _ (by omega) _ (decide ((nth qB.z x x8).f0≤(nth qB.z x (w64 (x8 - 1))).f0)) _ _ E .of S H
 refine mny 0 hst E (.r 22 11 .nil) (fun a E=>?_)
 refine dn ?_
 exact J40 _ (by omega) _ false _ _ E .of S H
 refine wp_exit ?_
 refine hK6 _ _ (rr E fun a E=>(wp_ret ?_))
 obtain rfl:=si H
 exact rt1 E ⟨_,rfl,_,rfl,S⟩
def qAW.f(x:List qB):Option (List qB):=if ((([]:List qB).length:Int)+(x.length:Int)) * 16≤140737488355328 then (some (([]:List qB)++x)) else (none)
def qAW.Post(W F:World)(r:List qB)(v:Value)(w':World):Prop:=∃(F':World)(RA0_0:OA)(rc0_0:Nat),v = .slice RA0_0 r.length rc0_0∧Sm W F w' F' [row qB.k 216 (.slice RA0_0 r.length rc0_0) r]
theorem qAW.calls(x:List qB)(A0_0:OA)(c0_0:Nat)(r:List qB)(W F:World)(hown:Sub F W)(g0_0:Rd qB.k F A0_0 c0_0 x)(H:qAW.f x=some r):
    Cr 245 #[.slice A0_0 x.length c0_0] W (qAW.Post W F r):=by
 have S:=sT hown
 unfold qAW.f at H
 refine ent 8 rfl rfl rfl (fun a E=>?_)
 rcases A0_0 with _ | ad1
 have hnil:=g0_0.none_nil
 replace H:(some [])=some r:=by simpa [hnil] using H
 refine rr E fun a E=>(sq fun K3 hK3=>rr E fun a E=>(ct E (rr E fun a E=>(wp_ret (qCA ?_)))))
 replace S:=S.nilrow qB.k 216
 obtain rfl:=si H
 exact rt1 E ⟨_,rfl,_,_,_,rfl,S⟩
 refine rr E fun a E=>(sq fun K8 hK8=>rr E fun a E=>(cf E (wp_skip (hK8 _ _ (sq fun K10 hK10=>pl0 (ple E (.lit (d:=qB.k) (e:=216) S ([]:List qB) (.nil)) ?_))))))
 rintro _ u11 a ⟨A12,c13,rfl,S,hg⟩ E
 refine plc E (.r 1 1 .nil) (fun a E=>?_)
 obtain ⟨c15,H⟩:=gd H
 refine ple E (.ap (d:=qB.k) 16 S (g0_0.src S.own.sub) c15 c0_0) ?_
 rintro _ u18 a ⟨A16,c17,rfl,S,hz⟩ E
 refine plc E (.r 3 1 .nil) (fun a E=>pld (hK10 _ _ (wp_ret ?_)))
 obtain rfl:=si H
 exact rt1 E ⟨_,rfl,_,_,_,rfl,S⟩
def qBU.f(x:qB):Option Bool:=some (x.f1 == 0)
def qBU.Post(W F:World)(r:Bool)(v:Value)(w':World):Prop:=∃(F':World),v = .bool r∧Sm W F w' F' []
theorem qBU.calls(x:qB)(r:Bool)(W F:World)(hown:Sub F W)(H:qBU.f x=some r):
    Cr 246 #[.agg #[iv x.f0,iv x.f1]] W (qBU.Post W F r):=by
 have S:=sT hown
 unfold qBU.f at H
 refine ent 6 rfl rfl rfl (fun a E=>?_)
 refine sq fun K1 hK1=>pl0 (plx (t:=216) E S [iv x.f0,iv x.f1] fun b2 u3 hb2 S a E=>plc E (.r 1 1 .nil) (fun a E=>pld (hK1 _ _ (rg E (.r 0 1<|.b 1 1 hb2<|.r 2 2<|.nil) fun a E=>(wp_ret ?_)))))
 replace S:=S.tail
 obtain rfl:=si H
 exact rt1 E ⟨_,rfl,_,rfl,S⟩
def qBS.l6:Nat→Int→Int→Option Int
 | 0,_,_=>none
 | k+1,x4,x5=>if x5<2 then (qBS.l6 k (IntKind.u64.wrap ((IntKind.u64.wrap (((BitVec.ofInt 64 x4 ^^^ BitVec.ofInt 64 (x4.fdiv 4294967296)).toNat:Int))) * 15485907386658061715)) (w64 (x5+1))) else (some (IntKind.u64.wrap (((BitVec.ofInt 64 x4 ^^^ BitVec.ofInt 64 (x4.fdiv 4294967296)).toNat:Int))))
theorem qBS.l6_s k x4 x5:type_of% (qBS.l6.eq_2 x4 x5 k):=qBS.l6.eq_2 x4 x5 k
def qBS.f(k:Nat)(x:Int):Option Int:=qBS.l6 k x 0
def qBS.Post(W F:World)(r:Int)(v:Value)(w':World):Prop:=∃(F':World),v = .int .u64 r∧Sm W F w' F' []
theorem qBS.calls(k:Nat)(x:Int)(r:Int)(W F:World)(hown:Sub F W)(H:qBS.f k x=some r):
    Cr 250 #[.int .u64 x] W (qBS.Post W F r):=by
 have S:=sT hown
 unfold qBS.f at H
 refine ent 16 rfl rfl rfl (fun a E=>?_)
 refine rr E fun a E=>(sq fun K2 hK2=>rr E fun a E=>(wp_block ?_))
 refine wp_loop_ghost (fun kq7 a w'=>∃(G:NV)(x4:Int)(x5:Int),kq7≤k∧Env 16 G a∧At G [(0,.int .u64 x4),(3,iv x5)]∧Sm W F w' F []∧qBS.l6 kq7 x4 x5=some r) k ⟨_,x,0,Nat.le_refl _,E,.of,S,H⟩ ?_
 rintro kq7 a u9 ⟨G,x4,x5,hkq,E,A,S,H⟩
 obtain _ | k8:=kq7
 exact zz H
 rw [qBS.l6_s]at H
 obtain ⟨J,E⟩:=E.at A
 refine rr E fun a E=>(sq fun K11 hK11=>E.ik 4 H (fun c12 E H=>?_) fun c12 E H=>?_)
 refine wp_skip (hK11 _ _ (sq fun K13 hK13=>wp_block (rr E fun a E=>(pl0 (plc E (.r 0 3 .nil) (fun a E=>pld ?_))))))
 refine qCC ?_
 refine hK13 _ _ (pl0 (plc E (.r 0 2 .nil) (fun a E=>pld ?_)))
 exact qCD ⟨k8,by omega,_,(IntKind.u64.wrap ((IntKind.u64.wrap (((BitVec.ofInt 64 x4 ^^^ BitVec.ofInt 64 (x4.fdiv 4294967296)).toNat:Int))) * 15485907386658061715)),(w64 (x5+1)),by omega,E,.of,S,H⟩
 refine wp_exit ?_
 refine hK2 _ _ (rr E fun a E=>(wp_ret ?_))
 obtain rfl:=si H
 exact rt1 E ⟨_,rfl,_,rfl,S⟩
def qBB.l10:Nat→List Int→Int→Int→Option Int
 | 0,_,_,_=>none
 | k+1,y,x8,x9=>if x9<(y.length:Int) then (if 0≤x9∧x9<(y.length:Int) then ((qBS.f k (IntKind.u64.wrap ((IntKind.u64.wrap (((BitVec.ofInt 64 x8 ^^^ BitVec.ofInt 64 (nth 0 y x9)).toNat:Int)))+11400714819323198485))).bind fun t25=>(qBB.l10 k y t25 (w64 (x9+1)))) else (none)) else (some x8)
theorem qBB.l10_s k y x8 x9:type_of% (qBB.l10.eq_2 y x8 x9 k):=qBB.l10.eq_2 y x8 x9 k
def qBB.f(k:Nat)(x:Int)(y:List Int):Option Int:=(qBS.f k x).bind fun t4=>(qBB.l10 k y t4 0)
def qBB.Post(W F:World)(r:Int)(v:Value)(w':World):Prop:=∃(F':World),v = .int .u64 r∧Sm W F w' F' []
theorem qBB.calls(k:Nat)(x:Int)(y:List Int)(A1_0:OA)(c1_0:Nat)(r:Int)(W F:World)(hown:Sub F W)(g1_0:Rd (Kn.int .u64) F A1_0 c1_0 y)(H:qBB.f k x y=some r):
    Cr 229 #[.int .u64 x,.slice A1_0 y.length c1_0] W (qBB.Post W F r):=by
 have S:=sT hown
 unfold qBB.f at H
 refine ent 23 rfl rfl rfl (fun a E=>?_)
 refine rr E fun a E=>(sq fun K2 hK2=>pl0 (plc E (.r 0 1 .nil) (fun a E=>?_)))
 obtain ⟨t4,h5,H⟩:=bd H
 refine plq E S en250 (qBS.calls k x _ _ _ S.own.sub h5) fun u3 S a E=>plc E (.r 2 1 .nil) (fun a E=>pld (hK2 _ _ (sq fun K6 hK6=>rr E fun a E=>(wp_block ?_))))
 refine wp_loop_ghost (fun kq11 a w'=>∃(G:NV)(x8:Int)(x9:Int),kq11≤k∧Env 23 G a∧At G [(5,.int .u64 x8),(10,.slice A1_0 y.length c1_0),(11,iv (y.length:Int)),(12,iv x9)]∧Sm W F w' F []∧qBB.l10 kq11 y x8 x9=some r) k ⟨_,t4,0,Nat.le_refl _,E,.of,S,H⟩ ?_
 rintro kq11 a u13 ⟨G,x8,x9,hkq,E,A,S,H⟩
 obtain _ | k12:=kq11
 exact zz H
 rw [qBB.l10_s]at H
 obtain ⟨J,E⟩:=E.at A
 refine rr E fun a E=>(sq fun K15 hK15=>E.ik 13 H (fun c16 E H=>?_) fun c16 E H=>?_)
 refine wp_skip (hK15 _ _ (sq fun K17 hK17=>wp_block (sq fun K18 hK18=>pl0 ?_)))
 obtain ⟨c19,H⟩:=gd H
 have hE_:=E
 obtain ⟨ad20,rfl⟩:=g1_0.addr c19.1 c19.2
 replace E:=hE_
 obtain ⟨cs22,rfl,hc23⟩:=g1_0.el 0 x9 c19.1 c19.2
 refine plc E (.x 0 c19<|.c 1 (S.fc hc23 0)<|.r 2 1<|.nil) (fun a E=>pld (hK18 _ _ (pl0 (plc E (.r 0 4 .nil) (fun a E=>?_)))))
 obtain ⟨t25,h26,H⟩:=bd H
 refine plq E S en250 (qBS.calls k12 (IntKind.u64.wrap ((IntKind.u64.wrap (((BitVec.ofInt 64 x8 ^^^ BitVec.ofInt 64 (nth 0 y x9)).toNat:Int)))+11400714819323198485)) _ _ _ S.own.sub h26) fun u24 S a E=>plc E (.r 5 1 .nil) (fun a E=>pld ?_)
 refine qCC ?_
 refine hK17 _ _ (pl0 (plc E (.r 0 2 .nil) (fun a E=>pld ?_)))
 exact qCD ⟨k12,by omega,_,t25,(w64 (x9+1)),by omega,E,.of,S,H⟩
 refine wp_exit ?_
 refine hK6 _ _ (rr E fun a E=>(wp_ret ?_))
 obtain rfl:=si H
 exact rt1 E ⟨_,rfl,_,rfl,S⟩
mutual
def qAJ.j6:Nat→Int→Bool→Option Int
 | 0,_,_=>none
 | k+1,x,y5=>if y5=true then (some 0) else (qAJ.l17 k x 0)
def qAJ.l17:Nat→Int→Int→Option Int
 | 0,_,_=>none
 | k+1,x15,x16=>if x15≤32768 then (qAJ.l17 k (w64 (x15 * 2)) (w64 (x16+1))) else (qAJ.l31 k x16 (IntKind.u64.wrap ((IntKind.u64.wrap x15) * 32768)) 0 0)
def qAJ.l31:Nat→Int→Int→Int→Int→Option Int
 | 0,_,_,_,_=>none
 | k+1,x16,x28,x29,x30=>if x30<16 then (if (IntKind.u64.wrap ((IntKind.u64.wrap (x28 * x28)).tdiv 2147483648))≤1073741824 then (qAJ.l31 k x16 (IntKind.u64.wrap ((IntKind.u64.wrap ((IntKind.u64.wrap (x28 * x28)).tdiv 2147483648)) * 2)) (w64 ((w64 (x29 * 2))+1)) (w64 (x30+1))) else (qAJ.l31 k x16 (IntKind.u64.wrap ((IntKind.u64.wrap (x28 * x28)).tdiv 2147483648)) (w64 (x29 * 2)) (w64 (x30+1)))) else (some (w64 ((w64 (x16 * 65536))+x29)))
end
theorem qAJ.j6_s k x y5:type_of% (qAJ.j6.eq_2 x y5 k):=qAJ.j6.eq_2 x y5 k
theorem qAJ.l17_s k x15 x16:type_of% (qAJ.l17.eq_2 x15 x16 k):=qAJ.l17.eq_2 x15 x16 k
theorem qAJ.l31_s k x16 x28 x29 x30:type_of% (qAJ.l31.eq_2 x16 x28 x29 x30 k):=qAJ.l31.eq_2 x16 x28 x29 x30 k
def qAJ.f(k:Nat)(x:Int):Option Int:=if x<1 then (qAJ.j6 k x true) else (qAJ.j6 k x (decide (x>65536)))
def qAJ.Post(W F:World)(r:Int)(v:Value)(w':World):Prop:=∃(F':World),v=iv r∧Sm W F w' F' []
theorem qAJ.calls(k:Nat)(x:Int)(r:Int)(W F:World)(hown:Sub F W)(H:qAJ.f k x=some r):
    Cr 271 #[iv x] W (qAJ.Post W F r):=by
 have S:=sT hown
 unfold qAJ.f at H
 refine ent 40 rfl rfl rfl (fun a E=>?_)
 refine rr E fun a E=>(sq fun K2 hK2=>sq fun K3 hK3=>?_)
 have J9:∀ kq7,kq7≤k→∀(G:NV)(y5:Bool)(a:Act)(w':World),Env 40 G a→At G [(0,iv x),(11,.bool y5)]→Sm W F w' F []→qAJ.j6 kq7 x y5=some r→K3 a w':=by
  intro kq7 hkq G y5 a u10 E A S H
  obtain _ | k8:=kq7
  exact zz H
  rw [qAJ.j6_s]at H
  obtain ⟨J,E⟩:=E.at A
  refine hK3 _ _ (E.ib 11 H (fun c11 E H=>?_) fun c11 E H=>?_)
  refine rr E fun a E=>(wp_ret (qCA ?_))
  obtain rfl:=si H
  exact rt1 E ⟨_,rfl,_,rfl,S⟩
  refine wp_skip (hK2 _ _ (rr E fun a E=>(sq fun K14 hK14=>wp_block ?_)))
  refine wp_loop_ghost (fun kq18 a w'=>∃(G:NV)(x15:Int)(x16:Int),kq18≤k8∧Env 40 G a∧At G [(0,iv x15),(3,iv x16)]∧Sm W F w' F []∧qAJ.l17 kq18 x15 x16=some r) k8 ⟨_,x,0,Nat.le_refl _,E,.of,S,H⟩ ?_
  rintro kq18 a u20 ⟨G,x15,x16,hkq,E,A,S,H⟩
  obtain _ | k19:=kq18
  exact zz H
  rw [qAJ.l17_s]at H
  obtain ⟨J,E⟩:=E.at A
  refine sq fun K21 hK21=>rr E fun a E=>(E.ik 13 H (fun c23 E H=>?_) fun c23 E H=>?_)
  refine wp_skip (hK21 _ _ (sq fun K24 hK24=>wp_block (pl0 (plc E (.r 0 3 .nil) (fun a E=>pld ?_)))))
  refine qCC ?_
  refine hK24 _ _ (pl0 (plc E (.r 0 3 .nil) (fun a E=>pld ?_)))
  exact qCD ⟨k19,by omega,_,(w64 (x15 * 2)),(w64 (x16+1)),by omega,E,.of,S,H⟩
  refine wp_exit ?_
  refine hK14 _ _ (rr E fun a E=>(sq fun K26 hK26=>rr E fun a E=>(wp_block ?_)))
  refine wp_loop_ghost (fun kq32 a w'=>∃(G:NV)(x28:Int)(x29:Int)(x30:Int),kq32≤k19∧Env 40 G a∧At G [(3,iv x16),(4,.int .u64 x28),(5,iv x29),(21,iv x30)]∧Sm W F w' F []∧qAJ.l31 kq32 x16 x28 x29 x30=some r) k19 ⟨_,(IntKind.u64.wrap ((IntKind.u64.wrap x15) * 32768)),0,0,Nat.le_refl _,E,.of,S,H⟩ ?_
  rintro kq32 a u34 ⟨G,x28,x29,x30,hkq,E,A,S,H⟩
  obtain _ | k33:=kq32
  exact zz H
  rw [qAJ.l31_s]at H
  obtain ⟨J,E⟩:=E.at A
  refine rr E fun a E=>(sq fun K36 hK36=>E.ik 22 H (fun c37 E H=>?_) fun c37 E H=>?_)
  refine wp_skip (hK36 _ _ (sq fun K38 hK38=>wp_block (rr E fun a E=>(rr E fun a E=>(rr E fun a E=>(E.ik 30 H (fun c42 E H=>?_) fun c42 E H=>?_))))))
  refine rr E fun a E=>(pl0 (plc E (.r 0 3 .nil) (fun a E=>pld ?_)))
  refine qCC ?_
  refine hK38 _ _ (pl0 (plc E (.r 0 2 .nil) (fun a E=>pld ?_)))
  exact qCD ⟨k33,by omega,_,(IntKind.u64.wrap ((IntKind.u64.wrap ((IntKind.u64.wrap (x28 * x28)).tdiv 2147483648)) * 2)),(w64 ((w64 (x29 * 2))+1)),(w64 (x30+1)),by omega,E,.of,S,H⟩
  refine wp_skip ?_
  refine qCC ?_
  refine hK38 _ _ (pl0 (plc E (.r 0 2 .nil) (fun a E=>pld ?_)))
  exact qCD ⟨k33,by omega,_,(IntKind.u64.wrap ((IntKind.u64.wrap (x28 * x28)).tdiv 2147483648)),(w64 (x29 * 2)),(w64 (x30+1)),by omega,E,.of,S,H⟩
  refine wp_exit ?_
  refine hK26 _ _ (rr E fun a E=>(wp_ret ?_))
  obtain rfl:=si H
  exact rt1 E ⟨_,rfl,_,rfl,S⟩
 refine pl0 (plc E (.r 0 3 .nil) (fun a E=>E.fk 8 H (fun c4 E H=>?_) fun c4 E H=>?_))
 refine plc E (.r 3 3 .nil) (fun a E=>pld ?_)
 exact J9 _ (by omega) _ true _ _ E .of S H
 refine plc E (.r 3 3 .nil) (fun a E=>pld ?_)
 exact J9 _ (by omega) _ (decide (x>65536)) _ _ E .of S H
def qBg.f(k:Nat)(x:Int)(y:Int):Option Int:=(qBB.f k x [(IntKind.u64.wrap y)]).bind fun t8=>((qAJ.f k (w64 (1+(w64 (t8.fdiv 281474976710656))))).bind fun t11=>(some t11))
def qBg.Post(W F:World)(r:Int)(v:Value)(w':World):Prop:=∃(F':World),v=iv r∧Sm W F w' F' []
theorem qBg.calls(k:Nat)(x:Int)(y:Int)(r:Int)(W F:World)(hown:Sub F W)(H:qBg.f k x y=some r):
    Cr 259 #[.int .u64 x,iv y] W (qBg.Post W F r):=by
 have S:=sT hown
 unfold qBg.f at H
 refine ent 14 rfl rfl rfl (fun a E=>?_)
 refine rr E fun a E=>(sq fun K2 hK2=>pl0 (plc E (.r 0 3 .nil) (fun a E=>ple E (.lit (d:=(Kn.int .u64)) (e:=182) S [(IntKind.u64.wrap y)] (.cons rfl .nil)) ?_)))
 rintro _ u3 a ⟨A4,c5,rfl,S,hg⟩ E
 obtain ⟨t8,h9,H⟩:=bd H
 refine plq E S en229 (qBB.calls k x [(IntKind.u64.wrap y)] _ _ _ _ _ (Sub.refl _) (S.rd_at (i:=0) rfl) h9) fun u7 S a E=>plc E (.r 5 3 .nil) (fun a E=>?_)
 obtain ⟨t11,h12,H⟩:=bd H
 refine plq E S en271 (qAJ.calls k (w64 (1+(w64 (t8.fdiv 281474976710656)))) _ _ _ S.own.sub h12) fun u10 S a E=>plc E (.r 9 1 .nil) (fun a E=>pld (hK2 _ _ (wp_ret ?_)))
 replace S:=S.tail
 obtain rfl:=si H
 exact rt1 E ⟨_,rfl,_,rfl,S⟩
def qBQ.f(x:Int):Option Bool:=if x≥0 then (some (decide (x≤2147483647))) else (some false)
def qBQ.Post(W F:World)(r:Bool)(v:Value)(w':World):Prop:=∃(F':World),v = .bool r∧Sm W F w' F' []
theorem qBQ.calls(x:Int)(r:Bool)(W F:World)(hown:Sub F W)(H:qBQ.f x=some r):
    Cr 272 #[iv x] W (qBQ.Post W F r):=by
 have S:=sT hown
 unfold qBQ.f at H
 refine ent 9 rfl rfl rfl (fun a E=>?_)
 refine rr E fun a E=>(sq fun K2 hK2=>pl0 (plc E (.r 0 3 .nil) (fun a E=>E.fk 5 H (fun c3 E H=>?_) fun c3 E H=>?_)))
 refine plc E (.r 3 4 .nil) (fun a E=>pld (hK2 _ _ (wp_ret ?_)))
 obtain rfl:=si H
 exact rt1 E ⟨_,rfl,_,rfl,S⟩
 refine plc E (.r 3 4 .nil) (fun a E=>pld (hK2 _ _ (wp_ret ?_)))
 obtain rfl:=si H
 exact rt1 E ⟨_,rfl,_,rfl,S⟩
def qBC.f(x:Int)(y:Int)(z:Int)(p:Int):Option Bool:=(qBQ.f x).bind fun t4=>(if t4=true then ((qBQ.f y).bind fun t8=>(if t8=true then ((qBQ.f z).bind fun t12=>(if t12=true then ((qBQ.f p).bind fun t16=>(if t16=true then (if y>0 then (if p>0 then (some (decide ((w64 (x * p))<(w64 (z * y))))) else (some false)) else (some false)) else (some false))) else (some false))) else (some false))) else (some false))
def qBC.Post(W F:World)(r:Bool)(v:Value)(w':World):Prop:=∃(F':World),v = .bool r∧Sm W F w' F' []
theorem qBC.calls(x:Int)(y:Int)(z:Int)(p:Int)(r:Bool)(W F:World)(hown:Sub F W)(H:qBC.f x y z p=some r):
    Cr 260 #[iv x,iv y,iv z,iv p] W (qBC.Post W F r):=by
 have S:=sT hown
 unfold qBC.f at H
 refine ent 40 rfl rfl rfl (fun a E=>?_)
 refine rr E fun a E=>(sq fun K2 hK2=>pl0 (plc E (.r 0 1 .nil) (fun a E=>?_)))
 obtain ⟨t4,h5,H⟩:=bd H
 refine plq E S en272 (qBQ.calls x _ _ _ S.own.sub h5) fun u3 S a E=>plc E (.r 2 1 .nil) (fun a E=>E.fb 11 H (fun c6 E H=>?_) fun c6 E H=>?_)
 refine plc E (.r 3 1 .nil) (fun a E=>?_)
 obtain ⟨t8,h9,H⟩:=bd H
 refine plq E S en272 (qBQ.calls y _ _ _ S.own.sub h9) fun u7 S a E=>plc E (.r 5 2 .nil) (fun a E=>E.fb 15 H (fun c10 E H=>?_) fun c10 E H=>?_)
 refine plc E (.r 7 1 .nil) (fun a E=>?_)
 obtain ⟨t12,h13,H⟩:=bd H
 refine plq E S en272 (qBQ.calls z _ _ _ S.own.sub h13) fun u11 S a E=>plc E (.r 9 2 .nil) (fun a E=>E.fb 19 H (fun c14 E H=>?_) fun c14 E H=>?_)
 refine plc E (.r 11 1 .nil) (fun a E=>?_)
 obtain ⟨t16,h17,H⟩:=bd H
 refine plq E S en272 (qBQ.calls p _ _ _ S.own.sub h17) fun u15 S a E=>plc E (.r 13 2 .nil) (fun a E=>E.fb 23 H (fun c18 E H=>?_) fun c18 E H=>?_)
 refine plc E (.r 15 4 .nil) (fun a E=>E.fk 27 H (fun c19 E H=>?_) fun c19 E H=>?_)
 refine plc E (.r 19 4 .nil) (fun a E=>E.fk 31 H (fun c20 E H=>?_) fun c20 E H=>?_)
 refine plc E (.r 23 9 .nil) (fun a E=>pld (hK2 _ _ (wp_ret ?_)))
 obtain rfl:=si H
 exact rt1 E ⟨_,rfl,_,rfl,S⟩
 refine plc E (.r 23 9 .nil) (fun a E=>pld (hK2 _ _ (wp_ret ?_)))
 obtain rfl:=si H
 exact rt1 E ⟨_,rfl,_,rfl,S⟩
 refine plc E (.r 19 13 .nil) (fun a E=>pld (hK2 _ _ (wp_ret ?_)))
 obtain rfl:=si H
 exact rt1 E ⟨_,rfl,_,rfl,S⟩
 refine plc E (.r 15 17 .nil) (fun a E=>pld (hK2 _ _ (wp_ret ?_)))
 obtain rfl:=si H
 exact rt1 E ⟨_,rfl,_,rfl,S⟩
 refine plc E (.r 11 21 .nil) (fun a E=>pld (hK2 _ _ (wp_ret ?_)))
 obtain rfl:=si H
 exact rt1 E ⟨_,rfl,_,rfl,S⟩
 refine plc E (.r 7 25 .nil) (fun a E=>pld (hK2 _ _ (wp_ret ?_)))
 obtain rfl:=si H
 exact rt1 E ⟨_,rfl,_,rfl,S⟩
 refine plc E (.r 3 29 .nil) (fun a E=>pld (hK2 _ _ (wp_ret ?_)))
 obtain rfl:=si H
 exact rt1 E ⟨_,rfl,_,rfl,S⟩
def qBV.f(k:Nat)(x:Int)(y:qB)(z:qB):Option Int:=(qBg.f k x y.f0).bind fun t8=>((qBg.f k x z.f0).bind fun t11=>((qBC.f t8 y.f1 t11 z.f1).bind fun t16=>(if t16=true then (some (-1)) else ((qBC.f t11 z.f1 t8 y.f1).bind fun t22=>(if t22=true then (some 1) else (some (w64 (y.f0 - z.f0))))))))
def qBV.Post(W F:World)(r:Int)(v:Value)(w':World):Prop:=∃(F':World),v=iv r∧Sm W F w' F' []
theorem qBV.calls(k:Nat)(x:Int)(y:qB)(z:qB)(r:Int)(W F:World)(hown:Sub F W)(H:qBV.f k x y z=some r):
    Cr 249 #[.int .u64 x,.agg #[iv y.f0,iv y.f1],.agg #[iv z.f0,iv z.f1]] W (qBV.Post W F r):=by
 have S:=sT hown
 unfold qBV.f at H
 refine ent 38 rfl rfl rfl (fun a E=>?_)
 refine sq fun K1 hK1=>pl0 (plx (t:=216) E S [iv y.f0,iv y.f1] fun b2 u3 hb2 S a E=>plx (t:=216) E S [iv z.f0,iv z.f1] fun b4 u5 hb4 S a E=>plc E (.r 2 1 .nil) (fun a E=>pld (hK1 _ _ (sq fun K6 hK6=>?_))))
 refine drawn 10 ⟨[],[],fun q=>False⟩ mixed rfl (by kernel_rfl) (fun hst=>?_)
 replace S:=S.drew
 have hb2:=S.ba 1
 have hb4:=S.ba 0
 refine mny 4 hst E (.r 0 2<|.b 2 0 hb2<|.r 4 2<|.b 6 0 hb4<|.nil) (fun a E=>?_)
 obtain ⟨t8,h9,H⟩:=bd H
 refine on1 3 E (.cl en259 (qBg.calls k x y.f0 _ _ _ S.own.sub h9)) ?_
 rintro _ u7 a ⟨_,rfl,hC⟩ E
 refine ⟨.of hC.agr,?_⟩
 replace S:=S.lent hC
 obtain ⟨t11,h12,H⟩:=bd H
 refine on1 7 E (.cl en259 (qBg.calls k x z.f0 _ _ _ S.own.sub h12)) ?_
 rintro _ u10 a ⟨_,rfl,hC⟩ E
 refine ⟨.of hC.agr,?_⟩
 replace S:=S.lent hC
 refine mny 0 hst E (.r 8 2 .nil) (fun a E=>?_)
 refine dn ?_
 refine hK6 _ _ (sq fun K13 hK13=>wp_block (sq fun K14 hK14=>pl0 (plc E (.r 0 2<|.b 2 1 (S.ba 1)<|.r 3 2<|.b 5 1 (S.ba 0)<|.nil) (fun a E=>?_))))
 obtain ⟨t16,h17,H⟩:=bd H
 refine plq E S en260 (qBC.calls t8 y.f1 t11 z.f1 _ _ _ S.own.sub h17) fun u15 S a E=>plc E (.r 7 1 .nil) (fun a E=>pld (hK14 _ _ (E.ib 17 H (fun c18 E H=>?_) fun c18 E H=>?_)))
 refine rr E fun a E=>(wp_ret (qCB (qCA ?_)))
 replace S:=S.pm [] 2
 obtain rfl:=si H
 exact rt1 E ⟨_,rfl,_,rfl,S⟩
 refine sq fun K20 hK20=>pl0 (plc E (.r 0 2<|.b 2 1 (S.ba 0)<|.r 3 2<|.b 5 1 (S.ba 1)<|.nil) (fun a E=>?_))
 obtain ⟨t22,h23,H⟩:=bd H
 refine plq E S en260 (qBC.calls t11 z.f1 t8 y.f1 _ _ _ S.own.sub h23) fun u21 S a E=>plc E (.r 7 1 .nil) (fun a E=>pld (hK20 _ _ (E.ib 25 H (fun c24 E H=>?_) fun c24 E H=>?_)))
 refine rr E fun a E=>(wp_ret (qCB (qCA ?_)))
 replace S:=S.pm [] 2
 obtain rfl:=si H
 exact rt1 E ⟨_,rfl,_,rfl,S⟩
 refine wp_skip ?_
 refine qCC ?_
 refine hK13 _ _ (rg E (.r 0 1<|.b 1 0 (S.ba 1)<|.r 2 1<|.b 3 0 (S.ba 0)<|.r 4 2<|.nil) fun a E=>(wp_ret ?_))
 replace S:=S.pm [] 2
 obtain rfl:=si H
 exact rt1 E ⟨_,rfl,_,rfl,S⟩
def qL.l5:Nat→List qB→Int→Option Int
 | 0,_,_=>none
 | k+1,x,x4=>if x4<(x.length:Int) then (if 0≤x4∧x4<(x.length:Int) then ((qBU.f (nth qB.z x x4)).bind fun t21=>(if t21=true then (some x4) else (qL.l5 k x (w64 (x4+1))))) else (none)) else (some (-1))
theorem qL.l5_s k x x4:type_of% (qL.l5.eq_2 x x4 k):=qL.l5.eq_2 x x4 k
def qL.f(k:Nat)(x:List qB):Option Int:=qL.l5 k x 0
def qL.Post(W F:World)(r:Int)(v:Value)(w':World):Prop:=∃(F':World),v=iv r∧Sm W F w' F' []
theorem qL.calls(k:Nat)(x:List qB)(A0_0:OA)(c0_0:Nat)(r:Int)(W F:World)(hown:Sub F W)(g0_0:Rd qB.k F A0_0 c0_0 x)(H:qL.f k x=some r):
    Cr 257 #[.slice A0_0 x.length c0_0,.func (.func 246) #[] #[]] W (qL.Post W F r):=by
 have S:=sT hown
 unfold qL.f at H
 refine ent 19 rfl rfl rfl (fun a E=>?_)
 refine rr E fun a E=>(sq fun K2 hK2=>rr E fun a E=>(wp_block ?_))
 refine wp_loop_ghost (fun kq6 a w'=>∃(G:NV)(x4:Int),kq6≤k∧Env 19 G a∧At G [(0,.slice A0_0 x.length c0_0),(1,.func (.func 246) #[] #[]),(7,iv (x.length:Int)),(8,iv x4)]∧Sm W F w' F []∧qL.l5 kq6 x x4=some r) k ⟨_,0,Nat.le_refl _,E,.of,S,H⟩ ?_
 rintro kq6 a u8 ⟨G,x4,hkq,E,A,S,H⟩
 obtain _ | k7:=kq6
 exact zz H
 rw [qL.l5_s]at H
 obtain ⟨J,E⟩:=E.at A
 refine rr E fun a E=>(sq fun K10 hK10=>E.ik 9 H (fun c11 E H=>?_) fun c11 E H=>?_)
 refine wp_skip (hK10 _ _ (sq fun K12 hK12=>wp_block (rr E fun a E=>(sq fun K14 hK14=>pl0 ?_))))
 obtain ⟨c15,H⟩:=gd H
 have hE_:=E
 obtain ⟨ad16,rfl⟩:=g0_0.addr c15.1 c15.2
 replace E:=hE_
 obtain ⟨cs18,rfl,hc19⟩:=g0_0.el qB.z x4 c15.1 c15.2
 refine plc E (.r 0 3<|.x 3 c15<|.cs 4 (S.fcs hc19)<|.nil) (fun a E=>?_)
 obtain ⟨t21,h22,H⟩:=bd H
 refine plq E S en246 (qBU.calls (nth qB.z x x4) _ _ _ S.own.sub h22) fun u20 S a E=>pld (hK14 _ _ (E.ib 16 H (fun c23 E H=>?_) fun c23 E H=>?_))
 refine rr E fun a E=>(wp_ret (qCB (qCA (qCA (qCB (qCA ?_))))))
 obtain rfl:=si H
 exact rt1 E ⟨_,rfl,_,rfl,S⟩
 refine wp_skip ?_
 refine qCC ?_
 refine hK12 _ _ (pl0 (plc E (.r 0 2 .nil) (fun a E=>pld ?_)))
 exact qCD ⟨k7,by omega,_,(w64 (x4+1)),by omega,E,.of,S,H⟩
 refine wp_exit ?_
 refine hK2 _ _ (rr E fun a E=>(wp_ret ?_))
 obtain rfl:=si H
 exact rt1 E ⟨_,rfl,_,rfl,S⟩
def qM.l15:Nat→List qB→List qB→Int→Int→Option (List qB)
 | 0,_,_,_,_=>none
 | k+1,x,l12,x13,x14=>if x14<(x.length:Int) then (if 0≤x14∧x14<(x.length:Int) then ((qBU.f (nth qB.z l12 x14)).bind fun t36=>(if t36=true then (qM.l15 k x l12 x13 (w64 (x14+1))) else (if 0≤x13∧x13<(x.length:Int) then (qM.l15 k x (l12.set (x13).toNat (nth qB.z l12 x14)) (w64 (x13+1)) (w64 (x14+1))) else (none)))) else (none)) else (if 0≤x13∧x13≤(x.length:Int) then (some (cutl (l12.take (x13).toNat++List.replicate (x.length - (x13).toNat) qB.z) 0 x13)) else (none))
theorem qM.l15_s k x l12 x13 x14:type_of% (qM.l15.eq_2 x l12 x13 x14 k):=qM.l15.eq_2 x l12 x13 x14 k
def qM.f(k:Nat)(x:List qB):Option (List qB):=(qL.f k x).bind fun t4=>(if t4=(-1) then (some x) else (qM.l15 k x x t4 (w64 (t4+1))))
def qM.Post(x:List qB)(A0_0:OA)(c0_0:Nat)(W F:World)(r:List qB)(v:Value)(w':World):Prop:=∃(F':World)(RA0_0:OA)(rc0_0:Nat),v = .slice RA0_0 r.length rc0_0∧St W (mine W [row qB.k 216 (.slice A0_0 x.length c0_0) x]) F w' F' [row qB.k 216 (.slice RA0_0 r.length rc0_0) r]
theorem qM.calls(k:Nat)(x:List qB)(A0_0:OA)(c0_0:Nat)(r:List qB)(W F:World)(hown:Own W F [row qB.k 216 (.slice A0_0 x.length c0_0) x])(H:qM.f k x=some r):
    Cr 244 #[.slice A0_0 x.length c0_0,.func (.func 246) #[] #[]] W (qM.Post x A0_0 c0_0 W F r):=by
 have S:=St.start hown
 obtain ⟨N,hN⟩:∃ N,N=mine W [row qB.k 216 (.slice A0_0 x.length c0_0) x]:=⟨_,rfl⟩
 rw [← hN]at S
 unfold qM.f at H
 refine ent 42 rfl rfl rfl (fun a E=>?_)
 refine rr E fun a E=>(sq fun K2 hK2=>pl0 (plc E (.r 0 2 .nil) (fun a E=>?_)))
 obtain ⟨t4,h5,H⟩:=bd H
 refine plq E S en257 (qL.calls k x _ _ _ _ _ (Sub.refl _) (S.rd_at (i:=0) rfl) h5) fun u3 S a E=>plc E (.r 3 1 .nil) (fun a E=>pld (hK2 _ _ (sq fun K6 hK6=>rr E fun a E=>(E.ik 12 H (fun c8 E H=>?_) fun c8 E H=>?_))))
 refine rr E fun a E=>(wp_ret (qCA ?_))
 rw [hN]at S
 obtain rfl:=si H
 exact rt1 E ⟨_,rfl,_,_,_,rfl,S⟩
 refine wp_skip (hK6 _ _ (sq fun K10 hK10=>rr E fun a E=>(wp_block ?_)))
 refine wp_loop_ghost (fun kq16 a w'=>∃(G:NV)(l12:List qB)(x13:Int)(x14:Int),kq16≤k∧Env 42 G a∧At G [(0,.slice A0_0 x.length c0_0),(1,.func (.func 246) #[] #[]),(5,iv x13),(6,iv x14)]∧St W N F w' F [row qB.k 216 (.slice A0_0 x.length c0_0) l12]∧qM.l15 kq16 x l12 x13 x14=some r) k ⟨_,x,t4,(w64 (t4+1)),Nat.le_refl _,E,.of,S,H⟩ ?_
 rintro kq16 a u18 ⟨G,l12,x13,x14,hkq,E,A,S,H⟩
 obtain _ | k17:=kq16
 exact zz H
 rw [qM.l15_s]at H
 obtain ⟨J,E⟩:=E.at A
 refine sq fun K19 hK19=>rr E fun a E=>(E.ik 19 H (fun c21 E H=>?_) fun c21 E H=>?_)
 refine wp_skip (hK19 _ _ (sq fun K22 hK22=>wp_block (sq fun K23 hK23=>pl0 ?_)))
 obtain ⟨c24,H⟩:=gd H
 have hr25:=S.ra 0
 have c26:0≤x14∧x14<(l12.length:Int):=by rw [← (qCE hr25).1]; exact c24
 have hE_:=E
 obtain ⟨b27,rfl⟩:=qCJ hr25 c26.1 c26.2
 replace E:=hE_
 have hr_:=S.ra 0
 obtain ⟨cs29,rfl,hc30⟩:=qCF hr_ qB.z x14 c26.1 c26.2
 refine plc E (.r 0 2<|.x 2 c24<|.cs 3 hc30<|.nil) (fun a E=>pla (t:=216) E S [iv 0,iv 0] fun b31 u32 hb31 S a E=>pls E S [iv ((nth qB.z l12 x14).f0),iv ((nth qB.z l12 x14).f1)] fun u33 hb31 S a E=>pld (hK23 _ _ (sq fun K34 hK34=>pl0 (plc E (.r 0 1<|.bn 1 0 2 hb31<|.nil) (fun a E=>?_)))))
 obtain ⟨t36,h37,H⟩:=bd H
 refine plq E S en246 (qBU.calls (nth qB.z l12 x14) _ _ _ S.own.sub h37) fun u35 S a E=>plc E (.r 3 1 .nil) (fun a E=>pld (hK34 _ _ (E.ibn 29 H (fun c38 E H=>?_) fun c38 E H=>?_)))
 refine wp_skip ?_
 refine qCC ?_
 refine hK22 _ _ (pl0 (plc E (.r 0 3 .nil) (fun a E=>pld ?_)))
 replace S:=S.tail
 exact qCD ⟨k17,by omega,_,l12,x13,(w64 (x14+1)),by omega,E,.of,S,H⟩
 refine sq fun K39 hK39=>pl0 ?_
 have hb31:=S.ba 0
 obtain ⟨c40,H⟩:=gd H
 have hr41:=S.ra 1
 have c42:0≤x13∧x13<(l12.length:Int):=by rw [← (qCE hr41).1]; exact c40
 have hr_:=S.ra 1
 obtain ⟨cs44,rfl,hc45⟩:=qCF hr_ qB.z x13 c42.1 c42.2
 refine plc E (.r 0 2<|.bn 2 0 2 hb31<|.x 3 c40<|.nil) (fun a E=>?_)
 replace S:=S.front 1 rfl
 obtain ⟨cs47,rfl,hc48⟩:=qCF (S.row_at (i:=0) rfl) qB.z x13 c42.1 c42.2
 refine ple E (.set (d:=qB.k) (n:=x.length) (i:=x13) (nth qB.z l12 x14) (0) (ea0 _ _) S c42 [iv ((nth qB.z l12 x13).f0),iv ((nth qB.z l12 x13).f1)] hc48 [iv ((nth qB.z l12 x14).f0),iv ((nth qB.z l12 x14).f1)] rfl) ?_
 rintro _ u46 a ⟨rfl,S,hz⟩ E
 refine pld (hK39 _ _ (pl0 (plc E (.r 0 3 .nil) (fun a E=>pld ?_))))
 refine qCC ?_
 refine hK22 _ _ (pl0 (plc E (.r 0 3 .nil) (fun a E=>pld ?_)))
 replace S:=S.pm [0] 2
 exact qCD ⟨k17,by omega,_,(l12.set (x13).toNat (nth qB.z l12 x14)),(w64 (x13+1)),(w64 (x14+1)),by omega,E,.of,S,H⟩
 refine wp_exit ?_
 refine hK10 _ _ (sq fun K49 hK49=>pl0 ?_)
 obtain ⟨c50,H⟩:=gd H
 obtain ⟨A51,c52,hA53,hv54⟩:=y_suf (P:=Tryz.prog) (k:=.i64) (S.row_at (i:=0) rfl) c50
 refine plc E (.r 0 2<|.y 2 (hv54 (by kernel_rfl))<|.nil) (fun a E=>ple E (.clr (d:=qB.k) (n:=x.length) (c':=c52) (lo:=x13) 16 qB.z S c50 hA53 (by rw [zr216]; exact rfl)) ?_)
 rintro _ u55 a ⟨rfl,S,hz⟩ E
 refine pld (hK49 _ _ (sq fun K56 hK56=>pl0 ?_))
 have hv57:=S.ra 0
 replace S:=S.shrink c50
 refine plc E (.r 0 2<|.y 2 (y_pre (k:=.i64) hv57 c50)<|.r 3 1<|.nil) (fun a E=>pld (hK56 _ _ (wp_ret ?_)))
 rw [hN]at S
 obtain rfl:=si H
 exact rt1 E ⟨_,rfl,_,_,_,rfl,S⟩
def qBb.f(k:Nat)(x:qB)(y:qB)(xf0_:Int):Option Int:=(qBV.f k xf0_ x y).bind fun t8=>(some t8)
def qBb.Post(W F:World)(r:Int)(v:Value)(w':World):Prop:=∃(F':World),v=iv r∧Sm W F w' F' []
theorem qBb.calls(k:Nat)(x:qB)(y:qB)(xf0_:Int)(pf0_:Nat)(r:Int)(W F:World)(hown:Sub F W)(hpf0_:F.heap[pf0_]? = some (.cells #[.int .u64 xf0_] 182 (0,0)))(H:qBb.f k x y xf0_=some r):
    Cr 248 #[.agg #[iv x.f0,iv x.f1],.agg #[iv y.f0,iv y.f1],.pointer (pb pf0_)] W (qBb.Post W F r):=by
 have S:=sT hown
 unfold qBb.f at H
 refine ent 10 rfl rfl rfl (fun a E=>?_)
 refine sq fun K1 hK1=>pl0 (plx (t:=216) E S [iv x.f0,iv x.f1] fun b2 u3 hb2 S a E=>plx (t:=216) E S [iv y.f0,iv y.f1] fun b4 u5 hb4 S a E=>plc E (.r 2 1 .nil) (fun a E=>pld (hK1 _ _ (sq fun K6 hK6=>pl0 (plc E (.b 0 0 (S.own.sub _ _ _ _ hpf0_)<|.bn 1 0 2 (S.ba 1)<|.bn 2 0 2 hb4<|.nil) (fun a E=>?_))))))
 obtain ⟨t8,h9,H⟩:=bd H
 refine plq E S en249 (qBV.calls k xf0_ x y _ _ _ S.own.sub h9) fun u7 S a E=>plc E (.r 4 1 .nil) (fun a E=>pld (hK6 _ _ (wp_ret ?_)))
 replace S:=S.pm [] 2
 obtain rfl:=si H
 exact rt1 E ⟨_,rfl,_,rfl,S⟩
def qB.enc(x:qB):List Value:=[iv x.f0,iv x.f1]
instance:Inhabited qB:=⟨qB.z⟩
def qb.cmp(k:Nat)(x1c0_:Int)(a b:qB):Option Int:=qBb.f k a b x1c0_
def qb.f(k:Nat)(x0_:List qB)(x1c0_:Int):Option (List qB):=sortO (qb.cmp k x1c0_) x0_
def qb.Post(x0_:List qB)(x1c0_:Int)(A0_0:Option Addr)(c0_0:Nat)(p1c0_:Nat)(W F:World)(r:List qB)(v:Value)(w':World):Prop:=∃(F':World),v = .tuple #[]∧St W (mine W [row qB.k 216 (.slice A0_0 x0_.length c0_0) x0_]) F w' F' [row qB.k 216 (.slice A0_0 x0_.length c0_0) r]
set_option maxRecDepth 100000 in
theorem qb.calls(k:Nat)(x0_:List qB)(x1c0_:Int)(A0_0:Option Addr)(c0_0:Nat)(p1c0_:Nat)(r:List qB)(W F:World)(hown:Own W F [row qB.k 216 (.slice A0_0 x0_.length c0_0) x0_])(hp1c0_:F.heap[p1c0_]? = some (.cells #[.int .u64 x1c0_] 182 (0,0)))(H:qb.f k x0_ x1c0_=some r):
  Calls Tryz.prog 247 #[.slice A0_0 x0_.length c0_0,.func (.func 248) #[] #[.pointer (pb p1c0_)]] W fun e w'=>∃ v,e = .returned v∧qb.Post x0_ x1c0_ A0_0 c0_0 p1c0_ W F r v w' :=
 qFU Tryz.sort247 2 rfl (fun w=>qDM ag216 w) (fun w=>qCS sz216 w) qB.enc (fun x=>rfl) (fun x v hv=>by simp only [qB.enc,List.mem_cons,List.not_mem_nil,or_false]at hv; rcases hv with rfl | rfl <;> rfl) (fun F x cs=>Iff.rfl) (qb.cmp k x1c0_) 248 #[.pointer (pb p1c0_)] en248 hown (fun x y v W' hs hc=>(qBb.calls k x y x1c0_ _ v W' F hs hp1c0_ hc).mono fun en w' ⟨u,h1,F',h2,h3⟩=>⟨u,h1,F',h2,h3⟩) H
def qAu.l44:Nat→List qB→List qB→List Int→Int→Option (List Int)
 | 0,_,_,_,_=>none
 | k+1,t22,t33,l42,x43=>if x43<(t22.length:Int) then (if 0≤x43∧x43<(t22.length:Int) then (if ((l42.length:Int)+((1:Nat):Int)) * 8≤140737488355328 then (qAu.l44 k t22 t33 (l42++[(nth qB.z t33 x43).f0]) (w64 (x43+1))) else (none)) else (none)) else (some l42)
theorem qAu.l44_s k t22 t33 l42 x43:type_of% (qAu.l44.eq_2 t22 t33 l42 x43 k):=qAu.l44.eq_2 t22 t33 l42 x43 k
def qAu.f(k:Nat)(x:Int)(y:List qB):Option (List Int):=(qAg.f k y).bind fun t7=>(if t7=0 then ((qAW.f y).bind fun t14=>((qM.f k t14).bind fun t22=>((qb.f k t22 x).bind fun t33=>(qAu.l44 k t22 t33 [] 0)))) else (some []))
def qAu.Post(W F:World)(r:List Int)(v:Value)(w':World):Prop:=∃(F':World)(RA0_0:OA)(rc0_0:Nat),v = .slice RA0_0 r.length rc0_0∧Sm W F w' F' [row ki 3 (.slice RA0_0 r.length rc0_0) r]
theorem qAu.calls(k:Nat)(x:Int)(y:List qB)(A1_0:OA)(c1_0:Nat)(r:List Int)(W F:World)(hown:Sub F W)(g1_0:Rd qB.k F A1_0 c1_0 y)(H:qAu.f k x y=some r):
    Cr 228 #[.int .u64 x,.slice A1_0 y.length c1_0] W (qAu.Post W F r):=by
 have S:=sT hown
 unfold qAu.f at H
 refine ent 30 rfl rfl rfl (fun a E=>?_)
 refine sq fun K1 hK1=>pl0 (plx (t:=182) E S [.int .u64 x] fun b2 u3 hb2 S a E=>plc E (.r 1 1 .nil) (fun a E=>pld (hK1 _ _ (sq fun K4 hK4=>sq fun K5 hK5=>pl0 (plc E (.r 0 1 .nil) (fun a E=>?_))))))
 obtain ⟨t7,h8,H⟩:=bd H
 refine plq E S en243 (qAg.calls k y _ _ _ _ _ S.own.sub g1_0 h8) fun u6 S a E=>plc E (.r 2 1 .nil) (fun a E=>pld (hK5 _ _ (E.ikn 10 H (fun c9 E H=>?_) fun c9 E H=>?_)))
 refine wp_skip (hK4 _ _ (sq fun K12 hK12=>pl0 (plc E (.r 0 1 .nil) (fun a E=>?_))))
 obtain ⟨t14,h15,H⟩:=bd H
 refine ple E (.cl en245 (qAW.calls y _ _ _ _ _ S.own.sub g1_0 h15)) ?_
 rintro _ u13 a ⟨F16,A17,c18,rfl,hC⟩ E
 have hs:=hC.sub
 replace S:=S.called (X:=[]) hC
 replace g1_0:=g1_0.mono hs
 obtain ⟨t22,h23,H⟩:=bd H
 refine ple E (.cl en244 (qM.calls k t14 _ _ _ _ _ (Own.left (X:=[row qB.k 216 (.slice A17 t14.length c18) t14]) S.own) h23)) ?_
 rintro _ u21 a ⟨F24,A25,c26,rfl,hC⟩ E
 have hs:=hC.sub
 replace S:=S.called (X:=[row qB.k 216 (.slice A17 t14.length c18) t14]) hC
 replace g1_0:=g1_0.mono hs
 refine plc E (.r 3 1 .nil) (fun a E=>pld (hK12 _ _ (sq fun K29 hK29=>pl0 (plc E (.r 0 2 .nil) (fun a E=>?_)))))
 replace S:=S.front 1 rfl
 obtain ⟨F30,hs,g31,S⟩:=S.giveb
 replace g1_0:=g1_0.mono hs
 obtain ⟨t33,h34,H⟩:=bd H
 refine ple E (.cl en247 (qb.calls k t22 x _ _ _ _ _ _ (Own.left (X:=[row qB.k 216 (.slice A25 t22.length c26) t22]) S.own) g31 h34)) ?_
 rintro _ u32 a ⟨F35,rfl,hC⟩ E
 have hs:=hC.sub
 replace S:=S.called (X:=[row qB.k 216 (.slice A25 t22.length c26) t22]) hC
 replace g1_0:=g1_0.mono hs
 replace g31:=hs _ _ _ _ g31
 refine pld (hK29 _ _ (rr E fun a E=>(sq fun K37 hK37=>rr E fun a E=>(wp_block ?_))))
 replace S:=S.nilrow ki 3
 replace S:=S.front 1 rfl
 refine wp_loop_ghost (fun kq45 a w'=>∃(G:NV)(A40:OA)(c41:Nat)(l42:List Int)(x43:Int),kq45≤k∧Env 30 G a∧At G [(5,.slice A40 l42.length c41),(17,.slice A25 t22.length c26),(18,iv (t22.length:Int)),(19,iv x43)]∧Sm W F w' F35 [row qB.k 216 (.slice A25 t22.length c26) t33,row ki 3 (.slice A40 l42.length c41) l42]∧qAu.l44 kq45 t22 t33 l42 x43=some r) k ⟨_,none,0,[],0,Nat.le_refl _,E,.of,S,H⟩ ?_
 rintro kq45 a u47 ⟨G,A40,c41,l42,x43,hkq,E,A,S,H⟩
 obtain _ | k46:=kq45
 exact zz H
 rw [qAu.l44_s]at H
 obtain ⟨J,E⟩:=E.at A
 refine rr E fun a E=>(sq fun K49 hK49=>E.ik 20 H (fun c50 E H=>?_) fun c50 E H=>?_)
 refine wp_skip (hK49 _ _ (sq fun K51 hK51=>wp_block (sq fun K52 hK52=>pl0 ?_)))
 obtain ⟨c53,H⟩:=gd H
 have hr54:=S.ra 0
 have c55:0≤x43∧x43<(t33.length:Int):=by rw [← (qCE hr54).1]; exact c53
 have hE_:=E
 obtain ⟨b56,rfl⟩:=qCJ hr54 c55.1 c55.2
 replace E:=hE_
 have hr_:=S.ra 0
 obtain ⟨cs58,rfl,hc59⟩:=qCF hr_ qB.z x43 c55.1 c55.2
 refine plc E (.x 0 c53<|.cs 1 hc59<|.nil) (fun a E=>pla (t:=216) E S [iv 0,iv 0] fun b60 u61 hb60 S a E=>pls E S [iv ((nth qB.z t33 x43).f0),iv ((nth qB.z t33 x43).f1)] fun u62 hb60 S a E=>pld (hK52 _ _ (pl0 (plc E (.r 0 2<|.b 2 0 hb60<|.nil) (fun a E=>ple E (.lit (d:=ki) (e:=3) S [(nth qB.z t33 x43).f0] (.cons rfl .nil)) ?_)))))
 rintro _ u63 a ⟨A64,c65,rfl,S,hg⟩ E
 obtain ⟨c67,H⟩:=gd H
 replace S:=S.front 3 rfl
 refine ple E (.ap (d:=ki) 8 S (qCT (S.row_at (i:=1) rfl)) c67 c65) ?_
 rintro _ u70 a ⟨A68,c69,rfl,S,hz⟩ E
 refine plc E (.r 5 1 .nil) (fun a E=>pld ?_)
 refine qCC ?_
 refine hK51 _ _ (pl0 (plc E (.r 0 2 .nil) (fun a E=>pld ?_)))
 replace S:=S.pm [3,0] 4
 exact qCD ⟨k46,by omega,_,A68,c69,(l42++[(nth qB.z t33 x43).f0]),(w64 (x43+1)),by omega,E,.of,S,H⟩
 refine wp_exit ?_
 refine hK37 _ _ (rr E fun a E=>(wp_ret ?_))
 have hn73:=(qCE (S.row_at (i:=0) rfl)).1
 replace S:Sm W F u47 F35 [row qB.k 216 (.slice A25 t33.length c26) t33,row ki 3 (.slice A40 l42.length c41) l42]:=by rw [← hn73]; exact S
 replace S:=S.tail
 obtain rfl:=si H
 exact rt1 E ⟨_,rfl,_,_,_,rfl,S⟩
 refine rr E fun a E=>(wp_ret (qCA ?_))
 replace S:=S.nilrow ki 3
 replace S:=S.pm [0] 2
 obtain rfl:=si H
 exact rt1 E ⟨_,rfl,_,_,_,rfl,S⟩
mutual
def qAF.j42:Nat→qf→ql→Int→List qB→Option (List qf)
 | 0,_,_,_,_=>none
 | k+1,y,z,p,l40=>(qBB.f k (IntKind.u64.wrap p) [(IntKind.u64.wrap z.f1),(IntKind.u64.wrap y.f0),(IntKind.u64.wrap y.f1)]).bind fun t53=>((qAu.f k t53 l40).bind fun t58=>(if 0≤(if (t58.length:Int)<z.f2 then (t58.length:Int) else z.f2)∧(if (t58.length:Int)<z.f2 then (t58.length:Int) else z.f2)≤(t58.length:Int) then (qAF.l80 k y z t58 [] 0) else (none)))
def qAF.l80:Nat→qf→ql→List Int→List qf→Int→Option (List qf)
 | 0,_,_,_,_,_=>none
 | k+1,y,z,t58,l78,x79=>if x79<((cutl t58 0 (if (t58.length:Int)<z.f2 then (t58.length:Int) else z.f2)).length:Int) then (if 0≤x79∧x79<((cutl t58 0 (if (t58.length:Int)<z.f2 then (t58.length:Int) else z.f2)).length:Int) then (if z.f1=1 then (qAF.j110 k y z t58 l78 x79 (nth 0 (cutl t58 0 (if (t58.length:Int)<z.f2 then (t58.length:Int) else z.f2)) x79) y.f1 y.f2) else (if z.f1=2 then (qAF.j110 k y z t58 l78 x79 y.f0 (nth 0 (cutl t58 0 (if (t58.length:Int)<z.f2 then (t58.length:Int) else z.f2)) x79) y.f2) else (qAF.j110 k y z t58 l78 x79 y.f0 y.f1 (nth 0 (cutl t58 0 (if (t58.length:Int)<z.f2 then (t58.length:Int) else z.f2)) x79)))) else (none)) else (some l78)
def qAF.j110:Nat→qf→ql→List Int→List qf→Int→Int→Int→Int→Option (List qf)
 | 0,_,_,_,_,_,_,_,_=>none
 | k+1,y,z,t58,l78,x79,x107,x108,x109=>if ((l78.length:Int)+((1:Nat):Int)) * 24≤140737488355328 then (qAF.l80 k y z t58 (l78++[(⟨x107,x108,x109⟩:qf)]) (w64 (x79+1))) else (none)
end
theorem qAF.j42_s k y z p l40:type_of% (qAF.j42.eq_2 y z p l40 k):=qAF.j42.eq_2 y z p l40 k
theorem qAF.l80_s k y z t58 l78 x79:type_of% (qAF.l80.eq_2 y z t58 l78 x79 k):=qAF.l80.eq_2 y z t58 l78 x79 k
theorem qAF.j110_s(k:Nat)(y:qf)(z:ql)(t58:List Int)(l78:List qf)(x79:Int)(x107:Int)(x108:Int)(x109:Int):qAF.j110 (k+1) y z t58 l78 x79 x107 x108 x109=(if ((l78.length:Int)+((1:Nat):Int)) * 24≤140737488355328 then (qAF.l80 k y z t58 (l78++[(⟨x107,x108,x109⟩:qf)]) (w64 (x79+1))) else (none)):=by kernel_rfl
def qAF.f(k:Nat)(x:List qA)(y:qf)(z:ql)(p:Int):Option (List qf):=if z.f1=1 then ((qBk.f k x).bind fun t12=>(qAF.j42 k y z p t12)) else (if z.f1=2 then ((qBl.f k x y.f0).bind fun t22=>(qAF.j42 k y z p t22)) else ((qBd.f k x y.f0 y.f1).bind fun t30=>(qAF.j42 k y z p t30)))
def qAF.Post(W F:World)(r:List qf)(v:Value)(w':World):Prop:=∃(F':World)(RA0_0:OA)(rc0_0:Nat),v = .slice RA0_0 r.length rc0_0∧Sm W F w' F' [row qf.k 212 (.slice RA0_0 r.length rc0_0) r]
theorem qAF.calls(k:Nat)(x:List qA)(y:qf)(z:ql)(p:Int)(A0_0:OA)(c0_0:Nat)(r:List qf)(W F:World)(hown:Sub F W)(g0_0:Rd qA.k F A0_0 c0_0 x)(H:qAF.f k x y z p=some r):
    Cr 204 #[.slice A0_0 x.length c0_0,.agg #[iv y.f0,iv y.f1,iv y.f2],.agg #[iv z.f0,iv z.f1,iv z.f2],iv p] W (qAF.Post W F r):=by
 have S:=sT hown
 unfold qAF.f at H
 refine ent 79 rfl rfl rfl (fun a E=>?_)
 refine sq fun K1 hK1=>pl0 (plx (t:=212) E S [iv y.f0,iv y.f1,iv y.f2] fun b2 u3 hb2 S a E=>plx (t:=175) E S [iv z.f0,iv z.f1,iv z.f2] fun b4 u5 hb4 S a E=>plc E (.r 2 1 .nil) (fun a E=>pld (hK1 _ _ (rr E fun a E=>(sq fun K7 hK7=>?_)))))
 have J45:∀ kq43,kq43≤k→∀(G:NV)(A38:OA)(c39:Nat)(l40:List qB)(F41:World)(a:Act)(w':World),Env 79 G a→At G [(3,iv p),(5,.pointer (pb b2)),(6,.pointer (pb b4)),(9,.slice A38 l40.length c39)]→Sm W F w' F41 [box b4 #[iv z.f0,iv z.f1,iv z.f2] 175,box b2 #[iv y.f0,iv y.f1,iv y.f2] 212,row qB.k 216 (.slice A38 l40.length c39) l40]→qAF.j42 kq43 y z p l40=some r→K7 a w':=by
  intro kq43 hkq G A38 c39 l40 F41 a u46 E A S H
  obtain _ | k44:=kq43
  exact zz H
  rw [qAF.j42_s]at H
  obtain ⟨J,E⟩:=E.at A
  refine hK7 _ _ (sq fun K47 hK47=>pl0 ?_)
  have hb2:=S.ba 1
  refine plc E (.r 0 3<|.b 3 1 (S.ba 0)<|.r 4 2<|.b 6 0 hb2<|.r 7 2<|.b 9 1 hb2<|.r 10 1<|.nil) (fun a E=>ple E (.lit (d:=(Kn.int .u64)) (e:=182) S [(IntKind.u64.wrap z.f1),(IntKind.u64.wrap y.f0),(IntKind.u64.wrap y.f1)] (.cons rfl<|.cons rfl<|.cons rfl .nil)) ?_)
  rintro _ u48 a ⟨A49,c50,rfl,S,hg⟩ E
  obtain ⟨t53,h54,H⟩:=bd H
  refine plq E S en229 (qBB.calls k44 (IntKind.u64.wrap p) [(IntKind.u64.wrap z.f1),(IntKind.u64.wrap y.f0),(IntKind.u64.wrap y.f1)] _ _ _ _ _ (Sub.refl _) (S.rd_at (i:=0) rfl) h54) fun u52 S a E=>plc E (.r 13 1 .nil) (fun a E=>?_)
  replace S:=S.front 3 rfl
  obtain ⟨F55,hs,g56,S⟩:=S.give
  obtain ⟨t58,h59,H⟩:=bd H
  refine ple E (.cl en228 (qAu.calls k44 t53 l40 _ _ _ _ _ S.own.sub g56 h59)) ?_
  rintro _ u57 a ⟨F60,A61,c62,rfl,hC⟩ E
  have hs:=hC.sub
  replace S:=S.called (X:=[]) hC
  replace g56:=g56.mono hs
  refine plc E (.r 15 1 .nil) (fun a E=>pld (hK47 _ _ (rr E fun a E=>(sq fun K66 hK66=>sq fun K67 hK67=>pl0 ?_))))
  have hb4:=S.ba 2
  obtain ⟨F68,hs,g69,S⟩:=S.give
  replace g56:=g56.mono hs
  obtain ⟨c70,H⟩:=gd H
  obtain ⟨A71,c72,g73,hv74⟩:=qEg (P:=Tryz.prog) g69 ⟨Int.le_refl _,c70.1,c70.2⟩ sz3
  refine plc E (.r 0 2<|.b 2 2 hb4<|.r 3 3<|.y 6 (hv74 (by kernel_rfl))<|.r 7 2<|.nil) (fun a E=>pld (hK67 _ _ (wp_block ?_)))
  replace S:=S.nilrow qf.k 212
  replace S:=S.pm [2,3,0] 4
  refine wp_loop_ghost (fun kq81 a w'=>∃(G:NV)(A76:OA)(c77:Nat)(l78:List qf)(x79:Int),kq81≤k44∧Env 79 G a∧At G [(5,.pointer (pb b2)),(6,.pointer (pb b4)),(11,.slice A76 l78.length c77),(54,.slice A71 ((cutl t58 0 (if (t58.length:Int)<z.f2 then (t58.length:Int) else z.f2)).length) c72),(55,iv ((cutl t58 0 (if (t58.length:Int)<z.f2 then (t58.length:Int) else z.f2)).length:Int)),(56,iv x79)]∧Sm W F w' F68 [box b4 #[iv z.f0,iv z.f1,iv z.f2] 175,box b2 #[iv y.f0,iv y.f1,iv y.f2] 212,row qf.k 212 (.slice A76 l78.length c77) l78]∧qAF.l80 kq81 y z t58 l78 x79=some r) k44 ⟨_,none,0,[],0,Nat.le_refl _,E,.of,S,H⟩ ?_
  rintro kq81 a u83 ⟨G,A76,c77,l78,x79,hkq,E,A,S,H⟩
  obtain _ | k82:=kq81
  exact zz H
  rw [qAF.l80_s]at H
  obtain ⟨J,E⟩:=E.at A
  refine rr E fun a E=>(sq fun K85 hK85=>E.ik 57 H (fun c86 E H=>?_) fun c86 E H=>?_)
  refine wp_skip (hK85 _ _ (sq fun K87 hK87=>wp_block (sq fun K88 hK88=>pl0 ?_)))
  obtain ⟨c89,H⟩:=gd H
  have hE_:=E
  obtain ⟨ad90,rfl⟩:=g73.addr c89.1 c89.2
  replace E:=hE_
  obtain ⟨cs92,rfl,hc93⟩:=g73.el 0 x79 c89.1 c89.2
  refine plc E (.x 0 c89<|.c 1 (S.fc hc93 0)<|.r 2 1<|.nil) (fun a E=>pld (hK88 _ _ (sq fun K94 hK94=>pl0 (plc E (.bn 0 0 3 (S.ba 1) .nil) (fun a E=>pla (t:=212) E S [iv 0,iv 0,iv 0] fun b95 u96 hb95 S a E=>pls E S [iv y.f0,iv y.f1,iv y.f2] fun u97 hb95 S a E=>pld (hK94 _ _ (sq fun K98 hK98=>?_)))))))
  have J113:∀ kq111,kq111≤k82→∀(G:NV)(x107:Int)(x108:Int)(x109:Int)(a:Act)(w':World),Env 79 G a→At G [(5,.pointer (pb b2)),(6,.pointer (pb b4)),(11,.slice A76 l78.length c77),(14,.pointer (pb b95)),(54,.slice (some ad90) ((cutl t58 0 (if (t58.length:Int)<z.f2 then (t58.length:Int) else z.f2)).length) c72),(55,iv ((cutl t58 0 (if (t58.length:Int)<z.f2 then (t58.length:Int) else z.f2)).length:Int)),(56,iv x79)]→Sm W F w' F68 [box b95 #[iv x107,iv x108,iv x109] 212,box b4 #[iv z.f0,iv z.f1,iv z.f2] 175,box b2 #[iv y.f0,iv y.f1,iv y.f2] 212,row qf.k 212 (.slice A76 l78.length c77) l78]→qAF.j110 kq111 y z t58 l78 x79 x107 x108 x109=some r→K98 a w':=by
   intro kq111 hkq G x107 x108 x109 a u114 E A S H
   obtain _ | k112:=kq111
   exact zz H
   rw [qAF.j110_s]at H
   obtain ⟨J,E⟩:=E.at A
   refine hK98 _ _ (pl0 (plc E (.r 0 1<|.bn 1 0 3 (S.ba 0)<|.nil) (fun a E=>ple E (.lit (d:=qf.k) (e:=212) S [(⟨x107,x108,x109⟩:qf)] (.cons rfl .nil)) ?_)))
   rintro _ u115 a ⟨A116,c117,rfl,S,hg⟩ E
   obtain ⟨c119,H⟩:=gd H
   replace S:=S.front 4 rfl
   refine ple E (.ap (d:=qf.k) 24 S (qCT (S.row_at (i:=1) rfl)) c119 c117) ?_
   rintro _ u122 a ⟨A120,c121,rfl,S,hz⟩ E
   refine plc E (.r 4 1 .nil) (fun a E=>pld ?_)
   refine qCC ?_
   refine hK87 _ _ (pl0 (plc E (.r 0 2 .nil) (fun a E=>pld ?_)))
   replace S:=S.pm [3,4,0] 5
   exact qCD ⟨k112,by omega,_,A120,c121,(l78++[(⟨x107,x108,x109⟩:qf)]),(w64 (x79+1)),by omega,E,.of,S,H⟩
  refine rg E (.r 0 1<|.b 1 1 (S.ba 1)<|.nil) fun a E=>(wp_block (rr E fun a E=>(E.ik 65 H (fun c101 E H=>?_) fun c101 E H=>?_)))
  refine pl0 (plc E (.r 0 2 .nil) (fun a E=>pls E S [iv (nth 0 (cutl t58 0 (if (t58.length:Int)<z.f2 then (t58.length:Int) else z.f2)) x79),iv y.f1,iv y.f2] fun u102 hb95 S a E=>pld ?_))
  refine qCC ?_
  exact J113 _ (by omega) _ (nth 0 (cutl t58 0 (if (t58.length:Int)<z.f2 then (t58.length:Int) else z.f2)) x79) y.f1 y.f2 _ _ E .of S H
  refine rr E fun a E=>(E.ik 69 H (fun c104 E H=>?_) fun c104 E H=>?_)
  refine pl0 (plc E (.r 0 2 .nil) (fun a E=>pls E S [iv y.f0,iv (nth 0 (cutl t58 0 (if (t58.length:Int)<z.f2 then (t58.length:Int) else z.f2)) x79),iv y.f2] fun u105 hb95 S a E=>pld ?_))
  refine qCC ?_
  exact J113 _ (by omega) _ y.f0 (nth 0 (cutl t58 0 (if (t58.length:Int)<z.f2 then (t58.length:Int) else z.f2)) x79) y.f2 _ _ E .of S H
  refine pl0 (plc E (.r 0 2 .nil) (fun a E=>pls E S [iv y.f0,iv y.f1,iv (nth 0 (cutl t58 0 (if (t58.length:Int)<z.f2 then (t58.length:Int) else z.f2)) x79)] fun u106 hb95 S a E=>pld ?_))
  refine qCC ?_
  exact J113 _ (by omega) _ y.f0 y.f1 (nth 0 (cutl t58 0 (if (t58.length:Int)<z.f2 then (t58.length:Int) else z.f2)) x79) _ _ E .of S H
  refine wp_exit ?_
  refine hK66 _ _ (rr E fun a E=>(wp_ret ?_))
  replace S:=S.pm [] 2
  obtain rfl:=si H
  exact rt1 E ⟨_,rfl,_,_,_,rfl,S⟩
 refine rg E (.r 0 1<|.b 1 1 hb4<|.nil) fun a E=>(wp_block (rr E fun a E=>(E.ik 23 H (fun c10 E H=>?_) fun c10 E H=>?_)))
 refine pl0 (plc E (.r 0 1 .nil) (fun a E=>?_))
 obtain ⟨t12,h13,H⟩:=bd H
 refine ple E (.cl en225 (qBk.calls k x _ _ _ _ _ S.own.sub g0_0 h13)) ?_
 rintro _ u11 a ⟨F14,A15,c16,rfl,hC⟩ E
 have hs:=hC.sub
 replace S:=S.called (X:=[]) hC
 replace g0_0:=g0_0.mono hs
 refine plc E (.r 2 1 .nil) (fun a E=>pld ?_)
 refine qCC ?_
 replace S:=S.pm [1,2,0] 3
 exact J45 _ (by omega) _ A15 c16 t12 F14 _ _ E .of S H
 refine rr E fun a E=>(E.ik 27 H (fun c20 E H=>?_) fun c20 E H=>?_)
 refine pl0 (plc E (.r 0 2<|.b 2 0 (S.ba 1)<|.nil) (fun a E=>?_))
 obtain ⟨t22,h23,H⟩:=bd H
 refine ple E (.cl en226 (qBl.calls k x y.f0 _ _ _ _ _ S.own.sub g0_0 h23)) ?_
 rintro _ u21 a ⟨F24,A25,c26,rfl,hC⟩ E
 have hs:=hC.sub
 replace S:=S.called (X:=[]) hC
 replace g0_0:=g0_0.mono hs
 refine plc E (.r 4 1 .nil) (fun a E=>pld ?_)
 refine qCC ?_
 replace S:=S.pm [1,2,0] 3
 exact J45 _ (by omega) _ A25 c26 t22 F24 _ _ E .of S H
 refine pl0 ?_
 have hb2:=S.ba 1
 refine plc E (.r 0 2<|.b 2 0 hb2<|.r 3 1<|.b 4 1 hb2<|.nil) (fun a E=>?_)
 obtain ⟨t30,h31,H⟩:=bd H
 refine ple E (.cl en227 (qBd.calls k x y.f0 y.f1 _ _ _ _ _ S.own.sub g0_0 h31)) ?_
 rintro _ u29 a ⟨F32,A33,c34,rfl,hC⟩ E
 have hs:=hC.sub
 replace S:=S.called (X:=[]) hC
 replace g0_0:=g0_0.mono hs
 refine plc E (.r 6 1 .nil) (fun a E=>pld ?_)
 refine qCC ?_
 replace S:=S.pm [1,2,0] 3
 exact J45 _ (by omega) _ A33 c34 t30 F32 _ _ E .of S H
mutual
def qz.j16:Nat→List qA→List ql→Int→Int→Bool→Option ((List Int) × Int)
 | 0,_,_,_,_,_=>none
 | k+1,x,y,z,p,y15=>if y15=true then (some ([],1)) else (qz.l38 k x y z p [] [] 0)
def qz.l38:Nat→List qA→List ql→Int→Int→List qf→List Int→Int→Option ((List Int) × Int)
 | 0,_,_,_,_,_,_,_=>none
 | k+1,x,y,z,p,l32,l35,x36=>if x36<(y.length:Int) then (if 0≤x36∧x36<(y.length:Int) then (if (nth ql.z y x36).f0=1 then (qz.l38 k x y z p [(⟨0,0,0⟩:qf)] l35 (w64 (x36+1))) else (if (nth ql.z y x36).f0=2 then (qz.l73 k x y z p l32 l35 x36 [] 0) else (qz.l111 k x y z p l32 x36 l35 0))) else (none)) else (some (l35,0))
def qz.l73:Nat→List qA→List ql→Int→Int→List qf→List Int→Int→List qf→Int→Option ((List Int) × Int)
 | 0,_,_,_,_,_,_,_,_,_=>none
 | k+1,x,y,z,p,l32,l35,x36,l70,x71=>if x71<(l32.length:Int) then (if 0≤x71∧x71<(l32.length:Int) then ((qAF.f k x (nth qf.z l32 x71) (nth ql.z y x36) z).bind fun t92=>(if ((l70.length:Int)+(t92.length:Int)) * 24≤140737488355328 then (qz.l73 k x y z p l32 l35 x36 (l70++t92) (w64 (x71+1))) else (none))) else (none)) else (qz.l38 k x y z p l70 l35 (w64 (x36+1)))
def qz.l111:Nat→List qA→List ql→Int→Int→List qf→Int→List Int→Int→Option ((List Int) × Int)
 | 0,_,_,_,_,_,_,_,_=>none
 | k+1,x,y,z,p,l32,x36,l109,x110=>if x110<(l32.length:Int) then (if 0≤x110∧x110<(l32.length:Int) then (if (l109.length:Int)<p then ((qAO.f k l109 ((nth qf.z l32 x110).f2)).bind fun t132=>(qz.j135 k x y z p l32 x36 l109 x110 (!t132))) else (qz.j135 k x y z p l32 x36 l109 x110 false)) else (none)) else (qz.l38 k x y z p [] l109 (w64 (x36+1)))
def qz.j135:Nat→List qA→List ql→Int→Int→List qf→Int→List Int→Int→Bool→Option ((List Int) × Int)
 | 0,_,_,_,_,_,_,_,_,_=>none
 | k+1,x,y,z,p,l32,x36,l109,x110,y134=>if y134=true then (if ((l109.length:Int)+((1:Nat):Int)) * 8≤140737488355328 then (qz.l111 k x y z p l32 x36 (l109++[(nth qf.z l32 x110).f2]) (w64 (x110+1))) else (none)) else (qz.l111 k x y z p l32 x36 l109 (w64 (x110+1)))
end
theorem qz.j16_s k x y z p y15:type_of% (qz.j16.eq_2 x y z p y15 k):=qz.j16.eq_2 x y z p y15 k
theorem qz.l38_s k x y z p l32 l35 x36:type_of% (qz.l38.eq_2 x y z p l32 l35 x36 k):=qz.l38.eq_2 x y z p l32 l35 x36 k
theorem qz.l73_s k x y z p l32 l35 x36 l70 x71:type_of% (qz.l73.eq_2 x y z p l32 l35 x36 l70 x71 k):=qz.l73.eq_2 x y z p l32 l35 x36 l70 x71 k
theorem qz.l111_s k x y z p l32 x36 l109 x110:type_of% (qz.l111.eq_2 x y z p l32 x36 l109 x110 k):=qz.l111.eq_2 x y z p l32 x36 l109 x110 k
theorem qz.j135_s k x y z p l32 x36 l109 x110 y134:type_of% (qz.j135.eq_2 x y z p l32 x36 l109 x110 y134 k):=qz.j135.eq_2 x y z p l32 x36 l109 x110 y134 k
def qz.f(k:Nat)(x:List qA)(y:List ql)(z:Int)(p:Int):Option ((List Int) × Int):=(qAL.f k x).bind fun t5=>(if t5=0 then ((qAd.f k y).bind fun t9=>(if t9=0 then (if z<0 then (qz.j16 k x y z p true) else (if z≥8 then (qz.j16 k x y z p true) else (if p<1 then (qz.j16 k x y z p true) else (qz.j16 k x y z p (decide (p>3)))))) else (qz.j16 k x y z p true))) else (qz.j16 k x y z p true))
def qz.Post(W F:World)(r:(List Int) × Int)(v:Value)(w':World):Prop:=∃(F':World)(RA0_0:OA)(rc0_0:Nat),v = .tuple #[.slice RA0_0 r.1.length rc0_0,iv r.2]∧Sm W F w' F' [row ki 3 (.slice RA0_0 r.1.length rc0_0) r.1]
theorem qz.calls(k:Nat)(x:List qA)(y:List ql)(z:Int)(p:Int)(A0_0:OA)(c0_0:Nat)(A1_0:OA)(c1_0:Nat)(r:(List Int) × Int)(W F:World)(hown:Sub F W)(g0_0:Rd qA.k F A0_0 c0_0 x)(g1_0:Rd ql.k F A1_0 c1_0 y)(H:qz.f k x y z p=some r):
    Cr 166 #[.slice A0_0 x.length c0_0,.slice A1_0 y.length c1_0,iv z,iv p] W (qz.Post W F r):=by
 have S:=sT hown
 unfold qz.f at H
 refine ent 97 rfl rfl rfl (fun a E=>?_)
 refine rr E fun a E=>(sq fun K2 hK2=>sq fun K3 hK3=>?_)
 have J19:∀ kq17,kq17≤k→∀(G:NV)(y15:Bool)(a:Act)(w':World),Env 97 G a→At G [(0,.slice A0_0 x.length c0_0),(1,.slice A1_0 y.length c1_0),(2,iv z),(3,iv p),(42,.bool y15)]→Sm W F w' F []→qz.j16 kq17 x y z p y15=some r→K3 a w':=by
  intro kq17 hkq G y15 a u20 E A S H
  obtain _ | k18:=kq17
  exact zz H
  rw [qz.j16_s]at H
  obtain ⟨J,E⟩:=E.at A
  refine hK3 _ _ (E.ib 42 H (fun c21 E H=>?_) fun c21 E H=>?_)
  refine rr E fun a E=>(wp_ret (qCA ?_))
  replace S:=S.nilrow ki 3
  obtain rfl:=si H
  exact rtN E ⟨_,rfl,_,_,_,rfl,S⟩
  refine wp_skip (hK2 _ _ (rr E fun a E=>(rr E fun a E=>(sq fun K26 hK26=>rr E fun a E=>(wp_block ?_)))))
  replace S:=S.nilrow qf.k 212
  replace S:=S.nilrow ki 3
  replace S:=S.front 1 rfl
  refine wp_loop_ghost (fun kq39 a w'=>∃(G:NV)(A30:OA)(c31:Nat)(l32:List qf)(A33:OA)(c34:Nat)(l35:List Int)(x36:Int)(F37:World),kq39≤k18∧Env 97 G a∧At G [(0,.slice A0_0 x.length c0_0),(2,iv z),(3,iv p),(10,.slice A30 l32.length c31),(11,.slice A33 l35.length c34),(43,.slice A1_0 y.length c1_0),(44,iv (y.length:Int)),(45,iv x36)]∧Sm W F w' F37 [row qf.k 212 (.slice A30 l32.length c31) l32,row ki 3 (.slice A33 l35.length c34) l35]∧Rd qA.k F37 A0_0 c0_0 x∧Rd ql.k F37 A1_0 c1_0 y∧qz.l38 kq39 x y z p l32 l35 x36=some r) k18 ⟨_,none,0,[],none,0,[],0,F,Nat.le_refl _,E,.of,S,g0_0,g1_0,H⟩ ?_
  rintro kq39 a u41 ⟨G,A30,c31,l32,A33,c34,l35,x36,F37,hkq,E,A,S,g0_0,g1_0,H⟩
  obtain _ | k40:=kq39
  exact zz H
  rw [qz.l38_s]at H
  obtain ⟨J,E⟩:=E.at A
  refine rr E fun a E=>(sq fun K43 hK43=>E.ik 46 H (fun c44 E H=>?_) fun c44 E H=>?_)
  refine wp_skip (hK43 _ _ (sq fun K45 hK45=>wp_block (sq fun K46 hK46=>pl0 ?_)))
  obtain ⟨c47,H⟩:=gd H
  have hE_:=E
  obtain ⟨ad48,rfl⟩:=g1_0.addr c47.1 c47.2
  replace E:=hE_
  obtain ⟨cs50,rfl,hc51⟩:=g1_0.el ql.z x36 c47.1 c47.2
  refine plc E (.x 0 c47<|.cs 1 (S.fcs hc51)<|.nil) (fun a E=>pla (t:=175) E S [iv 0,iv 0,iv 0] fun b52 u53 hb52 S a E=>pls E S [iv ((nth ql.z y x36).f0),iv ((nth ql.z y x36).f1),iv ((nth ql.z y x36).f2)] fun u54 hb52 S a E=>pld (hK46 _ _ (rg E (.r 0 1<|.b 1 0 hb52<|.nil) fun a E=>(wp_block (rr E fun a E=>(E.ik 74 H (fun c57 E H=>?_) fun c57 E H=>?_))))))
  refine pl0 (plc E (.r 0 1 .nil) (fun a E=>ple E (.lit (d:=qf.k) (e:=212) S [(⟨0,0,0⟩:qf)] (.cons rfl .nil)) ?_))
  rintro _ u58 a ⟨A59,c60,rfl,S,hg⟩ E
  refine plc E (.r 2 1 .nil) (fun a E=>pld ?_)
  refine qCC ?_
  refine qCC ?_
  refine hK45 _ _ (pl0 (plc E (.r 0 2 .nil) (fun a E=>pld ?_)))
  replace S:=S.pm [0] 3
  exact qCD ⟨k40,by omega,_,A59,c60,[(⟨0,0,0⟩:qf)],A33,c34,l35,(w64 (x36+1)),F37,by omega,E,.of,S,g0_0,g1_0,H⟩
  refine rr E fun a E=>(E.ik 78 H (fun c63 E H=>?_) fun c63 E H=>?_)
  refine rr E fun a E=>(sq fun K65 hK65=>rr E fun a E=>(wp_block ?_))
  replace S:=S.nilrow qf.k 212
  replace S:=S.pm [1,2,3,0] 4
  refine wp_loop_ghost (fun kq74 a w'=>∃(G:NV)(A68:OA)(c69:Nat)(l70:List qf)(x71:Int)(F72:World),kq74≤k40∧Env 97 G a∧At G [(0,.slice A0_0 x.length c0_0),(2,iv z),(3,iv p),(11,.slice A33 l35.length c34),(13,.pointer (pb b52)),(14,.slice A68 l70.length c69),(43,.slice (some ad48) y.length c1_0),(44,iv (y.length:Int)),(45,iv x36),(80,.slice A30 l32.length c31),(81,iv (l32.length:Int)),(82,iv x71)]∧Sm W F w' F72 [box b52 #[iv ((nth ql.z y x36).f0),iv ((nth ql.z y x36).f1),iv ((nth ql.z y x36).f2)] 175,row qf.k 212 (.slice A30 l32.length c31) l32,row ki 3 (.slice A33 l35.length c34) l35,row qf.k 212 (.slice A68 l70.length c69) l70]∧Rd qA.k F72 A0_0 c0_0 x∧Rd ql.k F72 (some ad48) c1_0 y∧qz.l73 kq74 x y z p l32 l35 x36 l70 x71=some r) k40 ⟨_,none,0,[],0,F37,Nat.le_refl _,E,.of,S,g0_0,g1_0,H⟩ ?_
  rintro kq74 a u76 ⟨G,A68,c69,l70,x71,F72,hkq,E,A,S,g0_0,g1_0,H⟩
  obtain _ | k75:=kq74
  exact zz H
  rw [qz.l73_s]at H
  obtain ⟨J,E⟩:=E.at A
  refine rr E fun a E=>(sq fun K78 hK78=>E.ik 83 H (fun c79 E H=>?_) fun c79 E H=>?_)
  refine wp_skip (hK78 _ _ (sq fun K80 hK80=>wp_block (sq fun K81 hK81=>pl0 ?_)))
  obtain ⟨c82,H⟩:=gd H
  have hr83:=S.ra 1
  have hE_:=E
  obtain ⟨b84,rfl⟩:=qCJ hr83 c82.1 c82.2
  replace E:=hE_
  have hr_:=S.ra 1
  obtain ⟨cs86,rfl,hc87⟩:=qCF hr_ qf.z x71 c82.1 c82.2
  refine plc E (.x 0 c82<|.cs 1 hc87<|.nil) (fun a E=>pla (t:=212) E S [iv 0,iv 0,iv 0] fun b88 u89 hb88 S a E=>pls E S [iv ((nth qf.z l32 x71).f0),iv ((nth qf.z l32 x71).f1),iv ((nth qf.z l32 x71).f2)] fun u90 hb88 S a E=>pld (hK81 _ _ (pl0 (plc E (.r 0 2<|.bn 2 0 3 hb88<|.bn 3 0 3 (S.ba 1)<|.r 4 1<|.nil) (fun a E=>?_)))))
  obtain ⟨t92,h93,H⟩:=bd H
  refine ple E (.cl en204 (qAF.calls k75 x (nth qf.z l32 x71) (nth ql.z y x36) z _ _ _ _ _ S.own.sub g0_0 h93)) ?_
  rintro _ u91 a ⟨F94,A95,c96,rfl,hC⟩ E
  have hs:=hC.sub
  replace S:=S.called (X:=[]) hC
  replace g0_0:=g0_0.mono hs
  replace g1_0:=g1_0.mono hs
  obtain ⟨c99,H⟩:=gd H
  replace S:=S.front 5 rfl
  refine ple E (.ap (d:=qf.k) 24 S (qCT (S.row_at (i:=1) rfl)) c99 c96) ?_
  rintro _ u102 a ⟨A100,c101,rfl,S,hz⟩ E
  refine plc E (.r 7 1 .nil) (fun a E=>pld ?_)
  refine qCC ?_
  refine hK80 _ _ (pl0 (plc E (.r 0 2 .nil) (fun a E=>pld ?_)))
  replace S:=S.pm [3,4,5,0] 6
  exact qCD ⟨k75,by omega,_,A100,c101,(l70++t92),(w64 (x71+1)),F94,by omega,E,.of,S,g0_0,g1_0,H⟩
  refine wp_exit ?_
  refine hK65 _ _ (pl0 (plc E (.r 0 2 .nil) (fun a E=>pld ?_)))
  refine qCC ?_
  refine qCC ?_
  refine hK45 _ _ (pl0 (plc E (.r 0 2 .nil) (fun a E=>pld ?_)))
  replace S:=S.pm [3,2] 4
  exact qCD ⟨k75,by omega,_,A68,c69,l70,A33,c34,l35,(w64 (x36+1)),F72,by omega,E,.of,S,g0_0,g1_0,H⟩
  refine sq fun K104 hK104=>rr E fun a E=>(wp_block ?_)
  refine wp_loop_ghost (fun kq112 a w'=>∃(G:NV)(A107:OA)(c108:Nat)(l109:List Int)(x110:Int),kq112≤k40∧Env 97 G a∧At G [(0,.slice A0_0 x.length c0_0),(2,iv z),(3,iv p),(11,.slice A107 l109.length c108),(43,.slice (some ad48) y.length c1_0),(44,iv (y.length:Int)),(45,iv x36),(51,.slice A30 l32.length c31),(52,iv (l32.length:Int)),(53,iv x110)]∧Sm W F w' F37 [box b52 #[iv ((nth ql.z y x36).f0),iv ((nth ql.z y x36).f1),iv ((nth ql.z y x36).f2)] 175,row qf.k 212 (.slice A30 l32.length c31) l32,row ki 3 (.slice A107 l109.length c108) l109]∧qz.l111 kq112 x y z p l32 x36 l109 x110=some r) k40 ⟨_,A33,c34,l35,0,Nat.le_refl _,E,.of,S,H⟩ ?_
  rintro kq112 a u114 ⟨G,A107,c108,l109,x110,hkq,E,A,S,H⟩
  obtain _ | k113:=kq112
  exact zz H
  rw [qz.l111_s]at H
  obtain ⟨J,E⟩:=E.at A
  refine rr E fun a E=>(sq fun K116 hK116=>E.ik 54 H (fun c117 E H=>?_) fun c117 E H=>?_)
  refine wp_skip (hK116 _ _ (sq fun K118 hK118=>wp_block (sq fun K119 hK119=>pl0 ?_)))
  obtain ⟨c120,H⟩:=gd H
  have hr121:=S.ra 1
  have hE_:=E
  obtain ⟨b122,rfl⟩:=qCJ hr121 c120.1 c120.2
  replace E:=hE_
  have hr_:=S.ra 1
  obtain ⟨cs124,rfl,hc125⟩:=qCF hr_ qf.z x110 c120.1 c120.2
  refine plc E (.x 0 c120<|.cs 1 hc125<|.nil) (fun a E=>pla (t:=212) E S [iv 0,iv 0,iv 0] fun b126 u127 hb126 S a E=>pls E S [iv ((nth qf.z l32 x110).f0),iv ((nth qf.z l32 x110).f1),iv ((nth qf.z l32 x110).f2)] fun u128 hb126 S a E=>pld (hK119 _ _ (sq fun K129 hK129=>?_)))
  have J138:∀ kq136,kq136≤k113→∀(G:NV)(y134:Bool)(a:Act)(w':World),Env 97 G a→At G [(0,.slice A0_0 x.length c0_0),(2,iv z),(3,iv p),(11,.slice A107 l109.length c108),(18,.pointer (pb b126)),(43,.slice (some ad48) y.length c1_0),(44,iv (y.length:Int)),(45,iv x36),(51,.slice (pb b122) l32.length c31),(52,iv (l32.length:Int)),(53,iv x110),(67,.bool y134)]→Sm W F w' F37 [box b126 #[iv ((nth qf.z l32 x110).f0),iv ((nth qf.z l32 x110).f1),iv ((nth qf.z l32 x110).f2)] 212,box b52 #[iv ((nth ql.z y x36).f0),iv ((nth ql.z y x36).f1),iv ((nth ql.z y x36).f2)] 175,row qf.k 212 (.slice (pb b122) l32.length c31) l32,row ki 3 (.slice A107 l109.length c108) l109]→qz.j135 kq136 x y z p l32 x36 l109 x110 y134=some r→K129 a w':=by
   intro kq136 hkq G y134 a u139 E A S H
   obtain _ | k137:=kq136
   exact zz H
   rw [qz.j135_s]at H
   obtain ⟨J,E⟩:=E.at A
   refine hK129 _ _ (E.ib 67 H (fun c140 E H=>?_) fun c140 E H=>?_)
   refine pl0 (plc E (.r 0 2<|.b 2 2 (S.ba 0)<|.nil) (fun a E=>ple E (.lit (d:=ki) (e:=3) S [(nth qf.z l32 x110).f2] (.cons rfl .nil)) ?_))
   rintro _ u141 a ⟨A142,c143,rfl,S,hg⟩ E
   obtain ⟨c145,H⟩:=gd H
   replace S:=S.front 4 rfl
   refine ple E (.ap (d:=ki) 8 S (qCT (S.row_at (i:=1) rfl)) c145 c143) ?_
   rintro _ u148 a ⟨A146,c147,rfl,S,hz⟩ E
   refine plc E (.r 5 1 .nil) (fun a E=>pld ?_)
   refine qCC ?_
   refine hK118 _ _ (pl0 (plc E (.r 0 2 .nil) (fun a E=>pld ?_)))
   replace S:=S.pm [3,4,0] 5
   exact qCD ⟨k137,by omega,_,A146,c147,(l109++[(nth qf.z l32 x110).f2]),(w64 (x110+1)),by omega,E,.of,S,H⟩
   refine wp_skip ?_
   refine qCC ?_
   refine hK118 _ _ (pl0 (plc E (.r 0 2 .nil) (fun a E=>pld ?_)))
   replace S:=S.tail
   exact qCD ⟨k137,by omega,_,A107,c108,l109,(w64 (x110+1)),by omega,E,.of,S,H⟩
  refine pl0 (plc E (.r 0 5 .nil) (fun a E=>E.fk 61 H (fun c130 E H=>?_) fun c130 E H=>?_))
  refine plc E (.r 5 2<|.b 7 2 hb126<|.nil) (fun a E=>?_)
  obtain ⟨t132,h133,H⟩:=bd H
  refine plq E S en118 (qAO.calls k113 l109 ((nth qf.z l32 x110).f2) _ _ _ _ _ (Sub.refl _) (S.rd_at (i:=3) rfl) h133) fun u131 S a E=>plc E (.r 9 2 .nil) (fun a E=>pld ?_)
  exact J138 _ (by omega) _ (!t132) _ _ E .of S H
  refine plc E (.r 5 6 .nil) (fun a E=>pld ?_)
  exact J138 _ (by omega) _ false _ _ E .of S H
  refine wp_exit ?_
  refine hK104 _ _ (pl0 (plc E (.r 0 1 .nil) (fun a E=>pld ?_)))
  refine qCC ?_
  refine qCC ?_
  refine hK45 _ _ (pl0 (plc E (.r 0 2 .nil) (fun a E=>pld ?_)))
  replace S:=S.nilrow qf.k 212
  replace S:=S.pm [0] 3
  exact qCD ⟨k113,by omega,_,none,0,[],A107,c108,l109,(w64 (x36+1)),F37,by omega,E,.of,S,g0_0,g1_0,H⟩
  refine wp_exit ?_
  refine hK26 _ _ (rr E fun a E=>(wp_ret ?_))
  replace S:=S.tail
  obtain rfl:=si H
  exact rtN E ⟨_,rfl,_,_,_,rfl,S⟩
 refine pl0 (plc E (.r 0 1 .nil) (fun a E=>?_))
 obtain ⟨t5,h6,H⟩:=bd H
 refine plq E S en80 (qAL.calls k x _ _ _ _ _ S.own.sub g0_0 h6) fun u4 S a E=>plc E (.r 2 2 .nil) (fun a E=>E.fkn 22 H (fun c7 E H=>?_) fun c7 E H=>?_)
 refine plc E (.r 4 1 .nil) (fun a E=>?_)
 obtain ⟨t9,h10,H⟩:=bd H
 refine plq E S en203 (qAd.calls k y _ _ _ _ _ S.own.sub g1_0 h10) fun u8 S a E=>plc E (.r 6 3 .nil) (fun a E=>E.fkn 27 H (fun c11 E H=>?_) fun c11 E H=>?_)
 refine plc E (.r 9 4 .nil) (fun a E=>E.fk 31 H (fun c12 E H=>?_) fun c12 E H=>?_)
 refine plc E (.r 13 11 .nil) (fun a E=>pld ?_)
 exact J19 _ (by omega) _ true _ _ E .of S H
 refine plc E (.r 13 4 .nil) (fun a E=>E.fk 35 H (fun c13 E H=>?_) fun c13 E H=>?_)
 refine plc E (.r 17 7 .nil) (fun a E=>pld ?_)
 exact J19 _ (by omega) _ true _ _ E .of S H
 refine plc E (.r 17 4 .nil) (fun a E=>E.fk 39 H (fun c14 E H=>?_) fun c14 E H=>?_)
 refine plc E (.r 21 3 .nil) (fun a E=>pld ?_)
 exact J19 _ (by omega) _ true _ _ E .of S H
 refine plc E (.r 21 3 .nil) (fun a E=>pld ?_)
 exact J19 _ (by omega) _ (decide (p>3)) _ _ E .of S H
 refine plc E (.r 9 15 .nil) (fun a E=>pld ?_)
 exact J19 _ (by omega) _ true _ _ E .of S H
 refine plc E (.r 4 20 .nil) (fun a E=>pld ?_)
 exact J19 _ (by omega) _ true _ _ E .of S H
def qAl.j6:Nat→Int→Bool→Option (List ql)
 | 0,_,_=>none
 | k+1,x,y5=>if y5=true then (some []) else (some [(⟨1,0,0⟩:ql),(⟨2,1,x⟩:ql),(⟨2,2,1⟩:ql),(⟨2,3,1⟩:ql),(⟨3,0,0⟩:ql)])
theorem qAl.j6_s k x y5:type_of% (qAl.j6.eq_2 x y5 k):=qAl.j6.eq_2 x y5 k
def qAl.f(k:Nat)(x:Int):Option (List ql):=if x<1 then (qAl.j6 k x true) else (qAl.j6 k x (decide (x>3)))
def qAl.Post(W F:World)(r:List ql)(v:Value)(w':World):Prop:=∃(F':World)(RA0_0:OA)(rc0_0:Nat),v = .slice RA0_0 r.length rc0_0∧Sm W F w' F' [row ql.k 175 (.slice RA0_0 r.length rc0_0) r]
theorem qAl.calls(k:Nat)(x:Int)(r:List ql)(W F:World)(hown:Sub F W)(H:qAl.f k x=some r):
    Cr 167 #[iv x] W (qAl.Post W F r):=by
 have S:=sT hown
 unfold qAl.f at H
 refine ent 16 rfl rfl rfl (fun a E=>?_)
 refine rr E fun a E=>(sq fun K2 hK2=>sq fun K3 hK3=>?_)
 have J9:∀ kq7,kq7≤k→∀(G:NV)(y5:Bool)(a:Act)(w':World),Env 16 G a→At G [(0,iv x),(8,.bool y5)]→Sm W F w' F []→qAl.j6 kq7 x y5=some r→K3 a w':=by
  intro kq7 hkq G y5 a u10 E A S H
  obtain _ | k8:=kq7
  exact zz H
  rw [qAl.j6_s]at H
  obtain ⟨J,E⟩:=E.at A
  refine hK3 _ _ (E.ib 8 H (fun c11 E H=>?_) fun c11 E H=>?_)
  refine rr E fun a E=>(wp_ret (qCA ?_))
  replace S:=S.nilrow ql.k 175
  obtain rfl:=si H
  exact rt1 E ⟨_,rfl,_,_,_,rfl,S⟩
  refine wp_skip (hK2 _ _ (sq fun K14 hK14=>pl0 (plc E (.r 0 6 .nil) (fun a E=>ple E (.lit (d:=ql.k) (e:=175) S [(⟨1,0,0⟩:ql),(⟨2,1,x⟩:ql),(⟨2,2,1⟩:ql),(⟨2,3,1⟩:ql),(⟨3,0,0⟩:ql)] (.cons rfl<|.cons rfl<|.cons rfl<|.cons rfl<|.cons rfl .nil)) ?_))))
  rintro _ u15 a ⟨A16,c17,rfl,S,hg⟩ E
  refine plc E (.r 7 1 .nil) (fun a E=>pld (hK14 _ _ (wp_ret ?_)))
  obtain rfl:=si H
  exact rt1 E ⟨_,rfl,_,_,_,rfl,S⟩
 refine pl0 (plc E (.r 0 3 .nil) (fun a E=>E.fk 5 H (fun c4 E H=>?_) fun c4 E H=>?_))
 refine plc E (.r 3 3 .nil) (fun a E=>pld ?_)
 exact J9 _ (by omega) _ true _ _ E .of S H
 refine plc E (.r 3 3 .nil) (fun a E=>pld ?_)
 exact J9 _ (by omega) _ (decide (x>3)) _ _ E .of S H
def qBs.f(k:Nat)(x:List qA)(y:Int)(z:Int):Option (List Int):=(qAl.f k z).bind fun t4=>((qz.f k x t4 y z).bind fun t14=>(some t14.1))
def qBs.Post(W F:World)(r:List Int)(v:Value)(w':World):Prop:=∃(F':World)(RA0_0:OA)(rc0_0:Nat),v = .slice RA0_0 r.length rc0_0∧Sm W F w' F' [row ki 3 (.slice RA0_0 r.length rc0_0) r]
theorem qBs.calls(k:Nat)(x:List qA)(y:Int)(z:Int)(A0_0:OA)(c0_0:Nat)(r:List Int)(W F:World)(hown:Sub F W)(g0_0:Rd qA.k F A0_0 c0_0 x)(H:qBs.f k x y z=some r):
    Cr 122 #[.slice A0_0 x.length c0_0,iv y,iv z] W (qBs.Post W F r):=by
 have S:=sT hown
 unfold qBs.f at H
 refine ent 19 rfl rfl rfl (fun a E=>?_)
 refine rr E fun a E=>(sq fun K2 hK2=>pl0 (plc E (.r 0 2 .nil) (fun a E=>?_)))
 obtain ⟨t4,h5,H⟩:=bd H
 refine ple E (.cl en167 (qAl.calls k z _ _ _ S.own.sub h5)) ?_
 rintro _ u3 a ⟨F6,A7,c8,rfl,hC⟩ E
 have hs:=hC.sub
 replace S:=S.called (X:=[]) hC
 replace g0_0:=g0_0.mono hs
 refine plc E (.r 3 2 .nil) (fun a E=>?_)
 obtain ⟨F11,hs,g12,S⟩:=S.give
 replace g0_0:=g0_0.mono hs
 obtain ⟨t14,h15,H⟩:=bd H
 refine ple E (.cl en166 (qz.calls k x t4 y z _ _ _ _ _ _ _ S.own.sub g0_0 g12 h15)) ?_
 rintro _ u13 a ⟨F16,A17,c18,rfl,hC⟩ E
 have hs:=hC.sub
 replace S:=S.called (X:=[]) hC
 replace g0_0:=g0_0.mono hs
 replace g12:=g12.mono hs
 refine plc E (.r 6 5 .nil) (fun a E=>pld (hK2 _ _ (rr E fun a E=>(wp_ret ?_))))
 obtain rfl:=si H
 exact rt1 E ⟨_,rfl,_,_,_,rfl,S⟩
def qBm.f(k:Nat)(x:qG)(y:Int):Option (List Int):=(qBf.f k x y).bind fun t7=>(if t7.2=true then (if 0≤t7.1∧t7.1<(x.f5.length:Int) then ((qAN.f ((nth qE.z x.f5 t7.1).f1)).bind fun t21=>(some t21)) else (none)) else ((qBs.f k x.f4 y x.f1).bind fun t30=>(some t30)))
def qBm.Post(W F:World)(r:List Int)(v:Value)(w':World):Prop:=∃(F':World)(RA0_0:OA)(rc0_0:Nat),v = .slice RA0_0 r.length rc0_0∧Sm W F w' F' [row ki 3 (.slice RA0_0 r.length rc0_0) r]
theorem qBm.calls(k:Nat)(x:qG)(y:Int)(A0_4:OA)(c0_4:Nat)(A0_5:OA)(c0_5:Nat)(A0_6:OA)(c0_6:Nat)(r:List Int)(W F:World)(hown:Sub F W)(g0_4:Rd qA.k F A0_4 c0_4 x.f4)(g0_5:Rd qE.k F A0_5 c0_5 x.f5)(g0_6:Rd qC.k F A0_6 c0_6 x.f6)(H:qBm.f k x y=some r):
    Cr 71 #[.agg #[iv x.f0,iv x.f1,iv x.f2,iv x.f3,.slice A0_4 x.f4.length c0_4,.slice A0_5 x.f5.length c0_5,.slice A0_6 x.f6.length c0_6],iv y] W (qBm.Post W F r):=by
 have S:=sT hown
 unfold qBm.f at H
 refine ent 27 rfl rfl rfl (fun a E=>?_)
 refine sq fun K1 hK1=>pl0 (plx (t:=26) E S [iv x.f0,iv x.f1,iv x.f2,iv x.f3,.slice A0_4 x.f4.length c0_4,.slice A0_5 x.f5.length c0_5,.slice A0_6 x.f6.length c0_6] fun b2 u3 hb2 S a E=>plc E (.r 1 1 .nil) (fun a E=>pld (hK1 _ _ (sq fun K4 hK4=>sq fun K5 hK5=>pl0 (plc E (.bn 0 0 7 hb2<|.r 1 1<|.nil) (fun a E=>?_))))))
 obtain ⟨t7,h8,H⟩:=bd H
 refine plq E S en121 (qBf.calls k x y _ _ _ _ _ _ _ _ _ S.own.sub g0_4 g0_5 g0_6 h8) fun u6 S a E=>plc E (.r 3 5 .nil) (fun a E=>pld (hK5 _ _ (rr E fun a E=>(E.ib 13 H (fun c10 E H=>?_) fun c10 E H=>?_))))
 refine sq fun K11 hK11=>pl0 ?_
 have hb2:=S.ba 0
 obtain ⟨c12,H⟩:=gd H
 have hE_:=E
 obtain ⟨ad13,rfl⟩:=g0_5.addr c12.1 c12.2
 replace E:=hE_
 obtain ⟨cs15,⟨A17,c18,rfl,g19⟩,hc16⟩:=g0_5.el qE.z t7.1 c12.1 c12.2
 refine plc E (.r 0 1<|.b 1 5 hb2<|.r 2 1<|.x 3 c12<|.r 4 1<|.c 5 (S.fc hc16 1)<|.nil) (fun a E=>?_)
 obtain ⟨t21,h22,H⟩:=bd H
 refine ple E (.cl en112 (qAN.calls ((nth qE.z x.f5 t7.1).f1) _ _ _ _ _ S.own.sub g19 h22)) ?_
 rintro _ u20 a ⟨F23,A24,c25,rfl,hC⟩ E
 have hs:=hC.sub
 replace S:=S.called (X:=[]) hC
 replace g0_4:=g0_4.mono hs
 replace g0_5:=g0_5.mono hs
 replace g0_6:=g0_6.mono hs
 replace g19:=g19.mono hs
 refine plc E (.r 7 1 .nil) (fun a E=>pld (hK11 _ _ (wp_ret (qCA ?_))))
 replace S:=S.pm [0] 2
 obtain rfl:=si H
 exact rt1 E ⟨_,rfl,_,_,_,rfl,S⟩
 refine wp_skip (hK4 _ _ (sq fun K28 hK28=>pl0 ?_))
 have hb2:=S.ba 0
 refine plc E (.r 0 1<|.b 1 4 hb2<|.r 2 2<|.b 4 1 hb2<|.nil) (fun a E=>?_)
 obtain ⟨t30,h31,H⟩:=bd H
 refine ple E (.cl en122 (qBs.calls k x.f4 y x.f1 _ _ _ _ _ S.own.sub g0_4 h31)) ?_
 rintro _ u29 a ⟨F32,A33,c34,rfl,hC⟩ E
 have hs:=hC.sub
 replace S:=S.called (X:=[]) hC
 replace g0_4:=g0_4.mono hs
 replace g0_5:=g0_5.mono hs
 replace g0_6:=g0_6.mono hs
 refine plc E (.r 6 1 .nil) (fun a E=>pld (hK28 _ _ (wp_ret ?_)))
 replace S:=S.pm [0] 2
 obtain rfl:=si H
 exact rt1 E ⟨_,rfl,_,_,_,rfl,S⟩
def qBL.j14:Nat→qG→Int→Bool→Option (List Int)
 | 0,_,_,_=>none
 | k+1,x,y,y13=>if y13=true then (some []) else ((qBm.f k x y).bind fun t24=>(some t24))
theorem qBL.j14_s k x y y13:type_of% (qBL.j14.eq_2 x y y13 k):=qBL.j14.eq_2 x y y13 k
def qBL.f(k:Nat)(x:qG)(y:Int):Option (List Int):=(qAD.f k x).bind fun t7=>(if t7=0 then ((qAq.f y 0 (w64 (x.f3 - 1))).bind fun t11=>(qBL.j14 k x y (!t11))) else (qBL.j14 k x y true))
def qBL.Post(W F:World)(r:List Int)(v:Value)(w':World):Prop:=∃(F':World)(RA0_0:OA)(rc0_0:Nat),v = .slice RA0_0 r.length rc0_0∧Sm W F w' F' [row ki 3 (.slice RA0_0 r.length rc0_0) r]
theorem qBL.calls(k:Nat)(x:qG)(y:Int)(A0_4:OA)(c0_4:Nat)(A0_5:OA)(c0_5:Nat)(A0_6:OA)(c0_6:Nat)(r:List Int)(W F:World)(hown:Sub F W)(g0_4:Rd qA.k F A0_4 c0_4 x.f4)(g0_5:Rd qE.k F A0_5 c0_5 x.f5)(g0_6:Rd qC.k F A0_6 c0_6 x.f6)(H:qBL.f k x y=some r):
    Cr 22 #[.agg #[iv x.f0,iv x.f1,iv x.f2,iv x.f3,.slice A0_4 x.f4.length c0_4,.slice A0_5 x.f5.length c0_5,.slice A0_6 x.f6.length c0_6],iv y] W (qBL.Post W F r):=by
 have S:=sT hown
 unfold qBL.f at H
 refine ent 19 rfl rfl rfl (fun a E=>?_)
 refine sq fun K1 hK1=>pl0 (plx (t:=26) E S [iv x.f0,iv x.f1,iv x.f2,iv x.f3,.slice A0_4 x.f4.length c0_4,.slice A0_5 x.f5.length c0_5,.slice A0_6 x.f6.length c0_6] fun b2 u3 hb2 S a E=>plc E (.r 1 1 .nil) (fun a E=>pld (hK1 _ _ (sq fun K4 hK4=>sq fun K5 hK5=>?_))))
 have J17:∀ kq15,kq15≤k→∀(G:NV)(y13:Bool)(a:Act)(w':World),Env 19 G a→At G [(1,iv y),(2,.pointer (pb b2)),(15,.bool y13)]→Sm W F w' F [box b2 #[iv x.f0,iv x.f1,iv x.f2,iv x.f3,.slice A0_4 x.f4.length c0_4,.slice A0_5 x.f5.length c0_5,.slice A0_6 x.f6.length c0_6] 26]→qBL.j14 kq15 x y y13=some r→K5 a w':=by
  intro kq15 hkq G y13 a u18 E A S H
  obtain _ | k16:=kq15
  exact zz H
  rw [qBL.j14_s]at H
  obtain ⟨J,E⟩:=E.at A
  refine hK5 _ _ (E.ib 15 H (fun c19 E H=>?_) fun c19 E H=>?_)
  refine rr E fun a E=>(wp_ret (qCA ?_))
  replace S:=S.nilrow ki 3
  replace S:=S.pm [0] 2
  obtain rfl:=si H
  exact rt1 E ⟨_,rfl,_,_,_,rfl,S⟩
  refine wp_skip (hK4 _ _ (sq fun K22 hK22=>pl0 (plc E (.bn 0 0 7 (S.ba 0)<|.r 1 1<|.nil) (fun a E=>?_))))
  obtain ⟨t24,h25,H⟩:=bd H
  refine ple E (.cl en71 (qBm.calls k16 x y _ _ _ _ _ _ _ _ _ S.own.sub g0_4 g0_5 g0_6 h25)) ?_
  rintro _ u23 a ⟨F26,A27,c28,rfl,hC⟩ E
  have hs:=hC.sub
  replace S:=S.called (X:=[]) hC
  replace g0_4:=g0_4.mono hs
  replace g0_5:=g0_5.mono hs
  replace g0_6:=g0_6.mono hs
  refine plc E (.r 3 1 .nil) (fun a E=>pld (hK22 _ _ (wp_ret ?_)))
  replace S:=S.pm [0] 2
  obtain rfl:=si H
  exact rt1 E ⟨_,rfl,_,_,_,rfl,S⟩
 refine pl0 (plc E (.bn 0 0 7 hb2 .nil) (fun a E=>?_))
 obtain ⟨t7,h8,H⟩:=bd H
 refine plq E S en32 (qAD.calls k x _ _ _ _ _ _ _ _ _ S.own.sub g0_4 g0_5 g0_6 h8) fun u6 S a E=>plc E (.r 2 2 .nil) (fun a E=>E.fkn 8 H (fun c9 E H=>?_) fun c9 E H=>?_)
 refine plc E (.r 4 2<|.b 6 3 (S.ba 0)<|.r 7 1<|.nil) (fun a E=>?_)
 obtain ⟨t11,h12,H⟩:=bd H
 refine plq E S en70 (qAq.calls y 0 (w64 (x.f3 - 1)) _ _ _ S.own.sub h12) fun u10 S a E=>plc E (.r 9 2 .nil) (fun a E=>pld ?_)
 exact J17 _ (by omega) _ (!t11) _ _ E .of S H
 refine plc E (.r 4 7 .nil) (fun a E=>pld ?_)
 exact J17 _ (by omega) _ true _ _ E .of S H
def qBR.f(x:qA)(y:Int):Option Int:=(qAR.f x.f0 y).bind fun t6=>(some t6)
def qBR.Post(W F:World)(r:Int)(v:Value)(w':World):Prop:=∃(F':World),v=iv r∧Sm W F w' F' []
theorem qBR.calls(x:qA)(y:Int)(r:Int)(W F:World)(hown:Sub F W)(H:qBR.f x y=some r):
    Cr 174 #[.agg #[iv x.f0,iv x.f1,iv x.f2,iv x.f3,.bool x.f4,.bool x.f5],iv y] W (qBR.Post W F r):=by
 have S:=sT hown
 unfold qBR.f at H
 refine ent 9 rfl rfl rfl (fun a E=>?_)
 refine sq fun K1 hK1=>pl0 (plx (t:=104) E S [iv x.f0,iv x.f1,iv x.f2,iv x.f3,.bool x.f4,.bool x.f5] fun b2 u3 hb2 S a E=>plc E (.r 1 1 .nil) (fun a E=>pld (hK1 _ _ (sq fun K4 hK4=>pl0 (plc E (.r 0 1<|.b 1 0 hb2<|.r 2 1<|.nil) (fun a E=>?_))))))
 obtain ⟨t6,h7,H⟩:=bd H
 refine plq E S en161 (qAR.calls x.f0 y _ _ _ S.own.sub h7) fun u5 S a E=>plc E (.r 4 1 .nil) (fun a E=>pld (hK4 _ _ (wp_ret ?_)))
 replace S:=S.tail
 obtain rfl:=si H
 exact rt1 E ⟨_,rfl,_,rfl,S⟩
def qN.l7:Nat→List qA→Int→Int→Int→Option (Int × Bool)
 | 0,_,_,_,_=>none
 | k+1,x,y,x5,x6=>if x5<x6 then (if 0≤(w64 ((IntKind.u64.wrap (w64 (x5+x6))).fdiv 2))∧(w64 ((IntKind.u64.wrap (w64 (x5+x6))).fdiv 2))<(x.length:Int) then ((qBR.f (nth qA.z x (w64 ((IntKind.u64.wrap (w64 (x5+x6))).fdiv 2))) y).bind fun t22=>(if t22<0 then (qN.l7 k x y (w64 ((w64 ((IntKind.u64.wrap (w64 (x5+x6))).fdiv 2))+1)) x6) else (qN.l7 k x y x5 (w64 ((IntKind.u64.wrap (w64 (x5+x6))).fdiv 2))))) else (none)) else (if x5<(x.length:Int) then (if 0≤x5∧x5<(x.length:Int) then ((qBR.f (nth qA.z x x5) y).bind fun t33=>(some (x5,(t33 == 0)))) else (none)) else (some (x5,false)))
theorem qN.l7_s k x y x5 x6:type_of% (qN.l7.eq_2 x y x5 x6 k):=qN.l7.eq_2 x y x5 x6 k
def qN.f(k:Nat)(x:List qA)(y:Int):Option (Int × Bool):=qN.l7 k x y 0 (x.length:Int)
def qN.Post(W F:World)(r:Int × Bool)(v:Value)(w':World):Prop:=∃(F':World),v = .tuple #[iv r.1,.bool r.2]∧Sm W F w' F' []
theorem qN.calls(k:Nat)(x:List qA)(y:Int)(A0_0:OA)(c0_0:Nat)(r:Int × Bool)(W F:World)(hown:Sub F W)(g0_0:Rd qA.k F A0_0 c0_0 x)(H:qN.f k x y=some r):
    Cr 173 #[.slice A0_0 x.length c0_0,iv y,.func (.func 174) #[] #[]] W (qN.Post W F r):=by
 have S:=sT hown
 unfold qN.f at H
 refine ent 49 rfl rfl rfl (fun a E=>?_)
 refine rr E fun a E=>(rr E fun a E=>(rr E fun a E=>(sq fun K4 hK4=>wp_block ?_)))
 refine wp_loop_ghost (fun kq8 a w'=>∃(G:NV)(x5:Int)(x6:Int),kq8≤k∧Env 49 G a∧At G [(0,.slice A0_0 x.length c0_0),(1,iv y),(2,.func (.func 174) #[] #[]),(8,iv (x.length:Int)),(9,iv x5),(10,iv x6)]∧Sm W F w' F []∧qN.l7 kq8 x y x5 x6=some r) k ⟨_,0,(x.length:Int),Nat.le_refl _,E,.of,S,H⟩ ?_
 rintro kq8 a u10 ⟨G,x5,x6,hkq,E,A,S,H⟩
 obtain _ | k9:=kq8
 exact zz H
 rw [qN.l7_s]at H
 obtain ⟨J,E⟩:=E.at A
 refine sq fun K11 hK11=>rr E fun a E=>(E.ik 17 H (fun c13 E H=>?_) fun c13 E H=>?_)
 refine wp_skip (hK11 _ _ (wp_block (rr E fun a E=>(sq fun K15 hK15=>pl0 ?_))))
 obtain ⟨c16,H⟩:=gd H
 have hE_:=E
 obtain ⟨ad17,rfl⟩:=g0_0.addr c16.1 c16.2
 replace E:=hE_
 obtain ⟨cs19,rfl,hc20⟩:=g0_0.el qA.z (w64 ((IntKind.u64.wrap (w64 (x5+x6))).fdiv 2)) c16.1 c16.2
 refine plc E (.r 0 3<|.x 3 c16<|.cs 4 (S.fcs hc20)<|.r 5 1<|.nil) (fun a E=>?_)
 obtain ⟨t22,h23,H⟩:=bd H
 refine plq E S en174 (qBR.calls (nth qA.z x (w64 ((IntKind.u64.wrap (w64 (x5+x6))).fdiv 2))) y _ _ _ S.own.sub h23) fun u21 S a E=>plc E (.r 7 1 .nil) (fun a E=>pld (hK15 _ _ (E.ik 31 H (fun c24 E H=>?_) fun c24 E H=>?_)))
 refine pl0 (plc E (.r 0 3 .nil) (fun a E=>pld ?_))
 refine qCC ?_
 exact qCD ⟨k9,by omega,_,(w64 ((w64 ((IntKind.u64.wrap (w64 (x5+x6))).fdiv 2))+1)),x6,by omega,E,.of,S,H⟩
 refine pl0 (plc E (.r 0 2 .nil) (fun a E=>pld ?_))
 refine qCC ?_
 exact qCD ⟨k9,by omega,_,x5,(w64 ((IntKind.u64.wrap (w64 (x5+x6))).fdiv 2)),by omega,E,.of,S,H⟩
 refine wp_exit ?_
 refine hK4 _ _ (sq fun K25 hK25=>pl0 (plc E (.r 0 5 .nil) (fun a E=>E.fk 39 H (fun c26 E H=>?_) fun c26 E H=>?_)))
 obtain ⟨c27,H⟩:=gd H
 have hE_:=E
 obtain ⟨ad28,rfl⟩:=g0_0.addr c27.1 c27.2
 replace E:=hE_
 obtain ⟨cs30,rfl,hc31⟩:=g0_0.el qA.z x5 c27.1 c27.2
 refine plc E (.r 5 3<|.x 8 c27<|.cs 9 (S.fcs hc31)<|.r 10 1<|.nil) (fun a E=>?_)
 obtain ⟨t33,h34,H⟩:=bd H
 refine plq E S en174 (qBR.calls (nth qA.z x x5) y _ _ _ S.own.sub h34) fun u32 S a E=>plc E (.r 12 4 .nil) (fun a E=>pld (hK25 _ _ (wp_ret ?_)))
 obtain rfl:=si H
 exact rtN E ⟨_,rfl,_,rfl,S⟩
 refine plc E (.r 5 11 .nil) (fun a E=>pld (hK25 _ _ (wp_ret ?_)))
 obtain rfl:=si H
 exact rtN E ⟨_,rfl,_,rfl,S⟩
def qAx.j15:Nat→List qA→Int × Bool→Bool→Option (qA × Bool)
 | 0,_,_,_=>none
 | k+1,x,t6,y14=>if y14=true then (some ((⟨0,0,0,0,false,false⟩:qA),false)) else (if 0≤t6.1∧t6.1<(x.length:Int) then (some ((nth qA.z x t6.1),true)) else (none))
theorem qAx.j15_s k x t6 y14:type_of% (qAx.j15.eq_2 x t6 y14 k):=qAx.j15.eq_2 x t6 y14 k
def qAx.f(k:Nat)(x:List qA)(y:Int):Option (qA × Bool):=(qN.f k x y).bind fun t6=>(if t6.2=true then ((qAL.f k x).bind fun t12=>(qAx.j15 k x t6 (!(t12 == 0)))) else (qAx.j15 k x t6 true))
def qAx.Post(W F:World)(r:qA × Bool)(v:Value)(w':World):Prop:=∃(F':World),v = .tuple #[.agg #[iv r.1.f0,iv r.1.f1,iv r.1.f2,iv r.1.f3,.bool r.1.f4,.bool r.1.f5],.bool r.2]∧Sm W F w' F' []
theorem qAx.calls(k:Nat)(x:List qA)(y:Int)(A0_0:OA)(c0_0:Nat)(r:qA × Bool)(W F:World)(hown:Sub F W)(g0_0:Rd qA.k F A0_0 c0_0 x)(H:qAx.f k x y=some r):
    Cr 127 #[.slice A0_0 x.length c0_0,iv y] W (qAx.Post W F r):=by
 have S:=sT hown
 unfold qAx.f at H
 refine ent 26 rfl rfl rfl (fun a E=>?_)
 refine sq fun K1 hK1=>pl0 (pla (t:=104) E S [iv 0,iv 0,iv 0,iv 0,.bool false,.bool false] fun b2 u3 hb2 S a E=>plc E (.r 1 1 .nil) (fun a E=>pld (hK1 _ _ (sq fun K4 hK4=>pl0 (plc E (.r 0 2 .nil) (fun a E=>?_))))))
 obtain ⟨t6,h7,H⟩:=bd H
 refine plq E S en173 (qN.calls k x y _ _ _ _ _ S.own.sub g0_0 h7) fun u5 S a E=>plc E (.r 3 5 .nil) (fun a E=>pld (hK4 _ _ (sq fun K8 hK8=>sq fun K9 hK9=>?_)))
 have J18:∀ kq16,kq16≤k→∀(G:NV)(y14:Bool)(a:Act)(w':World),Env 26 G a→At G [(0,.slice A0_0 x.length c0_0),(4,.pointer (pb b2)),(6,iv t6.1),(20,.bool y14)]→Sm W F w' F [box b2 #[iv 0,iv 0,iv 0,iv 0,.bool false,.bool false] 104]→qAx.j15 kq16 x t6 y14=some r→K9 a w':=by
  intro kq16 hkq G y14 a u19 E A S H
  obtain _ | k17:=kq16
  exact zz H
  rw [qAx.j15_s]at H
  obtain ⟨J,E⟩:=E.at A
  refine hK9 _ _ (E.ib 20 H (fun c20 E H=>?_) fun c20 E H=>?_)
  refine sq fun K21 hK21=>pl0 (plc E (.r 0 1 .nil) (fun a E=>pls E S [iv 0,iv 0,iv 0,iv 0,.bool false,.bool false] fun u22 hb2 S a E=>plc E (.r 2 1 .nil) (fun a E=>pld (hK21 _ _ (wp_ret (qCA ?_))))))
  replace S:=S.tail
  obtain rfl:=si H
  exact rtm E (.b hb2 ag104 sz104 (.t .nil)) ⟨_,rfl,_,rfl,S⟩
  refine wp_skip (hK8 _ _ (sq fun K23 hK23=>pl0 ?_))
  obtain ⟨c24,H⟩:=gd H
  have hE_:=E
  obtain ⟨ad25,rfl⟩:=g0_0.addr c24.1 c24.2
  replace E:=hE_
  obtain ⟨cs27,rfl,hc28⟩:=g0_0.el qA.z t6.1 c24.1 c24.2
  refine plc E (.r 0 2<|.x 2 c24<|.cs 3 (S.fcs hc28)<|.nil) (fun a E=>pls E S [iv ((nth qA.z x t6.1).f0),iv ((nth qA.z x t6.1).f1),iv ((nth qA.z x t6.1).f2),iv ((nth qA.z x t6.1).f3),.bool ((nth qA.z x t6.1).f4),.bool ((nth qA.z x t6.1).f5)] fun u29 hb2 S a E=>plc E (.r 5 1 .nil) (fun a E=>pld (hK23 _ _ (wp_ret ?_))))
  replace S:=S.tail
  obtain rfl:=si H
  exact rtm E (.b hb2 ag104 sz104 (.t .nil)) ⟨_,rfl,_,rfl,S⟩
 refine pl0 (plc E (.r 0 3 .nil) (fun a E=>E.fbn 16 H (fun c10 E H=>?_) fun c10 E H=>?_))
 refine plc E (.r 3 1 .nil) (fun a E=>?_)
 obtain ⟨t12,h13,H⟩:=bd H
 refine plq E S en80 (qAL.calls k x _ _ _ _ _ S.own.sub g0_0 h13) fun u11 S a E=>plc E (.r 5 2 .nil) (fun a E=>pld ?_)
 exact J18 _ (by omega) _ (!(t12 == 0)) _ _ E .of S H
 refine plc E (.r 3 4 .nil) (fun a E=>pld ?_)
 exact J18 _ (by omega) _ true _ _ E .of S H
def qBX.f(k:Nat)(x:Int)(xf0_:qG):Option Bool:=(qAx.f k xf0_.f4 x).bind fun t4=>(some (!t4.1.f4))
def qBX.Post(W F:World)(r:Bool)(v:Value)(w':World):Prop:=∃(F':World),v = .bool r∧Sm W F w' F' []
theorem qBX.calls(k:Nat)(x:Int)(xf0_:qG)(pf0_:Nat)(Af0_4:OA)(cf0_4:Nat)(Af0_5:OA)(cf0_5:Nat)(Af0_6:OA)(cf0_6:Nat)(r:Bool)(W F:World)(hown:Sub F W)(gf0_4:Rd qA.k F Af0_4 cf0_4 xf0_.f4)(gf0_5:Rd qE.k F Af0_5 cf0_5 xf0_.f5)(gf0_6:Rd qC.k F Af0_6 cf0_6 xf0_.f6)(hpf0_:F.heap[pf0_]? = some (.cells #[iv xf0_.f0,iv xf0_.f1,iv xf0_.f2,iv xf0_.f3,.slice Af0_4 xf0_.f4.length cf0_4,.slice Af0_5 xf0_.f5.length cf0_5,.slice Af0_6 xf0_.f6.length cf0_6] 26 (0,0)))(H:qBX.f k x xf0_=some r):
    Cr 126 #[iv x,.pointer (pb pf0_)] W (qBX.Post W F r):=by
 have S:=sT hown
 unfold qBX.f at H
 refine ent 16 rfl rfl rfl (fun a E=>?_)
 refine rr E fun a E=>(sq fun K2 hK2=>pl0 (plc E (.r 0 1<|.b 1 4 (S.own.sub _ _ _ _ hpf0_)<|.r 2 1<|.nil) (fun a E=>?_)))
 obtain ⟨t4,h5,H⟩:=bd H
 refine plq E S en127 (qAx.calls k xf0_.f4 x _ _ _ _ _ S.own.sub gf0_4 h5) fun u3 S a E=>plc E (.r 4 3 .nil) (fun a E=>pla (t:=104) E S [iv 0,iv 0,iv 0,iv 0,.bool false,.bool false] fun b6 u7 hb6 S a E=>pls E S [iv t4.1.f0,iv t4.1.f1,iv t4.1.f2,iv t4.1.f3,.bool t4.1.f4,.bool t4.1.f5] fun u8 hb6 S a E=>plc E (.r 9 1 .nil) (fun a E=>pld (hK2 _ _ (rg E (.r 0 1<|.b 1 4 hb6<|.r 2 2<|.nil) fun a E=>(wp_ret ?_)))))
 replace S:=S.tail
 obtain rfl:=si H
 exact rt1 E ⟨_,rfl,_,rfl,S⟩
def qk.l5:Nat→List Int→qG→Int→Option Int
 | 0,_,_,_=>none
 | k+1,x,x1c0_,x4=>if x4<(x.length:Int) then (if 0≤x4∧x4<(x.length:Int) then ((qBX.f k (nth 0 x x4) x1c0_).bind fun t21=>(if t21=true then (some x4) else (qk.l5 k x x1c0_ (w64 (x4+1))))) else (none)) else (some (-1))
theorem qk.l5_s k x x1c0_ x4:type_of% (qk.l5.eq_2 x x1c0_ x4 k):=qk.l5.eq_2 x x1c0_ x4 k
def qk.f(k:Nat)(x:List Int)(x1c0_:qG):Option Int:=qk.l5 k x x1c0_ 0
def qk.Post(W F:World)(r:Int)(v:Value)(w':World):Prop:=∃(F':World),v=iv r∧Sm W F w' F' []
theorem qk.calls(k:Nat)(x:List Int)(x1c0_:qG)(A0_0:OA)(c0_0:Nat)(p1c0_:Nat)(A1c0_4:OA)(c1c0_4:Nat)(A1c0_5:OA)(c1c0_5:Nat)(A1c0_6:OA)(c1c0_6:Nat)(r:Int)(W F:World)(hown:Sub F W)(g0_0:Rd ki F A0_0 c0_0 x)(g1c0_4:Rd qA.k F A1c0_4 c1c0_4 x1c0_.f4)(g1c0_5:Rd qE.k F A1c0_5 c1c0_5 x1c0_.f5)(g1c0_6:Rd qC.k F A1c0_6 c1c0_6 x1c0_.f6)(hp1c0_:F.heap[p1c0_]? = some (.cells #[iv x1c0_.f0,iv x1c0_.f1,iv x1c0_.f2,iv x1c0_.f3,.slice A1c0_4 x1c0_.f4.length c1c0_4,.slice A1c0_5 x1c0_.f5.length c1c0_5,.slice A1c0_6 x1c0_.f6.length c1c0_6] 26 (0,0)))(H:qk.f k x x1c0_=some r):
    Cr 157 #[.slice A0_0 x.length c0_0,.func (.func 126) #[] #[.pointer (pb p1c0_)]] W (qk.Post W F r):=by
 have S:=sT hown
 unfold qk.f at H
 refine ent 19 rfl rfl rfl (fun a E=>?_)
 refine rr E fun a E=>(sq fun K2 hK2=>rr E fun a E=>(wp_block ?_))
 refine wp_loop_ghost (fun kq6 a w'=>∃(G:NV)(x4:Int),kq6≤k∧Env 19 G a∧At G [(0,.slice A0_0 x.length c0_0),(1,.func (.func 126) #[] #[.pointer (pb p1c0_)]),(7,iv (x.length:Int)),(8,iv x4)]∧Sm W F w' F []∧qk.l5 kq6 x x1c0_ x4=some r) k ⟨_,0,Nat.le_refl _,E,.of,S,H⟩ ?_
 rintro kq6 a u8 ⟨G,x4,hkq,E,A,S,H⟩
 obtain _ | k7:=kq6
 exact zz H
 rw [qk.l5_s]at H
 obtain ⟨J,E⟩:=E.at A
 refine rr E fun a E=>(sq fun K10 hK10=>E.ik 9 H (fun c11 E H=>?_) fun c11 E H=>?_)
 refine wp_skip (hK10 _ _ (sq fun K12 hK12=>wp_block (rr E fun a E=>(sq fun K14 hK14=>pl0 ?_))))
 obtain ⟨c15,H⟩:=gd H
 have hE_:=E
 obtain ⟨ad16,rfl⟩:=g0_0.addr c15.1 c15.2
 replace E:=hE_
 obtain ⟨cs18,rfl,hc19⟩:=g0_0.el 0 x4 c15.1 c15.2
 refine plc E (.r 0 3<|.x 3 c15<|.c 4 (S.fc hc19 0)<|.nil) (fun a E=>?_)
 obtain ⟨t21,h22,H⟩:=bd H
 refine plq E S en126 (qBX.calls k7 (nth 0 x x4) x1c0_ _ _ _ _ _ _ _ _ _ _ S.own.sub g1c0_4 g1c0_5 g1c0_6 hp1c0_ h22) fun u20 S a E=>pld (hK14 _ _ (E.ib 16 H (fun c23 E H=>?_) fun c23 E H=>?_))
 refine rr E fun a E=>(wp_ret (qCB (qCA (qCA (qCB (qCA ?_))))))
 obtain rfl:=si H
 exact rt1 E ⟨_,rfl,_,rfl,S⟩
 refine wp_skip ?_
 refine qCC ?_
 refine hK12 _ _ (pl0 (plc E (.r 0 2 .nil) (fun a E=>pld ?_)))
 exact qCD ⟨k7,by omega,_,(w64 (x4+1)),by omega,E,.of,S,H⟩
 refine wp_exit ?_
 refine hK2 _ _ (rr E fun a E=>(wp_ret ?_))
 obtain rfl:=si H
 exact rt1 E ⟨_,rfl,_,rfl,S⟩
def qj.l15:Nat→List Int→qG→List Int→Int→Int→Option (List Int)
 | 0,_,_,_,_,_=>none
 | k+1,x,x1c0_,l12,x13,x14=>if x14<(x.length:Int) then (if 0≤x14∧x14<(x.length:Int) then ((qBX.f k (nth 0 l12 x14) x1c0_).bind fun t33=>(if t33=true then (qj.l15 k x x1c0_ l12 x13 (w64 (x14+1))) else (if 0≤x13∧x13<(x.length:Int) then (qj.l15 k x x1c0_ (l12.set (x13).toNat (nth 0 l12 x14)) (w64 (x13+1)) (w64 (x14+1))) else (none)))) else (none)) else (if 0≤x13∧x13≤(x.length:Int) then (some (cutl (l12.take (x13).toNat++List.replicate (x.length - (x13).toNat) 0) 0 x13)) else (none))
theorem qj.l15_s k x x1c0_ l12 x13 x14:type_of% (qj.l15.eq_2 x x1c0_ l12 x13 x14 k):=qj.l15.eq_2 x x1c0_ l12 x13 x14 k
def qj.f(k:Nat)(x:List Int)(x1c0_:qG):Option (List Int):=(qk.f k x x1c0_).bind fun t4=>(if t4=(-1) then (some x) else (qj.l15 k x x1c0_ x t4 (w64 (t4+1))))
def qj.Post(x:List Int)(x1c0_:qG)(A0_0:OA)(c0_0:Nat)(p1c0_:Nat)(A1c0_4:OA)(c1c0_4:Nat)(A1c0_5:OA)(c1c0_5:Nat)(A1c0_6:OA)(c1c0_6:Nat)(W F:World)(r:List Int)(v:Value)(w':World):Prop:=∃(F':World)(RA0_0:OA)(rc0_0:Nat),v = .slice RA0_0 r.length rc0_0∧St W (mine W [row ki 3 (.slice A0_0 x.length c0_0) x]) F w' F' [row ki 3 (.slice RA0_0 r.length rc0_0) r]
theorem qj.calls(k:Nat)(x:List Int)(x1c0_:qG)(A0_0:OA)(c0_0:Nat)(p1c0_:Nat)(A1c0_4:OA)(c1c0_4:Nat)(A1c0_5:OA)(c1c0_5:Nat)(A1c0_6:OA)(c1c0_6:Nat)(r:List Int)(W F:World)(hown:Own W F [row ki 3 (.slice A0_0 x.length c0_0) x])(g1c0_4:Rd qA.k F A1c0_4 c1c0_4 x1c0_.f4)(g1c0_5:Rd qE.k F A1c0_5 c1c0_5 x1c0_.f5)(g1c0_6:Rd qC.k F A1c0_6 c1c0_6 x1c0_.f6)(hp1c0_:F.heap[p1c0_]? = some (.cells #[iv x1c0_.f0,iv x1c0_.f1,iv x1c0_.f2,iv x1c0_.f3,.slice A1c0_4 x1c0_.f4.length c1c0_4,.slice A1c0_5 x1c0_.f5.length c1c0_5,.slice A1c0_6 x1c0_.f6.length c1c0_6] 26 (0,0)))(H:qj.f k x x1c0_=some r):
    Cr 125 #[.slice A0_0 x.length c0_0,.func (.func 126) #[] #[.pointer (pb p1c0_)]] W (qj.Post x x1c0_ A0_0 c0_0 p1c0_ A1c0_4 c1c0_4 A1c0_5 c1c0_5 A1c0_6 c1c0_6 W F r):=by
 have S:=St.start hown
 obtain ⟨N,hN⟩:∃ N,N=mine W [row ki 3 (.slice A0_0 x.length c0_0) x]:=⟨_,rfl⟩
 rw [← hN]at S
 unfold qj.f at H
 refine ent 42 rfl rfl rfl (fun a E=>?_)
 refine rr E fun a E=>(sq fun K2 hK2=>pl0 (plc E (.r 0 2 .nil) (fun a E=>?_)))
 obtain ⟨t4,h5,H⟩:=bd H
 refine plq E S en157 (qk.calls k x x1c0_ _ _ _ _ _ _ _ _ _ _ _ _ (Sub.refl _) (S.rd_at (i:=0) rfl) (g1c0_4.mono S.own.sub) (g1c0_5.mono S.own.sub) (g1c0_6.mono S.own.sub) (S.own.sub _ _ _ _ hp1c0_) h5) fun u3 S a E=>plc E (.r 3 1 .nil) (fun a E=>pld (hK2 _ _ (sq fun K6 hK6=>rr E fun a E=>(E.ik 12 H (fun c8 E H=>?_) fun c8 E H=>?_))))
 refine rr E fun a E=>(wp_ret (qCA ?_))
 rw [hN]at S
 obtain rfl:=si H
 exact rt1 E ⟨_,rfl,_,_,_,rfl,S⟩
 refine wp_skip (hK6 _ _ (sq fun K10 hK10=>rr E fun a E=>(wp_block ?_)))
 refine wp_loop_ghost (fun kq16 a w'=>∃(G:NV)(l12:List Int)(x13:Int)(x14:Int),kq16≤k∧Env 42 G a∧At G [(0,.slice A0_0 x.length c0_0),(1,.func (.func 126) #[] #[.pointer (pb p1c0_)]),(5,iv x13),(6,iv x14)]∧St W N F w' F [row ki 3 (.slice A0_0 x.length c0_0) l12]∧qj.l15 kq16 x x1c0_ l12 x13 x14=some r) k ⟨_,x,t4,(w64 (t4+1)),Nat.le_refl _,E,.of,S,H⟩ ?_
 rintro kq16 a u18 ⟨G,l12,x13,x14,hkq,E,A,S,H⟩
 obtain _ | k17:=kq16
 exact zz H
 rw [qj.l15_s]at H
 obtain ⟨J,E⟩:=E.at A
 refine sq fun K19 hK19=>rr E fun a E=>(E.ik 19 H (fun c21 E H=>?_) fun c21 E H=>?_)
 refine wp_skip (hK19 _ _ (sq fun K22 hK22=>wp_block (sq fun K23 hK23=>pl0 ?_)))
 obtain ⟨c24,H⟩:=gd H
 have hr25:=S.ra 0
 have c26:0≤x14∧x14<(l12.length:Int):=by rw [← (qCE hr25).1]; exact c24
 have hE_:=E
 obtain ⟨b27,rfl⟩:=qCJ hr25 c26.1 c26.2
 replace E:=hE_
 have hr_:=S.ra 0
 obtain ⟨cs29,rfl,hc30⟩:=qCF hr_ 0 x14 c26.1 c26.2
 refine plc E (.r 0 2<|.x 2 c24<|.c 3 (hc30 0 _ rfl)<|.r 4 1<|.nil) (fun a E=>pld (hK23 _ _ (sq fun K31 hK31=>pl0 (plc E (.r 0 2 .nil) (fun a E=>?_)))))
 obtain ⟨t33,h34,H⟩:=bd H
 refine plq E S en126 (qBX.calls k17 (nth 0 l12 x14) x1c0_ _ _ _ _ _ _ _ _ _ _ S.own.sub g1c0_4 g1c0_5 g1c0_6 hp1c0_ h34) fun u32 S a E=>plc E (.r 3 1 .nil) (fun a E=>pld (hK31 _ _ (E.ibn 29 H (fun c35 E H=>?_) fun c35 E H=>?_)))
 refine wp_skip ?_
 refine qCC ?_
 refine hK22 _ _ (pl0 (plc E (.r 0 3 .nil) (fun a E=>pld ?_)))
 exact qCD ⟨k17,by omega,_,l12,x13,(w64 (x14+1)),by omega,E,.of,S,H⟩
 refine sq fun K36 hK36=>pl0 ?_
 obtain ⟨c37,H⟩:=gd H
 have hr38:=S.ra 0
 have c39:0≤x13∧x13<(l12.length:Int):=by rw [← (qCE hr38).1]; exact c37
 have hr_:=S.ra 0
 obtain ⟨cs41,rfl,hc42⟩:=qCF hr_ 0 x13 c39.1 c39.2
 refine plc E (.r 0 3<|.x 3 c37<|.nil) (fun a E=>?_)
 obtain ⟨cs44,rfl,hc45⟩:=qCF (S.row_at (i:=0) rfl) 0 x13 c39.1 c39.2
 refine ple E (.set (d:=ki) (n:=x.length) (i:=x13) (nth 0 l12 x14) (0) (ea0 _ _) S c39 [iv (nth 0 l12 x13)] hc45 [iv (nth 0 l12 x14)] rfl) ?_
 rintro _ u43 a ⟨rfl,S,hz⟩ E
 refine pld (hK36 _ _ (pl0 (plc E (.r 0 3 .nil) (fun a E=>pld ?_))))
 refine qCC ?_
 refine hK22 _ _ (pl0 (plc E (.r 0 3 .nil) (fun a E=>pld ?_)))
 exact qCD ⟨k17,by omega,_,(l12.set (x13).toNat (nth 0 l12 x14)),(w64 (x13+1)),(w64 (x14+1)),by omega,E,.of,S,H⟩
 refine wp_exit ?_
 refine hK10 _ _ (sq fun K46 hK46=>pl0 ?_)
 obtain ⟨c47,H⟩:=gd H
 obtain ⟨A48,c49,hA50,hv51⟩:=y_suf (P:=Tryz.prog) (k:=.i64) (S.row_at (i:=0) rfl) c47
 refine plc E (.r 0 2<|.y 2 (hv51 (by kernel_rfl))<|.nil) (fun a E=>ple E (.clr (d:=ki) (n:=x.length) (c':=c49) (lo:=x13) 8 0 S c47 hA50 (by rw [zr3]; exact rfl)) ?_)
 rintro _ u52 a ⟨rfl,S,hz⟩ E
 refine pld (hK46 _ _ (sq fun K53 hK53=>pl0 ?_))
 have hv54:=S.ra 0
 replace S:=S.shrink c47
 refine plc E (.r 0 2<|.y 2 (y_pre (k:=.i64) hv54 c47)<|.r 3 1<|.nil) (fun a E=>pld (hK53 _ _ (wp_ret ?_)))
 rw [hN]at S
 obtain rfl:=si H
 exact rt1 E ⟨_,rfl,_,_,_,rfl,S⟩
def qBp.f(k:Nat)(x:qG)(y:List Int):Option (List Int):=(qj.f k y x).bind fun t8=>(some t8)
def qBp.Post(x:qG)(y:List Int)(A0_4:OA)(c0_4:Nat)(A0_5:OA)(c0_5:Nat)(A0_6:OA)(c0_6:Nat)(A1_0:OA)(c1_0:Nat)(W F:World)(r:List Int)(v:Value)(w':World):Prop:=∃(F':World)(RA0_0:OA)(rc0_0:Nat),v = .slice RA0_0 r.length rc0_0∧St W (mine W [row ki 3 (.slice A1_0 y.length c1_0) y]) F w' F' [row ki 3 (.slice RA0_0 r.length rc0_0) r]
theorem qBp.calls(k:Nat)(x:qG)(y:List Int)(A0_4:OA)(c0_4:Nat)(A0_5:OA)(c0_5:Nat)(A0_6:OA)(c0_6:Nat)(A1_0:OA)(c1_0:Nat)(r:List Int)(W F:World)(hown:Own W F [row ki 3 (.slice A1_0 y.length c1_0) y])(g0_4:Rd qA.k F A0_4 c0_4 x.f4)(g0_5:Rd qE.k F A0_5 c0_5 x.f5)(g0_6:Rd qC.k F A0_6 c0_6 x.f6)(H:qBp.f k x y=some r):
    Cr 74 #[.agg #[iv x.f0,iv x.f1,iv x.f2,iv x.f3,.slice A0_4 x.f4.length c0_4,.slice A0_5 x.f5.length c0_5,.slice A0_6 x.f6.length c0_6],.slice A1_0 y.length c1_0] W (qBp.Post x y A0_4 c0_4 A0_5 c0_5 A0_6 c0_6 A1_0 c1_0 W F r):=by
 have S:=St.start hown
 obtain ⟨N,hN⟩:∃ N,N=mine W [row ki 3 (.slice A1_0 y.length c1_0) y]:=⟨_,rfl⟩
 rw [← hN]at S
 unfold qBp.f at H
 refine ent 8 rfl rfl rfl (fun a E=>?_)
 refine sq fun K1 hK1=>pl0 (plx (t:=26) E S [iv x.f0,iv x.f1,iv x.f2,iv x.f3,.slice A0_4 x.f4.length c0_4,.slice A0_5 x.f5.length c0_5,.slice A0_6 x.f6.length c0_6] fun b2 u3 hb2 S a E=>plc E (.r 1 1 .nil) (fun a E=>pld (hK1 _ _ (sq fun K4 hK4=>pl0 (plc E (.r 0 2 .nil) (fun a E=>?_))))))
 obtain ⟨F5,hs,g6,S⟩:=S.giveb
 replace g0_4:=g0_4.mono hs
 replace g0_5:=g0_5.mono hs
 replace g0_6:=g0_6.mono hs
 obtain ⟨t8,h9,H⟩:=bd H
 refine ple E (.cl en125 (qj.calls k y x _ _ _ _ _ _ _ _ _ _ _ _ (Own.left (X:=[row ki 3 (.slice A1_0 y.length c1_0) y]) S.own) g0_4 g0_5 g0_6 g6 h9)) ?_
 rintro _ u7 a ⟨F10,A11,c12,rfl,hC⟩ E
 have hs:=hC.sub
 replace S:=S.called (X:=[row ki 3 (.slice A1_0 y.length c1_0) y]) hC
 replace g0_4:=g0_4.mono hs
 replace g0_5:=g0_5.mono hs
 replace g0_6:=g0_6.mono hs
 replace g6:=hs _ _ _ _ g6
 refine plc E (.r 3 1 .nil) (fun a E=>pld (hK4 _ _ (wp_ret ?_)))
 rw [hN]at S
 obtain rfl:=si H
 exact rt1 E ⟨_,rfl,_,_,_,rfl,S⟩
def qBD.f(k:Nat)(x:qG)(y:Int):Option (List Int):=(qBL.f k x y).bind fun t6=>((qBp.f k x t6).bind fun t14=>(some t14))
def qBD.Post(W F:World)(r:List Int)(v:Value)(w':World):Prop:=∃(F':World)(RA0_0:OA)(rc0_0:Nat),v = .slice RA0_0 r.length rc0_0∧Sm W F w' F' [row ki 3 (.slice RA0_0 r.length rc0_0) r]
theorem qBD.calls(k:Nat)(x:qG)(y:Int)(A0_4:OA)(c0_4:Nat)(A0_5:OA)(c0_5:Nat)(A0_6:OA)(c0_6:Nat)(r:List Int)(W F:World)(hown:Sub F W)(g0_4:Rd qA.k F A0_4 c0_4 x.f4)(g0_5:Rd qE.k F A0_5 c0_5 x.f5)(g0_6:Rd qC.k F A0_6 c0_6 x.f6)(H:qBD.f k x y=some r):
    Cr 24 #[.agg #[iv x.f0,iv x.f1,iv x.f2,iv x.f3,.slice A0_4 x.f4.length c0_4,.slice A0_5 x.f5.length c0_5,.slice A0_6 x.f6.length c0_6],iv y] W (qBD.Post W F r):=by
 have S:=sT hown
 unfold qBD.f at H
 refine ent 10 rfl rfl rfl (fun a E=>?_)
 refine sq fun K1 hK1=>pl0 (plx (t:=26) E S [iv x.f0,iv x.f1,iv x.f2,iv x.f3,.slice A0_4 x.f4.length c0_4,.slice A0_5 x.f5.length c0_5,.slice A0_6 x.f6.length c0_6] fun b2 u3 hb2 S a E=>plc E (.r 1 1 .nil) (fun a E=>pld (hK1 _ _ (sq fun K4 hK4=>?_))))
 refine drawn 6 ⟨[4],[],fun q=>False⟩ mixed rfl (by kernel_rfl) (fun hst=>?_)
 replace S:=S.drew
 have hb2:=S.ba 0
 refine mny 3 hst E (.bn 0 0 7 hb2<|.bn 1 0 7 hb2<|.r 2 1<|.nil) (fun a E=>?_)
 obtain ⟨t6,h7,H⟩:=bd H
 refine on1 3 E (.cl en22 (qBL.calls k x y _ _ _ _ _ _ _ _ _ S.own.sub g0_4 g0_5 g0_6 h7)) ?_
 rintro _ u5 a ⟨F8,A9,c10,rfl,hC⟩ E
 refine ⟨.of hC.agr,?_⟩
 have hs:=hC.sub
 replace S:=S.called (X:=[]) hC
 replace g0_4:=g0_4.mono hs
 replace g0_5:=g0_5.mono hs
 replace g0_6:=g0_6.mono hs
 obtain ⟨t14,h15,H⟩:=bd H
 refine on1 4 E (.cl en74 (qBp.calls k x t6 _ _ _ _ _ _ _ _ _ _ _ (Own.left (X:=[row ki 3 (.slice A9 t6.length c10) t6]) S.own) g0_4 g0_5 g0_6 h15)) ?_
 rintro _ u13 a ⟨F16,A17,c18,rfl,hC⟩ E
 refine ⟨.d,?_⟩
 have hs:=hC.sub
 replace S:=S.called (X:=[row ki 3 (.slice A9 t6.length c10) t6]) hC
 replace g0_4:=g0_4.mono hs
 replace g0_5:=g0_5.mono hs
 replace g0_6:=g0_6.mono hs
 refine mny 0 hst E (.r 5 1 .nil) (fun a E=>?_)
 refine dn ?_
 refine hK4 _ _ (wp_ret ?_)
 replace S:=S.pm [0] 2
 obtain rfl:=si H
 exact rt1 E ⟨_,rfl,_,_,_,rfl,S⟩
end Go.Proofs.YtpohepinmjmbkaaGreat.QK
