import Derived.Test.YtpabbpebefdafaaGreatCN7
namespace Go.Proofs.YtpabbpebefdafaaGreat.CN
open Go Go.RowKit Go.Proofs.YtpabbpebefdafaaGreat.Sl
set_option linter.unusedVariables false
set_option linter.unusedSimpArgs false
set_option maxHeartbeats 4000000
set_option maxRecDepth 100000
mutual
def qg.l14:Nat→List qA→Int→Int→List qB→Int→Option (List qB)
 | 0,_,_,_,_,_=>none
 | k+1,x,y,z,l12,x13=>if x13<(x.length:Int) then (if y=0 then (if z=0 then (qg.j41 k x y z l12 x13 true) else (if 0≤x13∧x13<(x.length:Int) then (qg.j41 k x y z l12 x13 ((nth qA.z x x13).f2 == z)) else (none))) else (if 0≤x13∧x13<(x.length:Int) then (if (nth qA.z x x13).f1=y then (if z=0 then (qg.j41 k x y z l12 x13 true) else (qg.j41 k x y z l12 x13 ((nth qA.z x x13).f2 == z))) else (qg.j41 k x y z l12 x13 false)) else (none))) else (some l12)
def qg.j41:Nat→List qA→Int→Int→List qB→Int→Bool→Option (List qB)
 | 0,_,_,_,_,_,_=>none
 | k+1,x,y,z,l12,x13,y40=>if y40=true then (if 0≤x13∧x13<(x.length:Int) then ((qAp.f (nth qA.z x x13)).bind fun t56=>(if ((l12.length:Int)+((1:Nat):Int)) * 16≤140737488355328 then (qg.l14 k x y z (l12++[(⟨(nth qA.z x x13).f0,t56⟩:qB)]) (w64 (x13+1))) else (none))) else (none)) else (qg.l14 k x y z l12 (w64 (x13+1)))
end
theorem qg.l14_s k x y z l12 x13:type_of% (qg.l14.eq_2 x y z l12 x13 k):=qg.l14.eq_2 x y z l12 x13 k
theorem qg.j41_s k x y z l12 x13 y40:type_of% (qg.j41.eq_2 x y z l12 x13 y40 k):=qg.j41.eq_2 x y z l12 x13 y40 k
def qg.f(k:Nat)(x:List qA)(y:Int)(z:Int):Option (List qB):=qg.l14 k x y z ([]:List qB) 0
def qg.Post(W F:World)(r:List qB)(v:Value)(w':World):Prop:=∃(F':World)(RA0_0:OA)(rc0_0:Nat),v = .slice RA0_0 r.length rc0_0∧Sm W F w' F' [row qB.k 306 (.slice RA0_0 r.length rc0_0) r]
theorem qg.calls(k:Nat)(x:List qA)(y:Int)(z:Int)(A0_0:OA)(c0_0:Nat)(r:List qB)(W F:World)(hown:Sub F W)(g0_0:Rd qA.k F A0_0 c0_0 x)(H:qg.f k x y z=some r):
    Cr 238 #[.slice A0_0 x.length c0_0,iv y,iv z] W (qg.Post W F r):=by
 have S:=sT hown
 unfold qg.f at H
 refine ent 55 rfl rfl rfl (fun a E=>?_)
 refine rr E fun a E=>(sq fun K2 hK2=>pl0 (ple E (.lit (d:=qB.k) (e:=306) S ([]:List qB) (.nil)) ?_))
 rintro _ u3 a ⟨A4,c5,rfl,S,hg⟩ E
 refine plc E (.r 1 1 .nil) (fun a E=>pld (hK2 _ _ (sq fun K7 hK7=>rr E fun a E=>(wp_block ?_))))
 refine wp_loop_ghost (fun kq15 a w'=>∃(G:NV)(A10:OA)(c11:Nat)(l12:List qB)(x13:Int),kq15≤k∧Env 55 G a∧At G [(0,.slice A0_0 x.length c0_0),(1,iv y),(2,iv z),(7,.slice A10 l12.length c11),(8,iv x13)]∧Sm W F w' F [row qB.k 306 (.slice A10 l12.length c11) l12]∧qg.l14 kq15 x y z l12 x13=some r) k ⟨_,A4,c5,([]:List qB),0,Nat.le_refl _,E,.of,S,H⟩ ?_
 rintro kq15 a u17 ⟨G,A10,c11,l12,x13,hkq,E,A,S,H⟩
 obtain _ | k16:=kq15
 exact zz H
 rw [qg.l14_s]at H
 obtain ⟨J,E⟩:=E.at A
 refine sq fun K18 hK18=>rr E fun a E=>(E.ik 13 H (fun c20 E H=>?_) fun c20 E H=>?_)
 refine wp_skip (hK18 _ _ (sq fun K21 hK21=>wp_block (sq fun K22 hK22=>?_)))
 have J44:∀ kq42,kq42≤k16→∀(G:NV)(y40:Bool)(a:Act)(w':World),Env 55 G a→At G [(0,.slice A0_0 x.length c0_0),(1,iv y),(2,iv z),(7,.slice A10 l12.length c11),(8,iv x13),(39,.bool y40)]→Sm W F w' F [row qB.k 306 (.slice A10 l12.length c11) l12]→qg.j41 kq42 x y z l12 x13 y40=some r→K22 a w':=by
  intro kq42 hkq G y40 a u45 E A S H
  obtain _ | k43:=kq42
  exact zz H
  rw [qg.j41_s]at H
  obtain ⟨J,E⟩:=E.at A
  refine hK22 _ _ (E.ib 39 H (fun c46 E H=>?_) fun c46 E H=>?_)
  refine drawn 15 ⟨[13],[],fun q=>False⟩ mixed rfl (by kernel_rfl) (fun hst=>?_)
  replace S:=S.drew
  obtain ⟨c47,H⟩:=gd H
  have hE_:=E
  obtain ⟨ad48,rfl⟩:=g0_0.addr c47.1 c47.2
  replace E:=hE_
  obtain ⟨cs50,rfl,hc51⟩:=g0_0.el qA.z x13 c47.1 c47.2
  refine mny 5 hst E (.r 0 3<|.x 3 c47<|.r 4 1<|.c 5 (S.fc hc51 0)<|.r 6 2<|.x 8 c47<|.cs 9 (S.fcs hc51)<|.nil) (fun a E=>?_)
  obtain ⟨t56,h57,H⟩:=bd H
  refine on1 10 E (.cl en264 (qAp.calls (nth qA.z x x13) _ _ _ S.own.sub h57)) ?_
  rintro _ u55 a ⟨_,rfl,hC⟩ E
  refine ⟨.of hC.agr,?_⟩
  replace S:=S.lent hC
  refine mny 3 hst E (.r 11 1 .nil) (fun a E=>?_)
  refine on1 12 E (.lit (d:=qB.k) (e:=306) S [(⟨(nth qA.z x x13).f0,t56⟩:qB)] (.cons rfl .nil)) ?_
  rintro _ u58 a ⟨A59,c60,rfl,S,hg⟩ E
  refine ⟨.of hg,?_⟩
  obtain ⟨c62,H⟩:=gd H
  replace S:=S.front 1 rfl
  refine on1 13 E (.ap (d:=qB.k) 16 S (qCX (S.row_at (i:=1) rfl)) c62 c60) ?_
  rintro _ u65 a ⟨A63,c64,rfl,S,hz⟩ E
  refine ⟨.d,?_⟩
  refine mny 0 hst E (.r 14 1 .nil) (fun a E=>?_)
  refine dn ?_
  refine qCL ?_
  refine hK21 _ _ (pl0 (plc E (.r 0 3 .nil) (fun a E=>pld ?_)))
  replace S:=S.pm [0] 2
  exact qCM ⟨k43,by omega,_,A63,c64,(l12++[(⟨(nth qA.z x x13).f0,t56⟩:qB)]),(w64 (x13+1)),by omega,E,.of,S,H⟩
  refine wp_skip ?_
  refine qCL ?_
  refine hK21 _ _ (pl0 (plc E (.r 0 3 .nil) (fun a E=>pld ?_)))
  exact qCM ⟨k43,by omega,_,A10,c11,l12,(w64 (x13+1)),by omega,E,.of,S,H⟩
 refine pl0 (plc E (.r 0 3 .nil) (fun a E=>E.fk 18 H (fun c23 E H=>?_) fun c23 E H=>?_))
 refine plc E (.r 3 12 .nil) (fun a E=>E.fk 30 H (fun c24 E H=>?_) fun c24 E H=>?_)
 refine plc E (.r 15 9 .nil) (fun a E=>pld ?_)
 exact J44 _ (by omega) _ true _ _ E .of S H
 obtain ⟨c25,H⟩:=gd H
 have hE_:=E
 obtain ⟨ad26,rfl⟩:=g0_0.addr c25.1 c25.2
 replace E:=hE_
 obtain ⟨cs28,rfl,hc29⟩:=g0_0.el qA.z x13 c25.1 c25.2
 refine plc E (.r 15 2<|.x 17 c25<|.r 18 1<|.c 19 (S.fc hc29 2)<|.r 20 4<|.nil) (fun a E=>pld ?_)
 exact J44 _ (by omega) _ ((nth qA.z x x13).f2 == z) _ _ E .of S H
 obtain ⟨c30,H⟩:=gd H
 have hE_:=E
 obtain ⟨ad31,rfl⟩:=g0_0.addr c30.1 c30.2
 replace E:=hE_
 obtain ⟨cs33,rfl,hc34⟩:=g0_0.el qA.z x13 c30.1 c30.2
 refine plc E (.r 3 2<|.x 5 c30<|.r 6 1<|.c 7 (S.fc hc34 1)<|.r 8 4<|.nil) (fun a E=>E.fk 27 H (fun c35 E H=>?_) fun c35 E H=>?_)
 refine plc E (.r 12 3 .nil) (fun a E=>E.fk 30 H (fun c36 E H=>?_) fun c36 E H=>?_)
 refine plc E (.r 15 9 .nil) (fun a E=>pld ?_)
 exact J44 _ (by omega) _ true _ _ E .of S H
 refine plc E (.r 15 2<|.x 17 c30<|.r 18 1<|.c 19 (S.fc hc34 2)<|.r 20 4<|.nil) (fun a E=>pld ?_)
 exact J44 _ (by omega) _ ((nth qA.z x x13).f2 == z) _ _ E .of S H
 refine plc E (.r 12 12 .nil) (fun a E=>pld ?_)
 exact J44 _ (by omega) _ false _ _ E .of S H
 refine wp_exit ?_
 refine hK7 _ _ (rr E fun a E=>(wp_ret ?_))
 obtain rfl:=si H
 exact rt1 E ⟨_,rfl,_,_,_,rfl,S⟩
mutual
def qf.l14:Nat→List qA→List Int→List qB→Int→Option (List qB)
 | 0,_,_,_,_=>none
 | k+1,x,y,l12,x13=>if x13≤999 then (qf.l29 k x y l12 x13 0 false 0) else (some l12)
def qf.l29:Nat→List qA→List Int→List qB→Int→Int→Bool→Int→Option (List qB)
 | 0,_,_,_,_,_,_,_=>none
 | k+1,x,y,l12,x13,x26,y27,x28=>if x28<(x.length:Int) then (if 0≤x28∧x28<(y.length:Int) then (if (nth 0 y x28)=x13 then (if 0≤x28∧x28<(x.length:Int) then ((qAp.f (nth qA.z x x28)).bind fun t51=>(qf.l29 k x y l12 x13 (w64 (x26+t51)) true (w64 (x28+1)))) else (none)) else (qf.l29 k x y l12 x13 x26 y27 (w64 (x28+1)))) else (none)) else (if x26>65536 then (qf.j57 k x y l12 x13 y27 65536) else (qf.j57 k x y l12 x13 y27 x26))
def qf.j57:Nat→List qA→List Int→List qB→Int→Bool→Int→Option (List qB)
 | 0,_,_,_,_,_,_=>none
 | k+1,x,y,l12,x13,y27,x56=>if y27=true then (if ((l12.length:Int)+((1:Nat):Int)) * 16≤140737488355328 then (qf.l14 k x y (l12++[(⟨x13,x56⟩:qB)]) (w64 (x13+1))) else (none)) else (qf.l14 k x y l12 (w64 (x13+1)))
end
theorem qf.l14_s k x y l12 x13:type_of% (qf.l14.eq_2 x y l12 x13 k):=qf.l14.eq_2 x y l12 x13 k
theorem qf.l29_s k x y l12 x13 x26 y27 x28:type_of% (qf.l29.eq_2 x y l12 x13 x26 y27 x28 k):=qf.l29.eq_2 x y l12 x13 x26 y27 x28 k
theorem qf.j57_s k x y l12 x13 y27 x56:type_of% (qf.j57.eq_2 x y l12 x13 y27 x56 k):=qf.j57.eq_2 x y l12 x13 y27 x56 k
def qf.f(k:Nat)(x:List qA)(y:List Int):Option (List qB):=qf.l14 k x y ([]:List qB) 1
def qf.Post(W F:World)(r:List qB)(v:Value)(w':World):Prop:=∃(F':World)(RA0_0:OA)(rc0_0:Nat),v = .slice RA0_0 r.length rc0_0∧Sm W F w' F' [row qB.k 306 (.slice RA0_0 r.length rc0_0) r]
theorem qf.calls(k:Nat)(x:List qA)(y:List Int)(A0_0:OA)(c0_0:Nat)(A1_0:OA)(c1_0:Nat)(r:List qB)(W F:World)(hown:Sub F W)(g0_0:Rd qA.k F A0_0 c0_0 x)(g1_0:Rd ki F A1_0 c1_0 y)(H:qf.f k x y=some r):
    Cr 265 #[.slice A0_0 x.length c0_0,.slice A1_0 y.length c1_0] W (qf.Post W F r):=by
 have S:=sT hown
 unfold qf.f at H
 refine ent 44 rfl rfl rfl (fun a E=>?_)
 refine rr E fun a E=>(sq fun K2 hK2=>pl0 (ple E (.lit (d:=qB.k) (e:=306) S ([]:List qB) (.nil)) ?_))
 rintro _ u3 a ⟨A4,c5,rfl,S,hg⟩ E
 refine plc E (.r 1 1 .nil) (fun a E=>pld (hK2 _ _ (sq fun K7 hK7=>rr E fun a E=>(wp_block ?_))))
 refine wp_loop_ghost (fun kq15 a w'=>∃(G:NV)(A10:OA)(c11:Nat)(l12:List qB)(x13:Int),kq15≤k∧Env 44 G a∧At G [(0,.slice A0_0 x.length c0_0),(1,.slice A1_0 y.length c1_0),(5,.slice A10 l12.length c11),(6,iv x13)]∧Sm W F w' F [row qB.k 306 (.slice A10 l12.length c11) l12]∧qf.l14 kq15 x y l12 x13=some r) k ⟨_,A4,c5,([]:List qB),1,Nat.le_refl _,E,.of,S,H⟩ ?_
 rintro kq15 a u17 ⟨G,A10,c11,l12,x13,hkq,E,A,S,H⟩
 obtain _ | k16:=kq15
 exact zz H
 rw [qf.l14_s]at H
 obtain ⟨J,E⟩:=E.at A
 refine sq fun K18 hK18=>rr E fun a E=>(E.ik 12 H (fun c20 E H=>?_) fun c20 E H=>?_)
 refine wp_skip (hK18 _ _ (sq fun K21 hK21=>wp_block (rr E fun a E=>(rr E fun a E=>(sq fun K24 hK24=>rr E fun a E=>(wp_block ?_))))))
 refine wp_loop_ghost (fun kq30 a w'=>∃(G:NV)(x26:Int)(y27:Bool)(x28:Int),kq30≤k16∧Env 44 G a∧At G [(0,.slice A0_0 x.length c0_0),(1,.slice A1_0 y.length c1_0),(5,.slice A10 l12.length c11),(6,iv x13),(7,iv x26),(8,.bool y27),(9,iv x28)]∧Sm W F w' F [row qB.k 306 (.slice A10 l12.length c11) l12]∧qf.l29 kq30 x y l12 x13 x26 y27 x28=some r) k16 ⟨_,0,false,0,Nat.le_refl _,E,.of,S,H⟩ ?_
 rintro kq30 a u32 ⟨G,x26,y27,x28,hkq,E,A,S,H⟩
 obtain _ | k31:=kq30
 exact zz H
 rw [qf.l29_s]at H
 obtain ⟨J,E⟩:=E.at A
 refine sq fun K33 hK33=>rr E fun a E=>(E.ik 18 H (fun c35 E H=>?_) fun c35 E H=>?_)
 refine wp_skip (hK33 _ _ (sq fun K36 hK36=>wp_block (sq fun K37 hK37=>pl0 ?_)))
 obtain ⟨c38,H⟩:=gd H
 have hE_:=E
 obtain ⟨ad39,rfl⟩:=g1_0.addr c38.1 c38.2
 replace E:=hE_
 obtain ⟨cs41,rfl,hc42⟩:=g1_0.el 0 x28 c38.1 c38.2
 refine plc E (.r 0 2<|.x 2 c38<|.c 3 (S.fc hc42 0)<|.r 4 2<|.nil) (fun a E=>pld (hK37 _ _ (E.ik 26 H (fun c43 E H=>?_) fun c43 E H=>?_)))
 refine sq fun K44 hK44=>pl0 ?_
 obtain ⟨c45,H⟩:=gd H
 have hE_:=E
 obtain ⟨ad46,rfl⟩:=g0_0.addr c45.1 c45.2
 replace E:=hE_
 obtain ⟨cs48,rfl,hc49⟩:=g0_0.el qA.z x28 c45.1 c45.2
 refine plc E (.r 0 3<|.x 3 c45<|.cs 4 (S.fcs hc49)<|.nil) (fun a E=>?_)
 obtain ⟨t51,h52,H⟩:=bd H
 refine plq E S en264 (qAp.calls (nth qA.z x x28) _ _ _ S.own.sub h52) fun u50 S a E=>plc E (.r 6 2 .nil) (fun a E=>pld (hK44 _ _ (pl0 (plc E (.r 0 1 .nil) (fun a E=>pld ?_)))))
 refine qCL ?_
 refine hK36 _ _ (pl0 (plc E (.r 0 3 .nil) (fun a E=>pld ?_)))
 exact qCM ⟨k31,by omega,_,(w64 (x26+t51)),true,(w64 (x28+1)),by omega,E,.of,S,H⟩
 refine wp_skip ?_
 refine qCL ?_
 refine hK36 _ _ (pl0 (plc E (.r 0 3 .nil) (fun a E=>pld ?_)))
 exact qCM ⟨k31,by omega,_,x26,y27,(w64 (x28+1)),by omega,E,.of,S,H⟩
 refine wp_exit ?_
 refine hK24 _ _ (sq fun K53 hK53=>?_)
 have J60:∀ kq58,kq58≤k31→∀(G:NV)(x56:Int)(a:Act)(w':World),Env 44 G a→At G [(0,.slice A0_0 x.length c0_0),(1,.slice A1_0 y.length c1_0),(5,.slice A10 l12.length c11),(6,iv x13),(7,iv x56),(8,.bool y27)]→Sm W F w' F [row qB.k 306 (.slice A10 l12.length c11) l12]→qf.j57 kq58 x y l12 x13 y27 x56=some r→K53 a w':=by
  intro kq58 hkq G x56 a u61 E A S H
  obtain _ | k59:=kq58
  exact zz H
  rw [qf.j57_s]at H
  obtain ⟨J,E⟩:=E.at A
  refine hK53 _ _ (rr E fun a E=>(E.ib 36 H (fun c63 E H=>?_) fun c63 E H=>?_))
  refine pl0 (plc E (.r 0 4 .nil) (fun a E=>ple E (.lit (d:=qB.k) (e:=306) S [(⟨x13,x56⟩:qB)] (.cons rfl .nil)) ?_))
  rintro _ u64 a ⟨A65,c66,rfl,S,hg⟩ E
  obtain ⟨c68,H⟩:=gd H
  replace S:=S.front 1 rfl
  refine ple E (.ap (d:=qB.k) 16 S (qCX (S.row_at (i:=1) rfl)) c68 c66) ?_
  rintro _ u71 a ⟨A69,c70,rfl,S,hz⟩ E
  refine plc E (.r 6 1 .nil) (fun a E=>pld ?_)
  refine qCL ?_
  refine hK21 _ _ (pl0 (plc E (.r 0 3 .nil) (fun a E=>pld ?_)))
  replace S:=S.pm [0] 2
  exact qCM ⟨k59,by omega,_,A69,c70,(l12++[(⟨x13,x56⟩:qB)]),(w64 (x13+1)),by omega,E,.of,S,H⟩
  refine wp_skip ?_
  refine qCL ?_
  refine hK21 _ _ (pl0 (plc E (.r 0 3 .nil) (fun a E=>pld ?_)))
  exact qCM ⟨k59,by omega,_,A10,c11,l12,(w64 (x13+1)),by omega,E,.of,S,H⟩
 refine rr E fun a E=>(E.ik 35 H (fun c55 E H=>?_) fun c55 E H=>?_)
 refine pl0 (plc E (.r 0 1 .nil) (fun a E=>pld ?_))
 exact J60 _ (by omega) _ 65536 _ _ E .of S H
 refine wp_skip ?_
 exact J60 _ (by omega) _ x26 _ _ E .of S H
 refine wp_exit ?_
 refine hK7 _ _ (rr E fun a E=>(wp_ret ?_))
 obtain rfl:=si H
 exact rt1 E ⟨_,rfl,_,_,_,rfl,S⟩
def qAL.l12:Nat→List qA→List Int→Int→Option (List qB)
 | 0,_,_,_=>none
 | k+1,x,l10,x11=>if x11<(x.length:Int) then (if 0≤x11∧x11<(x.length:Int) then (if 0≤x11∧x11<((List.replicate ((x.length:Int)).toNat (0:Int)).length:Int) then (qAL.l12 k x (l10.set (x11).toNat ((nth qA.z x x11).f1)) (w64 (x11+1))) else (none)) else (none)) else ((qf.f k x l10).bind fun t40=>(some t40))
theorem qAL.l12_s k x l10 x11:type_of% (qAL.l12.eq_2 x l10 x11 k):=qAL.l12.eq_2 x l10 x11 k
def qAL.f(k:Nat)(x:List qA):Option (List qB):=if 0≤(x.length:Int)∧(x.length:Int) * 8≤140737488355328 then (qAL.l12 k x (List.replicate ((x.length:Int)).toNat (0:Int)) 0) else (none)
def qAL.Post(W F:World)(r:List qB)(v:Value)(w':World):Prop:=∃(F':World)(RA0_0:OA)(rc0_0:Nat),v = .slice RA0_0 r.length rc0_0∧Sm W F w' F' [row qB.k 306 (.slice RA0_0 r.length rc0_0) r]
theorem qAL.calls(k:Nat)(x:List qA)(A0_0:OA)(c0_0:Nat)(r:List qB)(W F:World)(hown:Sub F W)(g0_0:Rd qA.k F A0_0 c0_0 x)(H:qAL.f k x=some r):
    Cr 239 #[.slice A0_0 x.length c0_0] W (qAL.Post W F r):=by
 have S:=sT hown
 unfold qAL.f at H
 refine ent 25 rfl rfl rfl (fun a E=>?_)
 refine rr E fun a E=>(sq fun K2 hK2=>pl0 (plc E (.r 0 2 .nil) (fun a E=>?_)))
 obtain ⟨c3,H⟩:=gd H
 refine ple E (.mk (d:=ki) (e:=3) 8 0 S c3 (by rw [zr3]; exact rfl)) ?_
 rintro _ u6 a ⟨A4,c5,rfl,S,hg⟩ E
 refine plc E (.r 3 1 .nil) (fun a E=>pld (hK2 _ _ (sq fun K8 hK8=>rr E fun a E=>(wp_block ?_))))
 refine wp_loop_ghost (fun kq13 a w'=>∃(G:NV)(l10:List Int)(x11:Int),kq13≤k∧Env 25 G a∧At G [(0,.slice A0_0 x.length c0_0),(3,.slice A4 ((List.replicate ((x.length:Int)).toNat (0:Int)).length) c5),(4,iv x11)]∧Sm W F w' F [row ki 3 (.slice A4 ((List.replicate ((x.length:Int)).toNat (0:Int)).length) c5) l10]∧qAL.l12 kq13 x l10 x11=some r) k ⟨_,(List.replicate ((x.length:Int)).toNat (0:Int)),0,Nat.le_refl _,E,.of,S,H⟩ ?_
 rintro kq13 a u15 ⟨G,l10,x11,hkq,E,A,S,H⟩
 obtain _ | k14:=kq13
 exact zz H
 rw [qAL.l12_s]at H
 obtain ⟨J,E⟩:=E.at A
 refine sq fun K16 hK16=>rr E fun a E=>(E.ik 11 H (fun c18 E H=>?_) fun c18 E H=>?_)
 refine wp_skip (hK16 _ _ (sq fun K19 hK19=>wp_block (pl0 ?_)))
 obtain ⟨c20,H⟩:=gd H
 have hE_:=E
 obtain ⟨ad21,rfl⟩:=g0_0.addr c20.1 c20.2
 replace E:=hE_
 obtain ⟨cs23,rfl,hc24⟩:=g0_0.el qA.z x11 c20.1 c20.2
 obtain ⟨c25,H⟩:=gd H
 have hr26:=S.ra 0
 have c27:0≤x11∧x11<(l10.length:Int):=by rw [← (qCN hr26).1]; exact c25
 have hE_:=E
 obtain ⟨b28,rfl⟩:=qCP hr26 c27.1 c27.2
 replace E:=hE_
 have hr_:=S.ra 0
 obtain ⟨cs30,rfl,hc31⟩:=qCO hr_ 0 x11 c27.1 c27.2
 refine plc E (.r 0 4<|.x 4 c20<|.r 5 1<|.c 6 (S.fc hc24 1)<|.x 7 c25<|.nil) (fun a E=>?_)
 obtain ⟨cs33,rfl,hc34⟩:=qCO (S.row_at (i:=0) rfl) 0 x11 c27.1 c27.2
 refine ple E (.set (d:=ki) (n:=(List.replicate ((x.length:Int)).toNat (0:Int)).length) (i:=x11) ((nth qA.z x x11).f1) (0) (ea0 _ _) S c27 [iv (nth 0 l10 x11)] hc34 [iv ((nth qA.z x x11).f1)] rfl) ?_
 rintro _ u32 a ⟨rfl,S,hz⟩ E
 refine pld ?_
 refine qCL ?_
 refine hK19 _ _ (pl0 (plc E (.r 0 3 .nil) (fun a E=>pld ?_)))
 exact qCM ⟨k14,by omega,_,(l10.set (x11).toNat ((nth qA.z x x11).f1)),(w64 (x11+1)),by omega,E,.of,S,H⟩
 refine wp_exit ?_
 refine hK8 _ _ (sq fun K35 hK35=>pl0 (plc E (.r 0 2 .nil) (fun a E=>?_)))
 have hn36:=(qCN (S.row_at (i:=0) rfl)).1
 replace E:=E.set (d:=3) (v:=.slice A4 l10.length c5) (Eq.trans (b:=.slice A4 ((List.replicate ((x.length:Int)).toNat (0:Int)).length) c5) (by kernel_rfl) (by rw [← hn36]))
 replace E:=E.set (d:=23) (v:=.slice A4 l10.length c5) (Eq.trans (b:=.slice A4 ((List.replicate ((x.length:Int)).toNat (0:Int)).length) c5) (by kernel_rfl) (by rw [← hn36]))
 replace S:Sm W F u15 F [row ki 3 (.slice A4 l10.length c5) l10]:=by rw [← hn36]; exact S
 obtain ⟨F37,hs,g38,S⟩:=S.give
 replace g0_0:=g0_0.mono hs
 obtain ⟨t40,h41,H⟩:=bd H
 refine ple E (.cl en265 (qf.calls k14 x l10 _ _ _ _ _ _ _ S.own.sub g0_0 g38 h41)) ?_
 rintro _ u39 a ⟨F42,A43,c44,rfl,hC⟩ E
 have hs:=hC.sub
 replace S:=S.called (X:=[]) hC
 replace g0_0:=g0_0.mono hs
 replace g38:=g38.mono hs
 refine plc E (.r 3 1 .nil) (fun a E=>pld (hK35 _ _ (wp_ret ?_)))
 obtain rfl:=si H
 exact rt1 E ⟨_,rfl,_,_,_,rfl,S⟩
def qAJ.l12:Nat→List qA→Int→List Int→Int→Option (List qB)
 | 0,_,_,_,_=>none
 | k+1,x,y,l10,x11=>if x11<(x.length:Int) then (if 0≤x11∧x11<(x.length:Int) then (if (nth qA.z x x11).f1=y then (if 0≤x11∧x11<((List.replicate ((x.length:Int)).toNat (0:Int)).length:Int) then (qAJ.l12 k x y (l10.set (x11).toNat ((nth qA.z x x11).f2)) (w64 (x11+1))) else (none)) else (qAJ.l12 k x y l10 (w64 (x11+1)))) else (none)) else ((qf.f k x l10).bind fun t45=>(some t45))
theorem qAJ.l12_s k x y l10 x11:type_of% (qAJ.l12.eq_2 x y l10 x11 k):=qAJ.l12.eq_2 x y l10 x11 k
def qAJ.f(k:Nat)(x:List qA)(y:Int):Option (List qB):=if 0≤(x.length:Int)∧(x.length:Int) * 8≤140737488355328 then (qAJ.l12 k x y (List.replicate ((x.length:Int)).toNat (0:Int)) 0) else (none)
def qAJ.Post(W F:World)(r:List qB)(v:Value)(w':World):Prop:=∃(F':World)(RA0_0:OA)(rc0_0:Nat),v = .slice RA0_0 r.length rc0_0∧Sm W F w' F' [row qB.k 306 (.slice RA0_0 r.length rc0_0) r]
theorem qAJ.calls(k:Nat)(x:List qA)(y:Int)(A0_0:OA)(c0_0:Nat)(r:List qB)(W F:World)(hown:Sub F W)(g0_0:Rd qA.k F A0_0 c0_0 x)(H:qAJ.f k x y=some r):
    Cr 240 #[.slice A0_0 x.length c0_0,iv y] W (qAJ.Post W F r):=by
 have S:=sT hown
 unfold qAJ.f at H
 refine ent 34 rfl rfl rfl (fun a E=>?_)
 refine rr E fun a E=>(sq fun K2 hK2=>pl0 (plc E (.r 0 2 .nil) (fun a E=>?_)))
 obtain ⟨c3,H⟩:=gd H
 refine ple E (.mk (d:=ki) (e:=3) 8 0 S c3 (by rw [zr3]; exact rfl)) ?_
 rintro _ u6 a ⟨A4,c5,rfl,S,hg⟩ E
 refine plc E (.r 3 1 .nil) (fun a E=>pld (hK2 _ _ (sq fun K8 hK8=>rr E fun a E=>(wp_block ?_))))
 refine wp_loop_ghost (fun kq13 a w'=>∃(G:NV)(l10:List Int)(x11:Int),kq13≤k∧Env 34 G a∧At G [(0,.slice A0_0 x.length c0_0),(1,iv y),(5,.slice A4 ((List.replicate ((x.length:Int)).toNat (0:Int)).length) c5),(6,iv x11)]∧Sm W F w' F [row ki 3 (.slice A4 ((List.replicate ((x.length:Int)).toNat (0:Int)).length) c5) l10]∧qAJ.l12 kq13 x y l10 x11=some r) k ⟨_,(List.replicate ((x.length:Int)).toNat (0:Int)),0,Nat.le_refl _,E,.of,S,H⟩ ?_
 rintro kq13 a u15 ⟨G,l10,x11,hkq,E,A,S,H⟩
 obtain _ | k14:=kq13
 exact zz H
 rw [qAJ.l12_s]at H
 obtain ⟨J,E⟩:=E.at A
 refine sq fun K16 hK16=>rr E fun a E=>(E.ik 13 H (fun c18 E H=>?_) fun c18 E H=>?_)
 refine wp_skip (hK16 _ _ (sq fun K19 hK19=>wp_block (sq fun K20 hK20=>pl0 ?_)))
 obtain ⟨c21,H⟩:=gd H
 have hE_:=E
 obtain ⟨ad22,rfl⟩:=g0_0.addr c21.1 c21.2
 replace E:=hE_
 obtain ⟨cs24,rfl,hc25⟩:=g0_0.el qA.z x11 c21.1 c21.2
 refine plc E (.r 0 2<|.x 2 c21<|.r 3 1<|.c 4 (S.fc hc25 1)<|.r 5 2<|.nil) (fun a E=>pld (hK20 _ _ (E.ik 22 H (fun c26 E H=>?_) fun c26 E H=>?_)))
 refine pl0 ?_
 obtain ⟨c30,H⟩:=gd H
 have hr31:=S.ra 0
 have c32:0≤x11∧x11<(l10.length:Int):=by rw [← (qCN hr31).1]; exact c30
 have hE_:=E
 obtain ⟨b33,rfl⟩:=qCP hr31 c32.1 c32.2
 replace E:=hE_
 have hr_:=S.ra 0
 obtain ⟨cs35,rfl,hc36⟩:=qCO hr_ 0 x11 c32.1 c32.2
 refine plc E (.r 0 4<|.x 4 c21<|.r 5 1<|.c 6 (S.fc hc25 2)<|.x 7 c30<|.nil) (fun a E=>?_)
 obtain ⟨cs38,rfl,hc39⟩:=qCO (S.row_at (i:=0) rfl) 0 x11 c32.1 c32.2
 refine ple E (.set (d:=ki) (n:=(List.replicate ((x.length:Int)).toNat (0:Int)).length) (i:=x11) ((nth qA.z x x11).f2) (0) (ea0 _ _) S c32 [iv (nth 0 l10 x11)] hc39 [iv ((nth qA.z x x11).f2)] rfl) ?_
 rintro _ u37 a ⟨rfl,S,hz⟩ E
 refine pld ?_
 refine qCL ?_
 refine hK19 _ _ (pl0 (plc E (.r 0 3 .nil) (fun a E=>pld ?_)))
 exact qCM ⟨k14,by omega,_,(l10.set (x11).toNat ((nth qA.z x x11).f2)),(w64 (x11+1)),by omega,E,.of,S,H⟩
 refine wp_skip ?_
 refine qCL ?_
 refine hK19 _ _ (pl0 (plc E (.r 0 3 .nil) (fun a E=>pld ?_)))
 exact qCM ⟨k14,by omega,_,l10,(w64 (x11+1)),by omega,E,.of,S,H⟩
 refine wp_exit ?_
 refine hK8 _ _ (sq fun K40 hK40=>pl0 (plc E (.r 0 2 .nil) (fun a E=>?_)))
 have hn41:=(qCN (S.row_at (i:=0) rfl)).1
 replace E:=E.set (d:=5) (v:=.slice A4 l10.length c5) (Eq.trans (b:=.slice A4 ((List.replicate ((x.length:Int)).toNat (0:Int)).length) c5) (by kernel_rfl) (by rw [← hn41]))
 replace E:=E.set (d:=32) (v:=.slice A4 l10.length c5) (Eq.trans (b:=.slice A4 ((List.replicate ((x.length:Int)).toNat (0:Int)).length) c5) (by kernel_rfl) (by rw [← hn41]))
 replace S:Sm W F u15 F [row ki 3 (.slice A4 l10.length c5) l10]:=by rw [← hn41]; exact S
 obtain ⟨F42,hs,g43,S⟩:=S.give
 replace g0_0:=g0_0.mono hs
 obtain ⟨t45,h46,H⟩:=bd H
 refine ple E (.cl en265 (qf.calls k14 x l10 _ _ _ _ _ _ _ S.own.sub g0_0 g43 h46)) ?_
 rintro _ u44 a ⟨F47,A48,c49,rfl,hC⟩ E
 have hs:=hC.sub
 replace S:=S.called (X:=[]) hC
 replace g0_0:=g0_0.mono hs
 replace g43:=g43.mono hs
 refine plc E (.r 3 1 .nil) (fun a E=>pld (hK40 _ _ (wp_ret ?_)))
 obtain rfl:=si H
 exact rt1 E ⟨_,rfl,_,_,_,rfl,S⟩
def qAl.f(x:Int):Option Int:=some (IntKind.u64.wrap ((IntKind.u64.wrap ((IntKind.u64.wrap (x.tdiv 4294967296)) * 4294967296))+(IntKind.u64.wrap (((BitVec.ofInt 64 (x.tmod 4294967296) ^^^ BitVec.ofInt 64 (IntKind.u64.wrap (x.tdiv 4294967296))).toNat:Int)))))
def qAl.Post(W F:World)(r:Int)(v:Value)(w':World):Prop:=∃(F':World),v = .int .u64 r∧Sm W F w' F' []
theorem qAl.calls(x:Int)(r:Int)(W F:World)(hown:Sub F W)(H:qAl.f x=some r):
    Cr 202 #[.int .u64 x] W (qAl.Post W F r):=by
 have S:=sT hown
 unfold qAl.f at H
 refine ent 15 rfl rfl rfl (fun a E=>?_)
 refine rr E fun a E=>(rr E fun a E=>(rr E fun a E=>(wp_ret ?_)))
 obtain rfl:=si H
 exact rt1 E ⟨_,rfl,_,rfl,S⟩
def qAu.f(x:Int):Option Int:=(qAl.f x).bind fun t4=>((qAl.f (IntKind.u64.wrap (t4 * 15485907386658061715))).bind fun t8=>((qAl.f (IntKind.u64.wrap (t8 * 15485907386658061715))).bind fun t12=>(some t12)))
def qAu.Post(W F:World)(r:Int)(v:Value)(w':World):Prop:=∃(F':World),v = .int .u64 r∧Sm W F w' F' []
theorem qAu.calls(x:Int)(r:Int)(W F:World)(hown:Sub F W)(H:qAu.f x=some r):
    Cr 166 #[.int .u64 x] W (qAu.Post W F r):=by
 have S:=sT hown
 unfold qAu.f at H
 refine ent 11 rfl rfl rfl (fun a E=>?_)
 refine rr E fun a E=>(sq fun K2 hK2=>pl0 (plc E (.r 0 1 .nil) (fun a E=>?_)))
 obtain ⟨t4,h5,H⟩:=bd H
 refine plq E S en202 (qAl.calls x _ _ _ S.own.sub h5) fun u3 S a E=>plc E (.r 2 2 .nil) (fun a E=>pld (hK2 _ _ (sq fun K6 hK6=>pl0 (plc E (.r 0 1 .nil) (fun a E=>?_)))))
 obtain ⟨t8,h9,H⟩:=bd H
 refine plq E S en202 (qAl.calls (IntKind.u64.wrap (t4 * 15485907386658061715)) _ _ _ S.own.sub h9) fun u7 S a E=>plc E (.r 2 2 .nil) (fun a E=>pld (hK6 _ _ (sq fun K10 hK10=>pl0 (plc E (.r 0 1 .nil) (fun a E=>?_)))))
 obtain ⟨t12,h13,H⟩:=bd H
 refine plq E S en202 (qAl.calls (IntKind.u64.wrap (t8 * 15485907386658061715)) _ _ _ S.own.sub h13) fun u11 S a E=>plc E (.r 2 1 .nil) (fun a E=>pld (hK10 _ _ (wp_ret ?_)))
 obtain rfl:=si H
 exact rt1 E ⟨_,rfl,_,rfl,S⟩
def qAH.l10:Nat→List Int→Int→Int→Option Int
 | 0,_,_,_=>none
 | k+1,y,x8,x9=>if x9<(y.length:Int) then (if 0≤x9∧x9<(y.length:Int) then ((qAu.f (IntKind.u64.wrap ((IntKind.u64.wrap (((BitVec.ofInt 64 x8 ^^^ BitVec.ofInt 64 (nth 0 y x9)).toNat:Int)))+11400714819323198485))).bind fun t24=>(qAH.l10 k y t24 (w64 (x9+1)))) else (none)) else (some x8)
theorem qAH.l10_s k y x8 x9:type_of% (qAH.l10.eq_2 y x8 x9 k):=qAH.l10.eq_2 y x8 x9 k
def qAH.f(k:Nat)(x:Int)(y:List Int):Option Int:=(qAu.f x).bind fun t4=>(qAH.l10 k y t4 0)
def qAH.Post(W F:World)(r:Int)(v:Value)(w':World):Prop:=∃(F':World),v = .int .u64 r∧Sm W F w' F' []
theorem qAH.calls(k:Nat)(x:Int)(y:List Int)(A1_0:OA)(c1_0:Nat)(r:Int)(W F:World)(hown:Sub F W)(g1_0:Rd (Kn.int .u64) F A1_0 c1_0 y)(H:qAH.f k x y=some r):
    Cr 122 #[.int .u64 x,.slice A1_0 y.length c1_0] W (qAH.Post W F r):=by
 have S:=sT hown
 unfold qAH.f at H
 refine ent 24 rfl rfl rfl (fun a E=>?_)
 refine rr E fun a E=>(sq fun K2 hK2=>pl0 (plc E (.r 0 1 .nil) (fun a E=>?_)))
 obtain ⟨t4,h5,H⟩:=bd H
 refine plq E S en166 (qAu.calls x _ _ _ S.own.sub h5) fun u3 S a E=>plc E (.r 2 1 .nil) (fun a E=>pld (hK2 _ _ (sq fun K6 hK6=>rr E fun a E=>(wp_block ?_))))
 refine wp_loop_ghost (fun kq11 a w'=>∃(G:NV)(x8:Int)(x9:Int),kq11≤k∧Env 24 G a∧At G [(1,.slice A1_0 y.length c1_0),(5,.int .u64 x8),(6,iv x9)]∧Sm W F w' F []∧qAH.l10 kq11 y x8 x9=some r) k ⟨_,t4,0,Nat.le_refl _,E,.of,S,H⟩ ?_
 rintro kq11 a u13 ⟨G,x8,x9,hkq,E,A,S,H⟩
 obtain _ | k12:=kq11
 exact zz H
 rw [qAH.l10_s]at H
 obtain ⟨J,E⟩:=E.at A
 refine sq fun K14 hK14=>rr E fun a E=>(E.ik 12 H (fun c16 E H=>?_) fun c16 E H=>?_)
 refine wp_skip (hK14 _ _ (sq fun K17 hK17=>wp_block (pl0 ?_)))
 obtain ⟨c18,H⟩:=gd H
 have hE_:=E
 obtain ⟨ad19,rfl⟩:=g1_0.addr c18.1 c18.2
 replace E:=hE_
 obtain ⟨cs21,rfl,hc22⟩:=g1_0.el 0 x9 c18.1 c18.2
 refine plc E (.r 0 3<|.x 3 c18<|.c 4 (S.fc hc22 0)<|.r 5 2<|.nil) (fun a E=>?_)
 obtain ⟨t24,h25,H⟩:=bd H
 refine plq E S en166 (qAu.calls (IntKind.u64.wrap ((IntKind.u64.wrap (((BitVec.ofInt 64 x8 ^^^ BitVec.ofInt 64 (nth 0 y x9)).toNat:Int)))+11400714819323198485)) _ _ _ S.own.sub h25) fun u23 S a E=>plc E (.r 8 1 .nil) (fun a E=>pld ?_)
 refine qCL ?_
 refine hK17 _ _ (pl0 (plc E (.r 0 3 .nil) (fun a E=>pld ?_)))
 exact qCM ⟨k12,by omega,_,t24,(w64 (x9+1)),by omega,E,.of,S,H⟩
 refine wp_exit ?_
 refine hK6 _ _ (rr E fun a E=>(wp_ret ?_))
 obtain rfl:=si H
 exact rt1 E ⟨_,rfl,_,rfl,S⟩
mutual
def qe.j6:Nat→Int→Bool→Option Int
 | 0,_,_=>none
 | k+1,x,y5=>if y5=true then (some 0) else (if x≤32768 then ((qe.f k (w64 (2 * x))).bind fun t18=>(some (w64 (65536+t18)))) else (qe.l27 k (IntKind.u64.wrap ((IntKind.u64.wrap x) * 32768)) 0 0))
def qe.l27:Nat→Int→Int→Int→Option Int
 | 0,_,_,_=>none
 | k+1,x24,x25,x26=>if x26<16 then (if (IntKind.u64.wrap ((IntKind.u64.wrap (x24 * x24)).tdiv 2147483648))≤1073741824 then (qe.l27 k (IntKind.u64.wrap (2 * (IntKind.u64.wrap ((IntKind.u64.wrap (x24 * x24)).tdiv 2147483648)))) (w64 ((w64 (2 * x25))+1)) (w64 (x26+1))) else (qe.l27 k (IntKind.u64.wrap ((IntKind.u64.wrap (x24 * x24)).tdiv 2147483648)) (w64 (2 * x25)) (w64 (x26+1)))) else (some x25)
def qe.f:Nat→Int→Option Int
 | 0,_=>none
 | k+1,x=>if x<1 then (qe.j6 k x true) else (qe.j6 k x (decide (x>65536)))
end
theorem qe.j6_s k x y5:type_of% (qe.j6.eq_2 x y5 k):=qe.j6.eq_2 x y5 k
theorem qe.l27_s k x24 x25 x26:type_of% (qe.l27.eq_2 x24 x25 x26 k):=qe.l27.eq_2 x24 x25 x26 k
theorem qe.f_s k x:type_of% (qe.f.eq_2 x k):=qe.f.eq_2 x k
def qe.Post(W F:World)(r:Int)(v:Value)(w':World):Prop:=∃(F':World),v=iv r∧Sm W F w' F' []
theorem qe.calls:∀(k:Nat)(x:Int)(r:Int)(W F:World)(hown:Sub F W)(H:qe.f k x=some r),
    Cr 331 #[iv x] W (qe.Post W F r):=by
 intro k
 induction k using Nat.strongRecOn
 rename_i k ih
 intro x r W F hown H
 obtain _ | k1:=k
 exact zz H
 have S:=sT hown
 rw [qe.f_s]at H
 refine ent 38 rfl rfl rfl (fun a E=>?_)
 refine rr E fun a E=>(sq fun K2 hK2=>sq fun K3 hK3=>?_)
 have J9:∀ kq7,kq7≤k1→∀(G:NV)(y5:Bool)(a:Act)(w':World),Env 38 G a→At G [(0,iv x),(11,.bool y5)]→Sm W F w' F []→qe.j6 kq7 x y5=some r→K3 a w':=by
  intro kq7 hkq G y5 a u10 E A S H
  obtain _ | k8:=kq7
  exact zz H
  rw [qe.j6_s]at H
  obtain ⟨J,E⟩:=E.at A
  refine hK3 _ _ (E.ib 11 H (fun c11 E H=>?_) fun c11 E H=>?_)
  refine rr E fun a E=>(wp_ret (qCJ ?_))
  obtain rfl:=si H
  exact rt1 E ⟨_,rfl,_,rfl,S⟩
  refine wp_skip (hK2 _ _ (sq fun K13 hK13=>rr E fun a E=>(E.ik 13 H (fun c15 E H=>?_) fun c15 E H=>?_)))
  refine sq fun K16 hK16=>pl0 (plc E (.r 0 2 .nil) (fun a E=>?_))
  obtain ⟨t18,h19,H⟩:=bd H
  refine plq E S en331 (ih k8 (by omega) (w64 (2 * x)) _ _ _ S.own.sub h19) fun u17 S a E=>plc E (.r 3 2 .nil) (fun a E=>pld (hK16 _ _ (wp_ret (qCJ ?_))))
  obtain rfl:=si H
  exact rt1 E ⟨_,rfl,_,rfl,S⟩
  refine wp_skip (hK13 _ _ (rr E fun a E=>(rr E fun a E=>(sq fun K22 hK22=>rr E fun a E=>(wp_block ?_)))))
  refine wp_loop_ghost (fun kq28 a w'=>∃(G:NV)(x24:Int)(x25:Int)(x26:Int),kq28≤k8∧Env 38 G a∧At G [(3,.int .u64 x24),(4,iv x25),(5,iv x26)]∧Sm W F w' F []∧qe.l27 kq28 x24 x25 x26=some r) k8 ⟨_,(IntKind.u64.wrap ((IntKind.u64.wrap x) * 32768)),0,0,Nat.le_refl _,E,.of,S,H⟩ ?_
  rintro kq28 a u30 ⟨G,x24,x25,x26,hkq,E,A,S,H⟩
  obtain _ | k29:=kq28
  exact zz H
  rw [qe.l27_s]at H
  obtain ⟨J,E⟩:=E.at A
  refine sq fun K31 hK31=>rr E fun a E=>(E.ik 22 H (fun c33 E H=>?_) fun c33 E H=>?_)
  refine wp_skip (hK31 _ _ (sq fun K34 hK34=>wp_block (rr E fun a E=>(rr E fun a E=>(rr E fun a E=>(E.ik 32 H (fun c38 E H=>?_) fun c38 E H=>?_))))))
  refine rr E fun a E=>(pl0 (plc E (.r 0 3 .nil) (fun a E=>pld ?_)))
  refine qCL ?_
  refine hK34 _ _ (pl0 (plc E (.r 0 3 .nil) (fun a E=>pld ?_)))
  exact qCM ⟨k29,by omega,_,(IntKind.u64.wrap (2 * (IntKind.u64.wrap ((IntKind.u64.wrap (x24 * x24)).tdiv 2147483648)))),(w64 ((w64 (2 * x25))+1)),(w64 (x26+1)),by omega,E,.of,S,H⟩
  refine wp_skip ?_
  refine qCL ?_
  refine hK34 _ _ (pl0 (plc E (.r 0 3 .nil) (fun a E=>pld ?_)))
  exact qCM ⟨k29,by omega,_,(IntKind.u64.wrap ((IntKind.u64.wrap (x24 * x24)).tdiv 2147483648)),(w64 (2 * x25)),(w64 (x26+1)),by omega,E,.of,S,H⟩
  refine wp_exit ?_
  refine hK22 _ _ (rr E fun a E=>(wp_ret ?_))
  obtain rfl:=si H
  exact rt1 E ⟨_,rfl,_,rfl,S⟩
 refine pl0 (plc E (.r 0 3 .nil) (fun a E=>E.fk 8 H (fun c4 E H=>?_) fun c4 E H=>?_))
 refine plc E (.r 3 3 .nil) (fun a E=>pld ?_)
 exact J9 _ (by omega) _ true _ _ E .of S H
 refine plc E (.r 3 3 .nil) (fun a E=>pld ?_)
 exact J9 _ (by omega) _ (decide (x>65536)) _ _ E .of S H
def qAs.f(k:Nat)(x:Int)(y:Int):Option Int:=(qAH.f k x [(IntKind.u64.wrap y)]).bind fun t8=>((qe.f k (w64 (1+(w64 (IntKind.u64.wrap (t8.tdiv 281474976710656)))))).bind fun t11=>(some t11))
def qAs.Post(W F:World)(r:Int)(v:Value)(w':World):Prop:=∃(F':World),v=iv r∧Sm W F w' F' []
theorem qAs.calls(k:Nat)(x:Int)(y:Int)(r:Int)(W F:World)(hown:Sub F W)(H:qAs.f k x y=some r):
    Cr 302 #[.int .u64 x,iv y] W (qAs.Post W F r):=by
 have S:=sT hown
 unfold qAs.f at H
 refine ent 14 rfl rfl rfl (fun a E=>?_)
 refine rr E fun a E=>(sq fun K2 hK2=>pl0 (plc E (.r 0 3 .nil) (fun a E=>ple E (.lit (d:=(Kn.int .u64)) (e:=117) S [(IntKind.u64.wrap y)] (.cons rfl .nil)) ?_)))
 rintro _ u3 a ⟨A4,c5,rfl,S,hg⟩ E
 obtain ⟨t8,h9,H⟩:=bd H
 refine plq E S en122 (qAH.calls k x [(IntKind.u64.wrap y)] _ _ _ _ _ (Sub.refl _) (S.rd_at (i:=0) rfl) h9) fun u7 S a E=>plc E (.r 5 3 .nil) (fun a E=>?_)
 obtain ⟨t11,h12,H⟩:=bd H
 refine plq E S en331 (qe.calls k (w64 (1+(w64 (IntKind.u64.wrap (t8.tdiv 281474976710656))))) _ _ _ S.own.sub h12) fun u10 S a E=>plc E (.r 9 1 .nil) (fun a E=>pld (hK2 _ _ (wp_ret ?_)))
 replace S:=S.tail
 obtain rfl:=si H
 exact rt1 E ⟨_,rfl,_,rfl,S⟩
mutual
def qp.l7:Nat→Int→List qB→Int→Int→Option (Int × Bool)
 | 0,_,_,_,_=>none
 | k+1,x,y,x5,x6=>if x6<(y.length:Int) then (if 0≤x6∧x6<(y.length:Int) then (if (nth qB.z y x6).f1=0 then (qp.l7 k x y x5 (w64 (x6+1))) else (if x5<0 then (qp.j45 k x y x5 x6 true) else (if 0≤x5∧x5<(y.length:Int) then ((qAs.f k x ((nth qB.z y x6).f0)).bind fun t39=>((qAs.f k x ((nth qB.z y x5).f0)).bind fun t42=>(qp.j45 k x y x5 x6 (decide ((w64 (t39 * (nth qB.z y x5).f1))<(w64 (t42 * (nth qB.z y x6).f1))))))) else (none)))) else (none)) else (if x5<0 then (some (0,false)) else (if 0≤x5∧x5<(y.length:Int) then (some ((nth qB.z y x5).f0,true)) else (none)))
def qp.j45:Nat→Int→List qB→Int→Int→Bool→Option (Int × Bool)
 | 0,_,_,_,_,_=>none
 | k+1,x,y,x5,x6,y44=>if y44=true then (qp.l7 k x y x6 (w64 (x6+1))) else (qp.l7 k x y x5 (w64 (x6+1)))
end
theorem qp.l7_s k x y x5 x6:type_of% (qp.l7.eq_2 x y x5 x6 k):=qp.l7.eq_2 x y x5 x6 k
theorem qp.j45_s k x y x5 x6 y44:type_of% (qp.j45.eq_2 x y x5 x6 y44 k):=qp.j45.eq_2 x y x5 x6 y44 k
def qp.f(k:Nat)(x:Int)(y:List qB):Option (Int × Bool):=qp.l7 k x y (-1) 0
def qp.Post(W F:World)(r:Int × Bool)(v:Value)(w':World):Prop:=∃(F':World),v = .tuple #[iv r.1,.bool r.2]∧Sm W F w' F' []
theorem qp.calls(k:Nat)(x:Int)(y:List qB)(A1_0:OA)(c1_0:Nat)(r:Int × Bool)(W F:World)(hown:Sub F W)(g1_0:Rd qB.k F A1_0 c1_0 y)(H:qp.f k x y=some r):
    Cr 266 #[.int .u64 x,.slice A1_0 y.length c1_0] W (qp.Post W F r):=by
 have S:=sT hown
 unfold qp.f at H
 refine ent 59 rfl rfl rfl (fun a E=>?_)
 refine rr E fun a E=>(rr E fun a E=>(sq fun K3 hK3=>rr E fun a E=>(wp_block ?_)))
 refine wp_loop_ghost (fun kq8 a w'=>∃(G:NV)(x5:Int)(x6:Int),kq8≤k∧Env 59 G a∧At G [(0,.int .u64 x),(1,.slice A1_0 y.length c1_0),(6,iv x5),(7,iv x6)]∧Sm W F w' F []∧qp.l7 kq8 x y x5 x6=some r) k ⟨_,(-1),0,Nat.le_refl _,E,.of,S,H⟩ ?_
 rintro kq8 a u10 ⟨G,x5,x6,hkq,E,A,S,H⟩
 obtain _ | k9:=kq8
 exact zz H
 rw [qp.l7_s]at H
 obtain ⟨J,E⟩:=E.at A
 refine sq fun K11 hK11=>rr E fun a E=>(E.ik 11 H (fun c13 E H=>?_) fun c13 E H=>?_)
 refine wp_skip (hK11 _ _ (sq fun K14 hK14=>wp_block (sq fun K15 hK15=>sq fun K16 hK16=>pl0 ?_)))
 obtain ⟨c17,H⟩:=gd H
 have hE_:=E
 obtain ⟨ad18,rfl⟩:=g1_0.addr c17.1 c17.2
 replace E:=hE_
 obtain ⟨cs20,rfl,hc21⟩:=g1_0.el qB.z x6 c17.1 c17.2
 refine plc E (.r 0 2<|.x 2 c17<|.r 3 1<|.c 4 (S.fc hc21 1)<|.r 5 1<|.nil) (fun a E=>pld (hK16 _ _ (E.ik 19 H (fun c22 E H=>?_) fun c22 E H=>?_)))
 refine wp_exit ?_
 refine hK14 _ _ (pl0 (plc E (.r 0 3 .nil) (fun a E=>pld ?_)))
 exact qCM ⟨k9,by omega,_,x5,(w64 (x6+1)),by omega,E,.of,S,H⟩
 refine wp_skip (hK15 _ _ (sq fun K23 hK23=>?_))
 have J48:∀ kq46,kq46≤k9→∀(G:NV)(y44:Bool)(a:Act)(w':World),Env 59 G a→At G [(0,.int .u64 x),(1,.slice (some ad18) y.length c1_0),(6,iv x5),(7,iv x6),(50,.bool y44)]→Sm W F w' F []→qp.j45 kq46 x y x5 x6 y44=some r→K23 a w':=by
  intro kq46 hkq G y44 a u49 E A S H
  obtain _ | k47:=kq46
  exact zz H
  rw [qp.j45_s]at H
  obtain ⟨J,E⟩:=E.at A
  refine hK23 _ _ (E.ib 50 H (fun c50 E H=>?_) fun c50 E H=>?_)
  refine pl0 (plc E (.r 0 2 .nil) (fun a E=>pld ?_))
  refine qCL ?_
  refine hK14 _ _ (pl0 (plc E (.r 0 3 .nil) (fun a E=>pld ?_)))
  exact qCM ⟨k47,by omega,_,x6,(w64 (x6+1)),by omega,E,.of,S,H⟩
  refine wp_skip ?_
  refine qCL ?_
  refine hK14 _ _ (pl0 (plc E (.r 0 3 .nil) (fun a E=>pld ?_)))
  exact qCM ⟨k47,by omega,_,x5,(w64 (x6+1)),by omega,E,.of,S,H⟩
 refine drawn 31 ⟨[],[],fun q=>False⟩ mixed rfl (by kernel_rfl) (fun hst=>?_)
 replace S:=S.drew
 refine mny 28 hst E (.r 0 3 .nil) (fun a E=>?_)
 refine E.fk 22 H (fun c24 E H=>?_) fun c24 E H=>?_
 refine mny 0 hst E (.r 3 28 .nil) (fun a E=>?_)
 refine dn ?_
 exact J48 _ (by omega) _ true _ _ E .of S H
 obtain ⟨c28,H⟩:=gd H
 obtain ⟨cs30,rfl,hc31⟩:=g1_0.el qB.z x5 c28.1 c28.2
 refine mny 6 hst E (.r 3 3<|.x 6 c17<|.r 7 1<|.c 8 (S.fc hc21 0)<|.r 10 2<|.x 12 c28<|.r 13 1<|.c 14 (S.fc hc31 1)<|.r 16 3<|.x 19 c28<|.r 20 1<|.c 21 (S.fc hc31 0)<|.r 23 2<|.x 25 c17<|.r 26 1<|.c 27 (S.fc hc21 1)<|.nil) (fun a E=>?_)
 obtain ⟨t39,h40,H⟩:=bd H
 refine on1 9 E (.cl en302 (qAs.calls k9 x ((nth qB.z y x6).f0) _ _ _ S.own.sub h40)) ?_
 rintro _ u38 a ⟨_,rfl,hC⟩ E
 refine ⟨.of hC.agr,?_⟩
 replace S:=S.lent hC
 refine mny 4 hst E (.r 15 1 .nil) (fun a E=>?_)
 obtain ⟨t42,h43,H⟩:=bd H
 refine on1 22 E (.cl en302 (qAs.calls k9 x ((nth qB.z y x5).f0) _ _ _ S.own.sub h43)) ?_
 rintro _ u41 a ⟨_,rfl,hC⟩ E
 refine ⟨.of hC.agr,?_⟩
 replace S:=S.lent hC
 refine mny 0 hst E (.r 28 3 .nil) (fun a E=>?_)
 refine dn ?_
 exact J48 _ (by omega) _ (decide ((w64 (t39 * (nth qB.z y x5).f1))<(w64 (t42 * (nth qB.z y x6).f1)))) _ _ E .of S H
 refine wp_exit ?_
 refine hK3 _ _ (sq fun K51 hK51=>rr E fun a E=>(E.ik 53 H (fun c53 E H=>?_) fun c53 E H=>?_))
 refine rr E fun a E=>(wp_ret (qCJ ?_))
 obtain rfl:=si H
 exact rtN E ⟨_,rfl,_,rfl,S⟩
 refine wp_skip (hK51 _ _ (sq fun K55 hK55=>pl0 ?_))
 obtain ⟨c56,H⟩:=gd H
 have hE_:=E
 obtain ⟨ad57,rfl⟩:=g1_0.addr c56.1 c56.2
 replace E:=hE_
 obtain ⟨cs59,rfl,hc60⟩:=g1_0.el qB.z x5 c56.1 c56.2
 refine plc E (.r 0 2<|.x 2 c56<|.r 3 1<|.c 4 (S.fc hc60 0)<|.r 5 2<|.nil) (fun a E=>pld (hK55 _ _ (wp_ret ?_)))
 obtain rfl:=si H
 exact rtN E ⟨_,rfl,_,rfl,S⟩
def qAD.l14:Nat→List qB→Int→List qB→Int→Option (List qB)
 | 0,_,_,_,_=>none
 | k+1,x,y,l12,x13=>if x13<(x.length:Int) then (if 0≤x13∧x13<(x.length:Int) then (if (nth qB.z x x13).f0=y then (qAD.l14 k x y l12 (w64 (x13+1))) else (if ((l12.length:Int)+((1:Nat):Int)) * 16≤140737488355328 then (qAD.l14 k x y (l12++[(nth qB.z x x13)]) (w64 (x13+1))) else (none))) else (none)) else (some l12)
theorem qAD.l14_s k x y l12 x13:type_of% (qAD.l14.eq_2 x y l12 x13 k):=qAD.l14.eq_2 x y l12 x13 k
def qAD.f(k:Nat)(x:List qB)(y:Int):Option (List qB):=qAD.l14 k x y ([]:List qB) 0
def qAD.Post(W F:World)(r:List qB)(v:Value)(w':World):Prop:=∃(F':World)(RA0_0:OA)(rc0_0:Nat),v = .slice RA0_0 r.length rc0_0∧Sm W F w' F' [row qB.k 306 (.slice RA0_0 r.length rc0_0) r]
theorem qAD.calls(k:Nat)(x:List qB)(y:Int)(A0_0:OA)(c0_0:Nat)(r:List qB)(W F:World)(hown:Sub F W)(g0_0:Rd qB.k F A0_0 c0_0 x)(H:qAD.f k x y=some r):
    Cr 267 #[.slice A0_0 x.length c0_0,iv y] W (qAD.Post W F r):=by
 have S:=sT hown
 unfold qAD.f at H
 refine ent 29 rfl rfl rfl (fun a E=>?_)
 refine rr E fun a E=>(sq fun K2 hK2=>pl0 (ple E (.lit (d:=qB.k) (e:=306) S ([]:List qB) (.nil)) ?_))
 rintro _ u3 a ⟨A4,c5,rfl,S,hg⟩ E
 refine plc E (.r 1 1 .nil) (fun a E=>pld (hK2 _ _ (sq fun K7 hK7=>rr E fun a E=>(wp_block ?_))))
 refine wp_loop_ghost (fun kq15 a w'=>∃(G:NV)(A10:OA)(c11:Nat)(l12:List qB)(x13:Int),kq15≤k∧Env 29 G a∧At G [(0,.slice A0_0 x.length c0_0),(1,iv y),(5,.slice A10 l12.length c11),(6,iv x13)]∧Sm W F w' F [row qB.k 306 (.slice A10 l12.length c11) l12]∧qAD.l14 kq15 x y l12 x13=some r) k ⟨_,A4,c5,([]:List qB),0,Nat.le_refl _,E,.of,S,H⟩ ?_
 rintro kq15 a u17 ⟨G,A10,c11,l12,x13,hkq,E,A,S,H⟩
 obtain _ | k16:=kq15
 exact zz H
 rw [qAD.l14_s]at H
 obtain ⟨J,E⟩:=E.at A
 refine sq fun K18 hK18=>rr E fun a E=>(E.ik 11 H (fun c20 E H=>?_) fun c20 E H=>?_)
 refine wp_skip (hK18 _ _ (sq fun K21 hK21=>wp_block (sq fun K22 hK22=>pl0 ?_)))
 obtain ⟨c23,H⟩:=gd H
 have hE_:=E
 obtain ⟨ad24,rfl⟩:=g0_0.addr c23.1 c23.2
 replace E:=hE_
 obtain ⟨cs26,rfl,hc27⟩:=g0_0.el qB.z x13 c23.1 c23.2
 refine plc E (.r 0 2<|.x 2 c23<|.r 3 1<|.c 4 (S.fc hc27 0)<|.r 5 2<|.nil) (fun a E=>pld (hK22 _ _ (E.ikn 20 H (fun c28 E H=>?_) fun c28 E H=>?_)))
 refine wp_skip ?_
 refine qCL ?_
 refine hK21 _ _ (pl0 (plc E (.r 0 3 .nil) (fun a E=>pld ?_)))
 exact qCM ⟨k16,by omega,_,A10,c11,l12,(w64 (x13+1)),by omega,E,.of,S,H⟩
 refine pl0 (plc E (.r 0 3<|.x 3 c23<|.cs 4 (S.fcs hc27)<|.nil) (fun a E=>ple E (.lit (d:=qB.k) (e:=306) S [(nth qB.z x x13)] (.cons rfl .nil)) ?_))
 rintro _ u32 a ⟨A33,c34,rfl,S,hg⟩ E
 obtain ⟨c36,H⟩:=gd H
 replace S:=S.front 1 rfl
 refine ple E (.ap (d:=qB.k) 16 S (qCX (S.row_at (i:=1) rfl)) c36 c34) ?_
 rintro _ u39 a ⟨A37,c38,rfl,S,hz⟩ E
 refine plc E (.r 7 1 .nil) (fun a E=>pld ?_)
 refine qCL ?_
 refine hK21 _ _ (pl0 (plc E (.r 0 3 .nil) (fun a E=>pld ?_)))
 replace S:=S.pm [0] 2
 exact qCM ⟨k16,by omega,_,A37,c38,(l12++[(nth qB.z x x13)]),(w64 (x13+1)),by omega,E,.of,S,H⟩
 refine wp_exit ?_
 refine hK7 _ _ (rr E fun a E=>(wp_ret ?_))
 obtain rfl:=si H
 exact rt1 E ⟨_,rfl,_,_,_,rfl,S⟩
def qAN.l20:Nat→Int→List qB→List qB→List Int→Int→Option (List Int)
 | 0,_,_,_,_,_=>none
 | k+1,x,y,l13,l17,x18=>if x18<(y.length:Int) then ((qp.f k x l13).bind fun t30=>(if t30.2=true then (if ((l17.length:Int)+((1:Nat):Int)) * 8≤140737488355328 then ((qAD.f k l13 t30.1).bind fun t46=>(qAN.l20 k x y t46 (l17++[t30.1]) (w64 (x18+1)))) else (none)) else (some l17))) else (some l17)
theorem qAN.l20_s k x y l13 l17 x18:type_of% (qAN.l20.eq_2 x y l13 l17 x18 k):=qAN.l20.eq_2 x y l13 l17 x18 k
def qAN.f(k:Nat)(x:Int)(y:List qB):Option (List Int):=qAN.l20 k x y y ([]:List Int) 0
def qAN.Post(W F:World)(r:List Int)(v:Value)(w':World):Prop:=∃(F':World)(RA0_0:OA)(rc0_0:Nat),v = .slice RA0_0 r.length rc0_0∧Sm W F w' F' [row ki 3 (.slice RA0_0 r.length rc0_0) r]
theorem qAN.calls(k:Nat)(x:Int)(y:List qB)(A1_0:OA)(c1_0:Nat)(r:List Int)(W F:World)(hown:Sub F W)(g1_0:Rd qB.k F A1_0 c1_0 y)(H:qAN.f k x y=some r):
    Cr 241 #[.int .u64 x,.slice A1_0 y.length c1_0] W (qAN.Post W F r):=by
 have S:=sT hown
 unfold qAN.f at H
 refine ent 35 rfl rfl rfl (fun a E=>?_)
 refine rr E fun a E=>(sq fun K2 hK2=>pl0 (ple E (.lit (d:=ki) (e:=3) S ([]:List Int) (.nil)) ?_))
 rintro _ u3 a ⟨A4,c5,rfl,S,hg⟩ E
 refine plc E (.r 1 1 .nil) (fun a E=>pld (hK2 _ _ (rr E fun a E=>(sq fun K8 hK8=>rr E fun a E=>(wp_block ?_)))))
 refine wp_loop_ghost (fun kq21 a w'=>∃(G:NV)(A11:OA)(c12:Nat)(l13:List qB)(A15:OA)(c16:Nat)(l17:List Int)(x18:Int)(F19:World),kq21≤k∧Env 35 G a∧At G [(0,.int .u64 x),(1,.slice A11 l13.length c12),(5,.slice A15 l17.length c16),(6,iv (y.length:Int)),(7,iv x18)]∧Sm W F w' F19 [row ki 3 (.slice A15 l17.length c16) l17]∧Rd qB.k F19 A11 c12 l13∧qAN.l20 kq21 x y l13 l17 x18=some r) k ⟨_,A1_0,c1_0,y,A4,c5,([]:List Int),0,F,Nat.le_refl _,E,.of,S,g1_0,H⟩ ?_
 rintro kq21 a u23 ⟨G,A11,c12,l13,A15,c16,l17,x18,F19,hkq,E,A,S,g14,H⟩
 obtain _ | k22:=kq21
 exact zz H
 rw [qAN.l20_s]at H
 obtain ⟨J,E⟩:=E.at A
 refine sq fun K24 hK24=>rr E fun a E=>(E.ik 15 H (fun c26 E H=>?_) fun c26 E H=>?_)
 refine wp_skip (hK24 _ _ (sq fun K27 hK27=>wp_block (sq fun K28 hK28=>pl0 (plc E (.r 0 2 .nil) (fun a E=>?_)))))
 obtain ⟨t30,h31,H⟩:=bd H
 refine plq E S en266 (qp.calls k22 x l13 _ _ _ _ _ S.own.sub g14 h31) fun u29 S a E=>plc E (.r 3 5 .nil) (fun a E=>pld (hK28 _ _ (sq fun K32 hK32=>rr E fun a E=>(E.ibn 25 H (fun c34 E H=>?_) fun c34 E H=>?_))))
 refine wp_skip (hK32 _ _ (sq fun K36 hK36=>pl0 (plc E (.r 0 2 .nil) (fun a E=>ple E (.lit (d:=ki) (e:=3) S [t30.1] (.cons rfl .nil)) ?_))))
 rintro _ u37 a ⟨A38,c39,rfl,S,hg⟩ E
 obtain ⟨c41,H⟩:=gd H
 replace S:=S.front 1 rfl
 refine ple E (.ap (d:=ki) 8 S (qCX (S.row_at (i:=1) rfl)) c41 c39) ?_
 rintro _ u44 a ⟨A42,c43,rfl,S,hz⟩ E
 refine plc E (.r 4 1 .nil) (fun a E=>pld (hK36 _ _ (pl0 (plc E (.r 0 2 .nil) (fun a E=>?_)))))
 obtain ⟨t46,h47,H⟩:=bd H
 refine ple E (.cl en267 (qAD.calls k22 l13 t30.1 _ _ _ _ _ S.own.sub g14 h47)) ?_
 rintro _ u45 a ⟨F48,A49,c50,rfl,hC⟩ E
 have hs:=hC.sub
 replace S:=S.called (X:=[]) hC
 replace g14:=g14.mono hs
 refine plc E (.r 3 1 .nil) (fun a E=>pld ?_)
 refine qCL ?_
 refine hK27 _ _ (pl0 (plc E (.r 0 3 .nil) (fun a E=>pld ?_)))
 obtain ⟨F53,hs,g54,S⟩:=S.give
 replace g14:=g14.mono hs
 replace S:=S.pm [0] 2
 exact qCM ⟨k22,by omega,_,A49,c50,t46,A42,c43,(l17++[t30.1]),(w64 (x18+1)),F53,by omega,E,.of,S,g54,H⟩
 refine rr E fun a E=>(wp_ret (qCJ (qCK (qCJ (qCJ (qCK (qCJ ?_)))))))
 obtain rfl:=si H
 exact rt1 E ⟨_,rfl,_,_,_,rfl,S⟩
 refine wp_exit ?_
 refine hK8 _ _ (rr E fun a E=>(wp_ret ?_))
 obtain rfl:=si H
 exact rt1 E ⟨_,rfl,_,_,_,rfl,S⟩
mutual
def qD.l24:Nat→List qA→List qK→Int→Int→List Ar3_i64→List Int→Int→Option (List Int)
 | 0,_,_,_,_,_,_,_=>none
 | k+1,x,y,z,p,l18,l21,x22=>if x22<(y.length:Int) then (if 0≤x22∧x22<(y.length:Int) then (if (nth qK.z y x22).f0=1 then (if ((([]:List Ar3_i64).length:Int)+((1:Nat):Int)) * 24≤140737488355328 then (qD.j61 k x y z p l18 l21 x22 (([]:List Ar3_i64)++[(⟨0,0,0⟩:Ar3_i64)])) else (none)) else (qD.j61 k x y z p l18 l21 x22 ([]:List Ar3_i64))) else (none)) else (some l21)
def qD.j61:Nat→List qA→List qK→Int→Int→List Ar3_i64→List Int→Int→List Ar3_i64→Option (List Int)
 | 0,_,_,_,_,_,_,_,_=>none
 | k+1,x,y,z,p,l18,l21,x22,l60=>qD.l78 k x y z p l18 x22 l21 l60 0
def qD.l78:Nat→List qA→List qK→Int→Int→List Ar3_i64→Int→List Int→List Ar3_i64→Int→Option (List Int)
 | 0,_,_,_,_,_,_,_,_,_=>none
 | k+1,x,y,z,p,l18,x22,l72,l75,x76=>if x76<(l18.length:Int) then (if 0≤x76∧x76<(l18.length:Int) then (if (nth qK.z y x22).f0=3 then (qD.l104 k x y z p l18 x22 l72 l75 x76 false 0) else ((qg.f k x ((nth Ar3_i64.z l18 x76).f0) ((nth Ar3_i64.z l18 x76).f1)).bind fun t139=>(if (nth qK.z y x22).f1=1 then ((qAL.f k x).bind fun t150=>(qD.j162 k x y z p l18 x22 l72 l75 x76 t150)) else (qD.j162 k x y z p l18 x22 l72 l75 x76 t139)))) else (none)) else (qD.l24 k x y z p l75 l72 (w64 (x22+1)))
def qD.l104:Nat→List qA→List qK→Int→Int→List Ar3_i64→Int→List Int→List Ar3_i64→Int→Bool→Int→Option (List Int)
 | 0,_,_,_,_,_,_,_,_,_,_,_=>none
 | k+1,x,y,z,p,l18,x22,l72,l75,x76,y102,x103=>if x103<(l72.length:Int) then (if y102=true then (qD.l104 k x y z p l18 x22 l72 l75 x76 true (w64 (x103+1))) else (if 0≤x103∧x103<(l72.length:Int) then (qD.l104 k x y z p l18 x22 l72 l75 x76 ((nth 0 l72 x103) == (nth Ar3_i64.z l18 x76).f2) (w64 (x103+1))) else (none))) else (if y102=true then (qD.j123 k x y z p l18 x22 l72 l75 x76 false) else (qD.j123 k x y z p l18 x22 l72 l75 x76 (decide ((l72.length:Int)<p))))
def qD.j123:Nat→List qA→List qK→Int→Int→List Ar3_i64→Int→List Int→List Ar3_i64→Int→Bool→Option (List Int)
 | 0,_,_,_,_,_,_,_,_,_,_=>none
 | k+1,x,y,z,p,l18,x22,l72,l75,x76,y122=>if y122=true then (if ((l72.length:Int)+((1:Nat):Int)) * 8≤140737488355328 then (qD.l78 k x y z p l18 x22 (l72++[(nth Ar3_i64.z l18 x76).f2]) l75 (w64 (x76+1))) else (none)) else (qD.l78 k x y z p l18 x22 l72 l75 (w64 (x76+1)))
def qD.j162:Nat→List qA→List qK→Int→Int→List Ar3_i64→Int→List Int→List Ar3_i64→Int→List qB→Option (List Int)
 | 0,_,_,_,_,_,_,_,_,_,_=>none
 | k+1,x,y,z,p,l18,x22,l72,l75,x76,l160=>if (nth qK.z y x22).f1=2 then ((qAJ.f k x ((nth Ar3_i64.z l18 x76).f0)).bind fun t171=>(qD.j183 k x y z p l18 x22 l72 l75 x76 t171)) else (qD.j183 k x y z p l18 x22 l72 l75 x76 l160)
def qD.j183:Nat→List qA→List qK→Int→Int→List Ar3_i64→Int→List Int→List Ar3_i64→Int→List qB→Option (List Int)
 | 0,_,_,_,_,_,_,_,_,_,_=>none
 | k+1,x,y,z,p,l18,x22,l72,l75,x76,l181=>(qAH.f k (IntKind.u64.wrap z) [(IntKind.u64.wrap (nth qK.z y x22).f1),(IntKind.u64.wrap (nth Ar3_i64.z l18 x76).f0),(IntKind.u64.wrap (nth Ar3_i64.z l18 x76).f1)]).bind fun t194=>((qAN.f k t194 l181).bind fun t199=>(qD.l212 k x y z p l18 x22 l72 x76 t199 l75 0))
def qD.l212:Nat→List qA→List qK→Int→Int→List Ar3_i64→Int→List Int→Int→List Int→List Ar3_i64→Int→Option (List Int)
 | 0,_,_,_,_,_,_,_,_,_,_,_=>none
 | k+1,x,y,z,p,l18,x22,l72,x76,t199,l210,x211=>if x211<(t199.length:Int) then (qD.j220 k x y z p l18 x22 l72 x76 t199 l210 x211 (decide (x211<(nth qK.z y x22).f2))) else (qD.j220 k x y z p l18 x22 l72 x76 t199 l210 x211 false)
def qD.j220:Nat→List qA→List qK→Int→Int→List Ar3_i64→Int→List Int→Int→List Int→List Ar3_i64→Int→Bool→Option (List Int)
 | 0,_,_,_,_,_,_,_,_,_,_,_,_=>none
 | k+1,x,y,z,p,l18,x22,l72,x76,t199,l210,x211,y219=>if y219=true then (if 0≤x211∧x211<(t199.length:Int) then (if (w64 ((nth qK.z y x22).f1 - 1))=0 then (qD.j247 k x y z p l18 x22 l72 x76 t199 l210 x211 (nth 0 t199 x211) ((nth Ar3_i64.z l18 x76).f1) ((nth Ar3_i64.z l18 x76).f2)) else (if (w64 ((nth qK.z y x22).f1 - 1))=1 then (qD.j247 k x y z p l18 x22 l72 x76 t199 l210 x211 ((nth Ar3_i64.z l18 x76).f0) (nth 0 t199 x211) ((nth Ar3_i64.z l18 x76).f2)) else (if (w64 ((nth qK.z y x22).f1 - 1))=2 then (qD.j247 k x y z p l18 x22 l72 x76 t199 l210 x211 ((nth Ar3_i64.z l18 x76).f0) ((nth Ar3_i64.z l18 x76).f1) (nth 0 t199 x211)) else (none)))) else (none)) else (qD.l78 k x y z p l18 x22 l72 l210 (w64 (x76+1)))
def qD.j247:Nat→List qA→List qK→Int→Int→List Ar3_i64→Int→List Int→Int→List Int→List Ar3_i64→Int→Int→Int→Int→Option (List Int)
 | 0,_,_,_,_,_,_,_,_,_,_,_,_,_,_=>none
 | k+1,x,y,z,p,l18,x22,l72,x76,t199,l210,x211,x244,x245,x246=>if ((l210.length:Int)+((1:Nat):Int)) * 24≤140737488355328 then (qD.l212 k x y z p l18 x22 l72 x76 t199 (l210++[(⟨x244,x245,x246⟩:Ar3_i64)]) (w64 (x211+1))) else (none)
end
theorem qD.l24_s k x y z p l18 l21 x22:type_of% (qD.l24.eq_2 x y z p l18 l21 x22 k):=qD.l24.eq_2 x y z p l18 l21 x22 k
theorem qD.j61_s k x y z p l18 l21 x22 l60:type_of% (qD.j61.eq_2 x y z p l18 l21 x22 l60 k):=qD.j61.eq_2 x y z p l18 l21 x22 l60 k
theorem qD.l78_s k x y z p l18 x22 l72 l75 x76:type_of% (qD.l78.eq_2 x y z p l18 x22 l72 l75 x76 k):=qD.l78.eq_2 x y z p l18 x22 l72 l75 x76 k
theorem qD.l104_s k x y z p l18 x22 l72 l75 x76 y102 x103:type_of% (qD.l104.eq_2 x y z p l18 x22 l72 l75 x76 y102 x103 k):=qD.l104.eq_2 x y z p l18 x22 l72 l75 x76 y102 x103 k
theorem qD.j123_s k x y z p l18 x22 l72 l75 x76 y122:type_of% (qD.j123.eq_2 x y z p l18 x22 l72 l75 x76 y122 k):=qD.j123.eq_2 x y z p l18 x22 l72 l75 x76 y122 k
theorem qD.j162_s k x y z p l18 x22 l72 l75 x76 l160:type_of% (qD.j162.eq_2 x y z p l18 x22 l72 l75 x76 l160 k):=qD.j162.eq_2 x y z p l18 x22 l72 l75 x76 l160 k
theorem qD.j183_s k x y z p l18 x22 l72 l75 x76 l181:type_of% (qD.j183.eq_2 x y z p l18 x22 l72 l75 x76 l181 k):=qD.j183.eq_2 x y z p l18 x22 l72 l75 x76 l181 k
theorem qD.l212_s k x y z p l18 x22 l72 x76 t199 l210 x211:type_of% (qD.l212.eq_2 x y z p l18 x22 l72 x76 t199 l210 x211 k):=qD.l212.eq_2 x y z p l18 x22 l72 x76 t199 l210 x211 k
theorem qD.j220_s k x y z p l18 x22 l72 x76 t199 l210 x211 y219:type_of% (qD.j220.eq_2 x y z p l18 x22 l72 x76 t199 l210 x211 y219 k):=qD.j220.eq_2 x y z p l18 x22 l72 x76 t199 l210 x211 y219 k
theorem qD.j247_s(k:Nat)(x:List qA)(y:List qK)(z:Int)(p:Int)(l18:List Ar3_i64)(x22:Int)(l72:List Int)(x76:Int)(t199:List Int)(l210:List Ar3_i64)(x211:Int)(x244:Int)(x245:Int)(x246:Int):qD.j247 (k+1) x y z p l18 x22 l72 x76 t199 l210 x211 x244 x245 x246=(if ((l210.length:Int)+((1:Nat):Int)) * 24≤140737488355328 then (qD.l212 k x y z p l18 x22 l72 x76 t199 (l210++[(⟨x244,x245,x246⟩:Ar3_i64)]) (w64 (x211+1))) else (none)):=by kernel_rfl
def qD.f(k:Nat)(x:List qA)(y:List qK)(z:Int)(p:Int):Option (List Int):=qD.l24 k x y z p ([]:List Ar3_i64) ([]:List Int) 0
def qD.Post(W F:World)(r:List Int)(v:Value)(w':World):Prop:=∃(F':World)(RA0_0:OA)(rc0_0:Nat),v = .slice RA0_0 r.length rc0_0∧Sm W F w' F' [row ki 3 (.slice RA0_0 r.length rc0_0) r]
theorem qD.calls(k:Nat)(x:List qA)(y:List qK)(z:Int)(p:Int)(A0_0:OA)(c0_0:Nat)(A1_0:OA)(c1_0:Nat)(r:List Int)(W F:World)(hown:Sub F W)(g0_0:Rd qA.k F A0_0 c0_0 x)(g1_0:Rd qK.k F A1_0 c1_0 y)(H:qD.f k x y z p=some r):
    Cr 200 #[.slice A0_0 x.length c0_0,.slice A1_0 y.length c1_0,iv z,iv p] W (qD.Post W F r):=by
 have S:=sT hown
 unfold qD.f at H
 refine ent 144 rfl rfl rfl (fun a E=>?_)
 refine rr E fun a E=>(sq fun K2 hK2=>pl0 (ple E (.lit (d:=Ar3_i64.k) (e:=280) S ([]:List Ar3_i64) (.nil)) ?_))
 rintro _ u3 a ⟨A4,c5,rfl,S,hg⟩ E
 refine plc E (.r 1 1 .nil) (fun a E=>pld (hK2 _ _ (sq fun K7 hK7=>pl0 (ple E (.lit (d:=ki) (e:=3) S ([]:List Int) (.nil)) ?_))))
 rintro _ u8 a ⟨A9,c10,rfl,S,hg⟩ E
 refine plc E (.r 1 1 .nil) (fun a E=>pld (hK7 _ _ (sq fun K12 hK12=>rr E fun a E=>(wp_block ?_))))
 replace S:=S.front 1 rfl
 refine wp_loop_ghost (fun kq25 a w'=>∃(G:NV)(A16:OA)(c17:Nat)(l18:List Ar3_i64)(A19:OA)(c20:Nat)(l21:List Int)(x22:Int)(F23:World),kq25≤k∧Env 144 G a∧At G [(0,.slice A0_0 x.length c0_0),(1,.slice A1_0 y.length c1_0),(2,iv z),(3,iv p),(9,.slice A16 l18.length c17),(10,.slice A19 l21.length c20),(11,iv x22)]∧Sm W F w' F23 [row Ar3_i64.k 280 (.slice A16 l18.length c17) l18,row ki 3 (.slice A19 l21.length c20) l21]∧Rd qA.k F23 A0_0 c0_0 x∧Rd qK.k F23 A1_0 c1_0 y∧qD.l24 kq25 x y z p l18 l21 x22=some r) k ⟨_,A4,c5,([]:List Ar3_i64),A9,c10,([]:List Int),0,F,Nat.le_refl _,E,.of,S,g0_0,g1_0,H⟩ ?_
 rintro kq25 a u27 ⟨G,A16,c17,l18,A19,c20,l21,x22,F23,hkq,E,A,S,g0_0,g1_0,H⟩
 obtain _ | k26:=kq25
 exact zz H
 rw [qD.l24_s]at H
 obtain ⟨J,E⟩:=E.at A
 refine sq fun K28 hK28=>rr E fun a E=>(E.ik 27 H (fun c30 E H=>?_) fun c30 E H=>?_)
 refine wp_skip (hK28 _ _ (sq fun K31 hK31=>wp_block (sq fun K32 hK32=>pl0 ?_)))
 obtain ⟨c33,H⟩:=gd H
 have hE_:=E
 obtain ⟨ad34,rfl⟩:=g1_0.addr c33.1 c33.2
 replace E:=hE_
 obtain ⟨cs36,rfl,hc37⟩:=g1_0.el qK.z x22 c33.1 c33.2
 refine plc E (.r 0 2<|.x 2 c33<|.cs 3 (S.fcs hc37)<|.nil) (fun a E=>pla (t:=279) E S [iv 0,iv 0,iv 0] fun b38 u39 hb38 S a E=>pls E S [iv ((nth qK.z y x22).f0),iv ((nth qK.z y x22).f1),iv ((nth qK.z y x22).f2)] fun u40 hb38 S a E=>pld (hK32 _ _ (sq fun K41 hK41=>pl0 (ple E (.lit (d:=Ar3_i64.k) (e:=280) S ([]:List Ar3_i64) (.nil)) ?_))))
 rintro _ u42 a ⟨A43,c44,rfl,S,hg⟩ E
 refine plc E (.r 1 1 .nil) (fun a E=>pld (hK41 _ _ (sq fun K46 hK46=>?_)))
 have J64:∀ kq62,kq62≤k26→∀(G:NV)(A58:OA)(c59:Nat)(l60:List Ar3_i64)(a:Act)(w':World),Env 144 G a→At G [(0,.slice A0_0 x.length c0_0),(1,.slice (some ad34) y.length c1_0),(2,iv z),(3,iv p),(9,.slice A16 l18.length c17),(10,.slice A19 l21.length c20),(11,iv x22),(12,.pointer (pb b38)),(13,.slice A58 l60.length c59)]→Sm W F w' F23 [box b38 #[iv ((nth qK.z y x22).f0),iv ((nth qK.z y x22).f1),iv ((nth qK.z y x22).f2)] 279,row Ar3_i64.k 280 (.slice A16 l18.length c17) l18,row ki 3 (.slice A19 l21.length c20) l21,row Ar3_i64.k 280 (.slice A58 l60.length c59) l60]→qD.j61 kq62 x y z p l18 l21 x22 l60=some r→K46 a w':=by
  intro kq62 hkq G A58 c59 l60 a u65 E A S H
  obtain _ | k63:=kq62
  exact zz H
  rw [qD.j61_s]at H
  obtain ⟨J,E⟩:=E.at A
  refine hK46 _ _ (sq fun K66 hK66=>rr E fun a E=>(wp_block ?_))
  refine wp_loop_ghost (fun kq79 a w'=>∃(G:NV)(A70:OA)(c71:Nat)(l72:List Int)(A73:OA)(c74:Nat)(l75:List Ar3_i64)(x76:Int)(F77:World),kq79≤k63∧Env 144 G a∧At G [(0,.slice A0_0 x.length c0_0),(1,.slice (some ad34) y.length c1_0),(2,iv z),(3,iv p),(9,.slice A16 l18.length c17),(10,.slice A70 l72.length c71),(11,iv x22),(12,.pointer (pb b38)),(13,.slice A73 l75.length c74),(14,iv x76)]∧Sm W F w' F77 [box b38 #[iv ((nth qK.z y x22).f0),iv ((nth qK.z y x22).f1),iv ((nth qK.z y x22).f2)] 279,row Ar3_i64.k 280 (.slice A16 l18.length c17) l18,row ki 3 (.slice A70 l72.length c71) l72,row Ar3_i64.k 280 (.slice A73 l75.length c74) l75]∧Rd qA.k F77 A0_0 c0_0 x∧Rd qK.k F77 (some ad34) c1_0 y∧qD.l78 kq79 x y z p l18 x22 l72 l75 x76=some r) k63 ⟨_,A19,c20,l21,A58,c59,l60,0,F23,Nat.le_refl _,E,.of,S,g0_0,g1_0,H⟩ ?_
  rintro kq79 a u81 ⟨G,A70,c71,l72,A73,c74,l75,x76,F77,hkq,E,A,S,g0_0,g1_0,H⟩
  obtain _ | k80:=kq79
  exact zz H
  rw [qD.l78_s]at H
  obtain ⟨J,E⟩:=E.at A
  refine sq fun K82 hK82=>rr E fun a E=>(E.ik 45 H (fun c84 E H=>?_) fun c84 E H=>?_)
  refine wp_skip (hK82 _ _ (sq fun K85 hK85=>wp_block (sq fun K86 hK86=>pl0 ?_)))
  obtain ⟨c87,H⟩:=gd H
  have hr88:=S.ra 1
  have hE_:=E
  obtain ⟨b89,rfl⟩:=qCP hr88 c87.1 c87.2
  replace E:=hE_
  have hr_:=S.ra 1
  obtain ⟨cs91,rfl,hc92⟩:=qCO hr_ Ar3_i64.z x76 c87.1 c87.2
  refine plc E (.r 0 2<|.x 2 c87<|.cs 3 hc92<|.nil) (fun a E=>pla (t:=280) E S [iv 0,iv 0,iv 0] fun b93 u94 hb93 S a E=>pls E S [iv ((nth Ar3_i64.z l18 x76).f0),iv ((nth Ar3_i64.z l18 x76).f1),iv ((nth Ar3_i64.z l18 x76).f2)] fun u95 hb93 S a E=>pld (hK86 _ _ (sq fun K96 hK96=>sq fun K97 hK97=>pl0 ?_)))
  have hb38:=S.ba 1
  refine plc E (.r 0 1<|.b 1 0 hb38<|.r 2 1<|.nil) (fun a E=>pld (hK97 _ _ (E.ik 54 H (fun c98 E H=>?_) fun c98 E H=>?_)))
  refine rr E fun a E=>(sq fun K100 hK100=>rr E fun a E=>(wp_block ?_))
  refine wp_loop_ghost (fun kq105 a w'=>∃(G:NV)(y102:Bool)(x103:Int),kq105≤k80∧Env 144 G a∧At G [(0,.slice A0_0 x.length c0_0),(1,.slice (some ad34) y.length c1_0),(2,iv z),(3,iv p),(9,.slice (pb b89) l18.length c17),(10,.slice A70 l72.length c71),(11,iv x22),(12,.pointer (pb b38)),(13,.slice A73 l75.length c74),(14,iv x76),(15,.pointer (pb b93)),(16,.bool y102),(17,iv x103)]∧Sm W F w' F77 [box b93 #[iv ((nth Ar3_i64.z l18 x76).f0),iv ((nth Ar3_i64.z l18 x76).f1),iv ((nth Ar3_i64.z l18 x76).f2)] 280,box b38 #[iv ((nth qK.z y x22).f0),iv ((nth qK.z y x22).f1),iv ((nth qK.z y x22).f2)] 279,row Ar3_i64.k 280 (.slice (pb b89) l18.length c17) l18,row ki 3 (.slice A70 l72.length c71) l72,row Ar3_i64.k 280 (.slice A73 l75.length c74) l75]∧qD.l104 kq105 x y z p l18 x22 l72 l75 x76 y102 x103=some r) k80 ⟨_,false,0,Nat.le_refl _,E,.of,S,H⟩ ?_
  rintro kq105 a u107 ⟨G,y102,x103,hkq,E,A,S,H⟩
  obtain _ | k106:=kq105
  exact zz H
  rw [qD.l104_s]at H
  obtain ⟨J,E⟩:=E.at A
  refine sq fun K108 hK108=>rr E fun a E=>(E.ik 58 H (fun c110 E H=>?_) fun c110 E H=>?_)
  refine wp_skip (hK108 _ _ (sq fun K111 hK111=>wp_block ?_))
  refine drawn 11 ⟨[],[],fun q=>False⟩ mixed rfl (by kernel_rfl) (fun hst=>?_)
  replace S:=S.drew
  refine mny 9 hst E (.r 0 2 .nil) (fun a E=>?_)
  refine E.fb 16 H (fun c112 E H=>?_) fun c112 E H=>?_
  replace E:=E.bt 62 c112
  refine mny 0 hst E (.r 2 9 .nil) (fun a E=>?_)
  refine dn ?_
  refine qCL ?_
  refine hK111 _ _ (pl0 (plc E (.r 0 3 .nil) (fun a E=>pld ?_)))
  exact qCM ⟨k106,by omega,_,true,(w64 (x103+1)),by omega,E,.of,S,H⟩
  replace E:=E.bf 62 c112
  obtain ⟨c113,H⟩:=gd H
  have hr114:=S.ra 3
  have hE_:=E
  obtain ⟨b115,rfl⟩:=qCP hr114 c113.1 c113.2
  replace E:=hE_
  have hr_:=S.ra 3
  obtain ⟨cs117,rfl,hc118⟩:=qCO hr_ 0 x103 c113.1 c113.2
  have hb93:=S.ba 0
  refine mny 0 hst E (.r 2 2<|.x 4 c113<|.c 5 (hc118 0 _ rfl)<|.r 6 1<|.b 7 2 hb93<|.r 8 3<|.nil) (fun a E=>?_)
  refine dn ?_
  refine qCL ?_
  refine hK111 _ _ (pl0 (plc E (.r 0 3 .nil) (fun a E=>pld ?_)))
  exact qCM ⟨k106,by omega,_,((nth 0 l72 x103) == (nth Ar3_i64.z l18 x76).f2),(w64 (x103+1)),by omega,E,.of,S,H⟩
  refine wp_exit ?_
  refine hK100 _ _ (sq fun K119 hK119=>sq fun K120 hK120=>?_)
  have J126:∀ kq124,kq124≤k106→∀(G:NV)(y122:Bool)(a:Act)(w':World),Env 144 G a→At G [(0,.slice A0_0 x.length c0_0),(1,.slice (some ad34) y.length c1_0),(2,iv z),(3,iv p),(9,.slice (pb b89) l18.length c17),(10,.slice A70 l72.length c71),(11,iv x22),(12,.pointer (pb b38)),(13,.slice A73 l75.length c74),(14,iv x76),(15,.pointer (pb b93)),(78,.bool y122)]→Sm W F w' F77 [box b93 #[iv ((nth Ar3_i64.z l18 x76).f0),iv ((nth Ar3_i64.z l18 x76).f1),iv ((nth Ar3_i64.z l18 x76).f2)] 280,box b38 #[iv ((nth qK.z y x22).f0),iv ((nth qK.z y x22).f1),iv ((nth qK.z y x22).f2)] 279,row Ar3_i64.k 280 (.slice (pb b89) l18.length c17) l18,row ki 3 (.slice A70 l72.length c71) l72,row Ar3_i64.k 280 (.slice A73 l75.length c74) l75]→qD.j123 kq124 x y z p l18 x22 l72 l75 x76 y122=some r→K120 a w':=by
   intro kq124 hkq G y122 a u127 E A S H
   obtain _ | k125:=kq124
   exact zz H
   rw [qD.j123_s]at H
   obtain ⟨J,E⟩:=E.at A
   refine hK120 _ _ (E.ib 78 H (fun c128 E H=>?_) fun c128 E H=>?_)
   refine pl0 (plc E (.r 0 2<|.b 2 2 (S.ba 0)<|.nil) (fun a E=>ple E (.lit (d:=ki) (e:=3) S [(nth Ar3_i64.z l18 x76).f2] (.cons rfl .nil)) ?_))
   rintro _ u129 a ⟨A130,c131,rfl,S,hg⟩ E
   obtain ⟨c133,H⟩:=gd H
   replace S:=S.front 4 rfl
   refine ple E (.ap (d:=ki) 8 S (qCX (S.row_at (i:=1) rfl)) c133 c131) ?_
   rintro _ u136 a ⟨A134,c135,rfl,S,hz⟩ E
   refine plc E (.r 5 1 .nil) (fun a E=>pld (hK119 _ _ ?_))
   refine wp_exit ?_
   refine hK85 _ _ (pl0 (plc E (.r 0 3 .nil) (fun a E=>pld ?_)))
   replace S:=S.pm [3,4,0] 5
   exact qCM ⟨k125,by omega,_,A134,c135,(l72++[(nth Ar3_i64.z l18 x76).f2]),A73,c74,l75,(w64 (x76+1)),F77,by omega,E,.of,S,g0_0,g1_0,H⟩
   refine wp_skip (hK119 _ _ ?_)
   refine wp_exit ?_
   refine hK85 _ _ (pl0 (plc E (.r 0 3 .nil) (fun a E=>pld ?_)))
   replace S:=S.tail
   exact qCM ⟨k125,by omega,_,A70,c71,l72,A73,c74,l75,(w64 (x76+1)),F77,by omega,E,.of,S,g0_0,g1_0,H⟩
  refine pl0 (plc E (.r 0 3 .nil) (fun a E=>E.fbn 73 H (fun c121 E H=>?_) fun c121 E H=>?_))
  refine plc E (.r 3 5 .nil) (fun a E=>pld ?_)
  exact J126 _ (by omega) _ false _ _ E .of S H
  refine plc E (.r 3 5 .nil) (fun a E=>pld ?_)
  exact J126 _ (by omega) _ (decide ((l72.length:Int)<p)) _ _ E .of S H
  refine wp_skip (hK96 _ _ (sq fun K137 hK137=>pl0 (plc E (.r 0 2<|.b 2 0 hb93<|.r 3 1<|.b 4 1 hb93<|.nil) (fun a E=>?_))))
  obtain ⟨t139,h140,H⟩:=bd H
  refine ple E (.cl en238 (qg.calls k80 x ((nth Ar3_i64.z l18 x76).f0) ((nth Ar3_i64.z l18 x76).f1) _ _ _ _ _ S.own.sub g0_0 h140)) ?_
  rintro _ u138 a ⟨F141,A142,c143,rfl,hC⟩ E
  have hs:=hC.sub
  replace S:=S.called (X:=[]) hC
  replace g0_0:=g0_0.mono hs
  replace g1_0:=g1_0.mono hs
  refine plc E (.r 6 1 .nil) (fun a E=>pld (hK137 _ _ (sq fun K146 hK146=>?_)))
  have J165:∀ kq163,kq163≤k80→∀(G:NV)(A158:OA)(c159:Nat)(l160:List qB)(F161:World)(a:Act)(w':World),Env 144 G a→At G [(0,.slice A0_0 x.length c0_0),(1,.slice (some ad34) y.length c1_0),(2,iv z),(3,iv p),(9,.slice (pb b89) l18.length c17),(10,.slice A70 l72.length c71),(11,iv x22),(12,.pointer (pb b38)),(13,.slice A73 l75.length c74),(14,iv x76),(15,.pointer (pb b93)),(18,.slice A158 l160.length c159)]→Sm W F w' F161 [box b93 #[iv ((nth Ar3_i64.z l18 x76).f0),iv ((nth Ar3_i64.z l18 x76).f1),iv ((nth Ar3_i64.z l18 x76).f2)] 280,box b38 #[iv ((nth qK.z y x22).f0),iv ((nth qK.z y x22).f1),iv ((nth qK.z y x22).f2)] 279,row Ar3_i64.k 280 (.slice (pb b89) l18.length c17) l18,row ki 3 (.slice A70 l72.length c71) l72,row Ar3_i64.k 280 (.slice A73 l75.length c74) l75,row qB.k 306 (.slice A158 l160.length c159) l160]→Rd qA.k F161 A0_0 c0_0 x→Rd qK.k F161 (some ad34) c1_0 y→qD.j162 kq163 x y z p l18 x22 l72 l75 x76 l160=some r→K146 a w':=by
   intro kq163 hkq G A158 c159 l160 F161 a u166 E A S g0_0 g1_0 H
   obtain _ | k164:=kq163
   exact zz H
   rw [qD.j162_s]at H
   obtain ⟨J,E⟩:=E.at A
   refine hK146 _ _ (sq fun K167 hK167=>?_)
   have J186:∀ kq184,kq184≤k164→∀(G:NV)(A179:OA)(c180:Nat)(l181:List qB)(F182:World)(a:Act)(w':World),Env 144 G a→At G [(0,.slice A0_0 x.length c0_0),(1,.slice (some ad34) y.length c1_0),(2,iv z),(3,iv p),(9,.slice (pb b89) l18.length c17),(10,.slice A70 l72.length c71),(11,iv x22),(12,.pointer (pb b38)),(13,.slice A73 l75.length c74),(14,iv x76),(15,.pointer (pb b93)),(18,.slice A179 l181.length c180)]→Sm W F w' F182 [box b93 #[iv ((nth Ar3_i64.z l18 x76).f0),iv ((nth Ar3_i64.z l18 x76).f1),iv ((nth Ar3_i64.z l18 x76).f2)] 280,box b38 #[iv ((nth qK.z y x22).f0),iv ((nth qK.z y x22).f1),iv ((nth qK.z y x22).f2)] 279,row Ar3_i64.k 280 (.slice (pb b89) l18.length c17) l18,row ki 3 (.slice A70 l72.length c71) l72,row Ar3_i64.k 280 (.slice A73 l75.length c74) l75,row qB.k 306 (.slice A179 l181.length c180) l181]→Rd qA.k F182 A0_0 c0_0 x→Rd qK.k F182 (some ad34) c1_0 y→qD.j183 kq184 x y z p l18 x22 l72 l75 x76 l181=some r→K167 a w':=by
    intro kq184 hkq G A179 c180 l181 F182 a u187 E A S g0_0 g1_0 H
    obtain _ | k185:=kq184
    exact zz H
    rw [qD.j183_s]at H
    obtain ⟨J,E⟩:=E.at A
    refine hK167 _ _ (sq fun K188 hK188=>pl0 ?_)
    have hb38:=S.ba 1
    have hb93:=S.ba 0
    refine plc E (.r 0 3<|.b 3 1 hb38<|.r 4 2<|.b 6 0 hb93<|.r 7 2<|.b 9 1 hb93<|.r 10 1<|.nil) (fun a E=>ple E (.lit (d:=(Kn.int .u64)) (e:=117) S [(IntKind.u64.wrap (nth qK.z y x22).f1),(IntKind.u64.wrap (nth Ar3_i64.z l18 x76).f0),(IntKind.u64.wrap (nth Ar3_i64.z l18 x76).f1)] (.cons rfl<|.cons rfl<|.cons rfl .nil)) ?_)
    rintro _ u189 a ⟨A190,c191,rfl,S,hg⟩ E
    obtain ⟨t194,h195,H⟩:=bd H
    refine plq E S en122 (qAH.calls k185 (IntKind.u64.wrap z) [(IntKind.u64.wrap (nth qK.z y x22).f1),(IntKind.u64.wrap (nth Ar3_i64.z l18 x76).f0),(IntKind.u64.wrap (nth Ar3_i64.z l18 x76).f1)] _ _ _ _ _ (Sub.refl _) (S.rd_at (i:=0) rfl) h195) fun u193 S a E=>plc E (.r 13 1 .nil) (fun a E=>?_)
    replace S:=S.front 6 rfl
    obtain ⟨F196,hs,g197,S⟩:=S.give
    replace g0_0:=g0_0.mono hs
    replace g1_0:=g1_0.mono hs
    obtain ⟨t199,h200,H⟩:=bd H
    refine ple E (.cl en241 (qAN.calls k185 t194 l181 _ _ _ _ _ S.own.sub g197 h200)) ?_
    rintro _ u198 a ⟨F201,A202,c203,rfl,hC⟩ E
    have hs:=hC.sub
    replace S:=S.called (X:=[]) hC
    replace g0_0:=g0_0.mono hs
    replace g1_0:=g1_0.mono hs
    replace g197:=g197.mono hs
    refine plc E (.r 15 1 .nil) (fun a E=>pld (hK188 _ _ (rr E fun a E=>(wp_block ?_))))
    replace S:=S.pm [2,3,0] 4
    refine wp_loop_ghost (fun kq213 a w'=>∃(G:NV)(A208:OA)(c209:Nat)(l210:List Ar3_i64)(x211:Int),kq213≤k185∧Env 144 G a∧At G [(0,.slice A0_0 x.length c0_0),(1,.slice (some ad34) y.length c1_0),(2,iv z),(3,iv p),(9,.slice (pb b89) l18.length c17),(10,.slice A70 l72.length c71),(11,iv x22),(12,.pointer (pb b38)),(13,.slice A208 l210.length c209),(14,iv x76),(15,.pointer (pb b93)),(19,.slice A202 t199.length c203),(20,iv x211)]∧Sm W F w' F201 [box b93 #[iv ((nth Ar3_i64.z l18 x76).f0),iv ((nth Ar3_i64.z l18 x76).f1),iv ((nth Ar3_i64.z l18 x76).f2)] 280,box b38 #[iv ((nth qK.z y x22).f0),iv ((nth qK.z y x22).f1),iv ((nth qK.z y x22).f2)] 279,row ki 3 (.slice A202 t199.length c203) t199,row Ar3_i64.k 280 (.slice (pb b89) l18.length c17) l18,row ki 3 (.slice A70 l72.length c71) l72,row Ar3_i64.k 280 (.slice A208 l210.length c209) l210]∧qD.l212 kq213 x y z p l18 x22 l72 x76 t199 l210 x211=some r) k185 ⟨_,A73,c74,l75,0,Nat.le_refl _,E,.of,S,H⟩ ?_
    rintro kq213 a u215 ⟨G,A208,c209,l210,x211,hkq,E,A,S,H⟩
    obtain _ | k214:=kq213
    exact zz H
    rw [qD.l212_s]at H
    obtain ⟨J,E⟩:=E.at A
    refine sq fun K216 hK216=>sq fun K217 hK217=>?_
    have J223:∀ kq221,kq221≤k214→∀(G:NV)(y219:Bool)(a:Act)(w':World),Env 144 G a→At G [(0,.slice A0_0 x.length c0_0),(1,.slice (some ad34) y.length c1_0),(2,iv z),(3,iv p),(9,.slice (pb b89) l18.length c17),(10,.slice A70 l72.length c71),(11,iv x22),(12,.pointer (pb b38)),(13,.slice A208 l210.length c209),(14,iv x76),(15,.pointer (pb b93)),(19,.slice A202 t199.length c203),(20,iv x211),(126,.bool y219)]→Sm W F w' F201 [box b93 #[iv ((nth Ar3_i64.z l18 x76).f0),iv ((nth Ar3_i64.z l18 x76).f1),iv ((nth Ar3_i64.z l18 x76).f2)] 280,box b38 #[iv ((nth qK.z y x22).f0),iv ((nth qK.z y x22).f1),iv ((nth qK.z y x22).f2)] 279,row ki 3 (.slice A202 t199.length c203) t199,row Ar3_i64.k 280 (.slice (pb b89) l18.length c17) l18,row ki 3 (.slice A70 l72.length c71) l72,row Ar3_i64.k 280 (.slice A208 l210.length c209) l210]→qD.j220 kq221 x y z p l18 x22 l72 x76 t199 l210 x211 y219=some r→K217 a w':=by
     intro kq221 hkq G y219 a u224 E A S H
     obtain _ | k222:=kq221
     exact zz H
     rw [qD.j220_s]at H
     obtain ⟨J,E⟩:=E.at A
     refine hK217 _ _ (E.ib 126 H (fun c225 E H=>?_) fun c225 E H=>?_)
     refine wp_skip (hK216 _ _ (sq fun K226 hK226=>wp_block (sq fun K227 hK227=>pl0 (plc E (.bn 0 0 3 (S.ba 0) .nil) (fun a E=>pla (t:=280) E S [iv 0,iv 0,iv 0] fun b228 u229 hb228 S a E=>pls E S [iv ((nth Ar3_i64.z l18 x76).f0),iv ((nth Ar3_i64.z l18 x76).f1),iv ((nth Ar3_i64.z l18 x76).f2)] fun u230 hb228 S a E=>pld (hK227 _ _ (sq fun K231 hK231=>?_)))))))
     have J250:∀ kq248,kq248≤k222→∀(G:NV)(x244:Int)(x245:Int)(x246:Int)(a:Act)(w':World),Env 144 G a→At G [(0,.slice A0_0 x.length c0_0),(1,.slice (some ad34) y.length c1_0),(2,iv z),(3,iv p),(9,.slice (pb b89) l18.length c17),(10,.slice A70 l72.length c71),(11,iv x22),(12,.pointer (pb b38)),(13,.slice A208 l210.length c209),(14,iv x76),(15,.pointer (pb b93)),(19,.slice A202 t199.length c203),(20,iv x211),(21,.pointer (pb b228))]→Sm W F w' F201 [box b228 #[iv x244,iv x245,iv x246] 280,box b93 #[iv ((nth Ar3_i64.z l18 x76).f0),iv ((nth Ar3_i64.z l18 x76).f1),iv ((nth Ar3_i64.z l18 x76).f2)] 280,box b38 #[iv ((nth qK.z y x22).f0),iv ((nth qK.z y x22).f1),iv ((nth qK.z y x22).f2)] 279,row ki 3 (.slice A202 t199.length c203) t199,row Ar3_i64.k 280 (.slice (pb b89) l18.length c17) l18,row ki 3 (.slice A70 l72.length c71) l72,row Ar3_i64.k 280 (.slice A208 l210.length c209) l210]→qD.j247 kq248 x y z p l18 x22 l72 x76 t199 l210 x211 x244 x245 x246=some r→K231 a w':=by
      intro kq248 hkq G x244 x245 x246 a u251 E A S H
      obtain _ | k249:=kq248
      exact zz H
      rw [qD.j247_s]at H
      obtain ⟨J,E⟩:=E.at A
      refine hK231 _ _ (pl0 (plc E (.r 0 1<|.bn 1 0 3 (S.ba 0)<|.nil) (fun a E=>ple E (.lit (d:=Ar3_i64.k) (e:=280) S [(⟨x244,x245,x246⟩:Ar3_i64)] (.cons rfl .nil)) ?_)))
      rintro _ u252 a ⟨A253,c254,rfl,S,hg⟩ E
      obtain ⟨c256,H⟩:=gd H
      replace S:=S.front 7 rfl
      refine ple E (.ap (d:=Ar3_i64.k) 24 S (qCX (S.row_at (i:=1) rfl)) c256 c254) ?_
      rintro _ u259 a ⟨A257,c258,rfl,S,hz⟩ E
      refine plc E (.r 4 1 .nil) (fun a E=>pld ?_)
      refine qCL ?_
      refine hK226 _ _ (pl0 (plc E (.r 0 3 .nil) (fun a E=>pld ?_)))
      replace S:=S.pm [3,4,5,6,7,0] 8
      exact qCM ⟨k249,by omega,_,A257,c258,(l210++[(⟨x244,x245,x246⟩:Ar3_i64)]),(w64 (x211+1)),by omega,E,.of,S,H⟩
     refine drawn 9 ⟨[8],[],fun q=>False⟩ mixed rfl (by kernel_rfl) (fun hst=>?_)
     replace S:=S.drew
     have hb38:=S.ba 2
     obtain ⟨c232,H⟩:=gd H
     have hr233:=S.ra 3
     have hE_:=E
     obtain ⟨b234,rfl⟩:=qCP hr233 c232.1 c232.2
     replace E:=hE_
     have hr_:=S.ra 3
     obtain ⟨cs236,rfl,hc237⟩:=qCO hr_ 0 x211 c232.1 c232.2
     refine mny 2 hst E (.r 0 1<|.b 1 1 hb38<|.r 2 3<|.x 5 c232<|.c 6 (hc237 0 _ rfl)<|.nil) (fun a E=>?_)
     rcases sp H with ⟨c238,H⟩ | ⟨c238,H⟩
     replace E:=E.set (d:=132) (v:=iv 0) (Eq.trans (b:=iv (w64 ((nth qK.z y x22).f1 - 1))) (by kernel_rfl) (congrArg _ c238))
     refine mny 1 hst E (.r 7 1 .nil) (fun a E=>?_)
     refine on1 8 E (.sto S [iv (nth 0 t199 x211),iv ((nth Ar3_i64.z l18 x76).f1),iv ((nth Ar3_i64.z l18 x76).f2)]) ?_
     rintro _ u239 a ⟨rfl,hb228,S,hz⟩ E
     refine ⟨.d,?_⟩
     refine dn ?_
     exact J250 _ (by omega) _ (nth 0 t199 x211) ((nth Ar3_i64.z l18 x76).f1) ((nth Ar3_i64.z l18 x76).f2) _ _ E .of S H
     rcases sp H with ⟨c240,H⟩ | ⟨c240,H⟩
     replace E:=E.set (d:=132) (v:=iv 1) (Eq.trans (b:=iv (w64 ((nth qK.z y x22).f1 - 1))) (by kernel_rfl) (congrArg _ c240))
     refine mny 1 hst E (.r 7 1 .nil) (fun a E=>?_)
     refine on1 8 E (.sto S [iv ((nth Ar3_i64.z l18 x76).f0),iv (nth 0 t199 x211),iv ((nth Ar3_i64.z l18 x76).f2)]) ?_
     rintro _ u241 a ⟨rfl,hb228,S,hz⟩ E
     refine ⟨.d,?_⟩
     refine dn ?_
     exact J250 _ (by omega) _ ((nth Ar3_i64.z l18 x76).f0) (nth 0 t199 x211) ((nth Ar3_i64.z l18 x76).f2) _ _ E .of S H
     rcases sp H with ⟨c242,H⟩ | ⟨c242,H⟩
     replace E:=E.set (d:=132) (v:=iv 2) (Eq.trans (b:=iv (w64 ((nth qK.z y x22).f1 - 1))) (by kernel_rfl) (congrArg _ c242))
     refine mny 1 hst E (.r 7 1 .nil) (fun a E=>?_)
     refine on1 8 E (.sto S [iv ((nth Ar3_i64.z l18 x76).f0),iv ((nth Ar3_i64.z l18 x76).f1),iv (nth 0 t199 x211)]) ?_
     rintro _ u243 a ⟨rfl,hb228,S,hz⟩ E
     refine ⟨.d,?_⟩
     refine dn ?_
     exact J250 _ (by omega) _ ((nth Ar3_i64.z l18 x76).f0) ((nth Ar3_i64.z l18 x76).f1) (nth 0 t199 x211) _ _ E .of S H
     cases (show none=some r from H)
     refine wp_exit ?_
     refine hK85 _ _ (pl0 (plc E (.r 0 3 .nil) (fun a E=>pld ?_)))
     replace S:=S.pm [1] 3
     exact qCM ⟨k222,by omega,_,A70,c71,l72,A208,c209,l210,(w64 (x76+1)),F201,by omega,E,.of,S,g0_0,g1_0,H⟩
    refine pl0 (plc E (.r 0 5 .nil) (fun a E=>E.fk 121 H (fun c218 E H=>?_) fun c218 E H=>?_))
    refine plc E (.r 5 2<|.b 7 2 (S.ba 1)<|.r 8 2<|.nil) (fun a E=>pld ?_)
    exact J223 _ (by omega) _ (decide (x211<(nth qK.z y x22).f2)) _ _ E .of S H
    refine plc E (.r 5 5 .nil) (fun a E=>pld ?_)
    exact J223 _ (by omega) _ false _ _ E .of S H
   refine rg E (.r 0 1<|.b 1 1 (S.ba 1)<|.r 2 1<|.nil) fun a E=>(E.ik 97 H (fun c169 E H=>?_) fun c169 E H=>?_)
   refine pl0 (plc E (.r 0 2<|.b 2 0 (S.ba 0)<|.nil) (fun a E=>?_))
   obtain ⟨t171,h172,H⟩:=bd H
   refine ple E (.cl en240 (qAJ.calls k164 x ((nth Ar3_i64.z l18 x76).f0) _ _ _ _ _ S.own.sub g0_0 h172)) ?_
   rintro _ u170 a ⟨F173,A174,c175,rfl,hC⟩ E
   have hs:=hC.sub
   replace S:=S.called (X:=[]) hC
   replace g0_0:=g0_0.mono hs
   replace g1_0:=g1_0.mono hs
   refine plc E (.r 4 1 .nil) (fun a E=>pld ?_)
   replace S:=S.pm [1,2,3,4,5,0] 7
   exact J186 _ (by omega) _ A174 c175 t171 F173 _ _ E .of S g0_0 g1_0 H
   refine wp_skip ?_
   exact J186 _ (by omega) _ A158 c159 l160 F161 _ _ E .of S g0_0 g1_0 H
  refine rg E (.r 0 1<|.b 1 1 (S.ba 2)<|.r 2 1<|.nil) fun a E=>(E.ik 92 H (fun c148 E H=>?_) fun c148 E H=>?_)
  refine pl0 (plc E (.r 0 1 .nil) (fun a E=>?_))
  obtain ⟨t150,h151,H⟩:=bd H
  refine ple E (.cl en239 (qAL.calls k80 x _ _ _ _ _ S.own.sub g0_0 h151)) ?_
  rintro _ u149 a ⟨F152,A153,c154,rfl,hC⟩ E
  have hs:=hC.sub
  replace S:=S.called (X:=[]) hC
  replace g0_0:=g0_0.mono hs
  replace g1_0:=g1_0.mono hs
  refine plc E (.r 2 1 .nil) (fun a E=>pld ?_)
  replace S:=S.pm [2,3,4,5,6,0] 7
  exact J165 _ (by omega) _ A153 c154 t150 F152 _ _ E .of S g0_0 g1_0 H
  refine wp_skip ?_
  replace S:=S.pm [1,2,3,4,5,0] 6
  exact J165 _ (by omega) _ A142 c143 t139 F141 _ _ E .of S g0_0 g1_0 H
  refine wp_exit ?_
  refine hK66 _ _ (pl0 (plc E (.r 0 2 .nil) (fun a E=>pld ?_)))
  refine qCL ?_
  refine hK31 _ _ (pl0 (plc E (.r 0 3 .nil) (fun a E=>pld ?_)))
  replace S:=S.pm [3,2] 4
  exact qCM ⟨k80,by omega,_,A73,c74,l75,A70,c71,l72,(w64 (x22+1)),F77,by omega,E,.of,S,g0_0,g1_0,H⟩
 refine rg E (.r 0 1<|.b 1 0 (S.ba 1)<|.r 2 1<|.nil) fun a E=>(E.ik 37 H (fun c48 E H=>?_) fun c48 E H=>?_)
 refine pl0 (plc E (.r 0 2 .nil) (fun a E=>ple E (.lit (d:=Ar3_i64.k) (e:=280) S [(⟨0,0,0⟩:Ar3_i64)] (.cons rfl .nil)) ?_))
 rintro _ u49 a ⟨A50,c51,rfl,S,hg⟩ E
 obtain ⟨c53,H⟩:=gd H
 replace S:=S.front 1 rfl
 refine ple E (.ap (d:=Ar3_i64.k) 24 S (qCX (S.row_at (i:=1) rfl)) c53 c51) ?_
 rintro _ u56 a ⟨A54,c55,rfl,S,hz⟩ E
 refine plc E (.r 4 1 .nil) (fun a E=>pld ?_)
 replace S:=S.pm [2,3,4,0] 5
 exact J64 _ (by omega) _ A54 c55 (([]:List Ar3_i64)++[(⟨0,0,0⟩:Ar3_i64)]) _ _ E .of S H
 refine wp_skip ?_
 replace S:=S.pm [1,2,3,0] 4
 exact J64 _ (by omega) _ A43 c44 ([]:List Ar3_i64) _ _ E .of S H
 refine wp_exit ?_
 refine hK12 _ _ (rr E fun a E=>(wp_ret ?_))
 replace S:=S.tail
 obtain rfl:=si H
 exact rt1 E ⟨_,rfl,_,_,_,rfl,S⟩
def qAQ.j12:Nat→List qA→Int→Int→Bool→Option (List Int)
 | 0,_,_,_,_=>none
 | k+1,x,y,z,y11=>if y11=true then (some []) else ((qAw.f z).bind fun t22=>((qD.f k x t22 y z).bind fun t32=>(some t32)))
theorem qAQ.j12_s k x y z y11:type_of% (qAQ.j12.eq_2 x y z y11 k):=qAQ.j12.eq_2 x y z y11 k
def qAQ.f(k:Nat)(x:List qA)(y:Int)(z:Int):Option (List Int):=(qh.f k x).bind fun t5=>(if t5=true then (if y<0 then (qAQ.j12 k x y z true) else (if y>7 then (qAQ.j12 k x y z true) else (if z<1 then (qAQ.j12 k x y z true) else (qAQ.j12 k x y z (decide (z>3)))))) else (qAQ.j12 k x y z true))
def qAQ.Post(W F:World)(r:List Int)(v:Value)(w':World):Prop:=∃(F':World)(RA0_0:OA)(rc0_0:Nat),v = .slice RA0_0 r.length rc0_0∧Sm W F w' F' [row ki 3 (.slice RA0_0 r.length rc0_0) r]
theorem qAQ.calls(k:Nat)(x:List qA)(y:Int)(z:Int)(A0_0:OA)(c0_0:Nat)(r:List Int)(W F:World)(hown:Sub F W)(g0_0:Rd qA.k F A0_0 c0_0 x)(H:qAQ.f k x y z=some r):
    Cr 164 #[.slice A0_0 x.length c0_0,iv y,iv z] W (qAQ.Post W F r):=by
 have S:=sT hown
 unfold qAQ.f at H
 refine ent 32 rfl rfl rfl (fun a E=>?_)
 refine rr E fun a E=>(sq fun K2 hK2=>sq fun K3 hK3=>?_)
 have J15:∀ kq13,kq13≤k→∀(G:NV)(y11:Bool)(a:Act)(w':World),Env 32 G a→At G [(0,.slice A0_0 x.length c0_0),(1,iv y),(2,iv z),(25,.bool y11)]→Sm W F w' F []→qAQ.j12 kq13 x y z y11=some r→K3 a w':=by
  intro kq13 hkq G y11 a u16 E A S H
  obtain _ | k14:=kq13
  exact zz H
  rw [qAQ.j12_s]at H
  obtain ⟨J,E⟩:=E.at A
  refine hK3 _ _ (E.ib 25 H (fun c17 E H=>?_) fun c17 E H=>?_)
  refine rr E fun a E=>(wp_ret (qCJ ?_))
  replace S:=S.nilrow ki 3
  obtain rfl:=si H
  exact rt1 E ⟨_,rfl,_,_,_,rfl,S⟩
  refine wp_skip (hK2 _ _ (sq fun K20 hK20=>pl0 (plc E (.r 0 2 .nil) (fun a E=>?_))))
  obtain ⟨t22,h23,H⟩:=bd H
  refine ple E (.cl en201 (qAw.calls z _ _ _ S.own.sub h23)) ?_
  rintro _ u21 a ⟨F24,A25,c26,rfl,hC⟩ E
  have hs:=hC.sub
  replace S:=S.called (X:=[]) hC
  replace g0_0:=g0_0.mono hs
  refine plc E (.r 3 2 .nil) (fun a E=>?_)
  obtain ⟨F29,hs,g30,S⟩:=S.give
  replace g0_0:=g0_0.mono hs
  obtain ⟨t32,h33,H⟩:=bd H
  refine ple E (.cl en200 (qD.calls k14 x t22 y z _ _ _ _ _ _ _ S.own.sub g0_0 g30 h33)) ?_
  rintro _ u31 a ⟨F34,A35,c36,rfl,hC⟩ E
  have hs:=hC.sub
  replace S:=S.called (X:=[]) hC
  replace g0_0:=g0_0.mono hs
  replace g30:=g30.mono hs
  refine plc E (.r 6 1 .nil) (fun a E=>pld (hK20 _ _ (wp_ret ?_)))
  obtain rfl:=si H
  exact rt1 E ⟨_,rfl,_,_,_,rfl,S⟩
 refine pl0 (plc E (.r 0 1 .nil) (fun a E=>?_))
 obtain ⟨t5,h6,H⟩:=bd H
 refine plq E S en39 (qh.calls k x _ _ _ _ _ S.own.sub g0_0 h6) fun u4 S a E=>plc E (.r 2 2 .nil) (fun a E=>E.fbn 10 H (fun c7 E H=>?_) fun c7 E H=>?_)
 refine plc E (.r 4 4 .nil) (fun a E=>E.fk 14 H (fun c8 E H=>?_) fun c8 E H=>?_)
 refine plc E (.r 8 11 .nil) (fun a E=>pld ?_)
 exact J15 _ (by omega) _ true _ _ E .of S H
 refine plc E (.r 8 4 .nil) (fun a E=>E.fk 18 H (fun c9 E H=>?_) fun c9 E H=>?_)
 refine plc E (.r 12 7 .nil) (fun a E=>pld ?_)
 exact J15 _ (by omega) _ true _ _ E .of S H
 refine plc E (.r 12 4 .nil) (fun a E=>E.fk 22 H (fun c10 E H=>?_) fun c10 E H=>?_)
 refine plc E (.r 16 3 .nil) (fun a E=>pld ?_)
 exact J15 _ (by omega) _ true _ _ E .of S H
 refine plc E (.r 16 3 .nil) (fun a E=>pld ?_)
 exact J15 _ (by omega) _ (decide (z>3)) _ _ E .of S H
 refine plc E (.r 4 15 .nil) (fun a E=>pld ?_)
 exact J15 _ (by omega) _ true _ _ E .of S H
def qAR.j12:Nat→qF→Int→Bool→Option (List Int)
 | 0,_,_,_=>none
 | k+1,x,y,y11=>if y11=true then (some []) else ((qAT.f k x y).bind fun t22=>(if (t22.length:Int)>0 then (some t22) else ((qAQ.f k x.f4 y x.f1).bind fun t33=>(some t33))))
theorem qAR.j12_s k x y y11:type_of% (qAR.j12.eq_2 x y y11 k):=qAR.j12.eq_2 x y y11 k
def qAR.f(k:Nat)(x:qF)(y:Int):Option (List Int):=(qY.f k x).bind fun t7=>(if t7=true then (if y<0 then (qAR.j12 k x y true) else (qAR.j12 k x y (decide (y≥x.f3)))) else (qAR.j12 k x y true))
def qAR.Post(W F:World)(r:List Int)(v:Value)(w':World):Prop:=∃(F':World)(RA0_0:OA)(rc0_0:Nat),v = .slice RA0_0 r.length rc0_0∧Sm W F w' F' []∧Rd ki F' RA0_0 rc0_0 r
theorem qAR.calls(k:Nat)(x:qF)(y:Int)(A0_4:OA)(c0_4:Nat)(A0_5:OA)(c0_5:Nat)(A0_6:OA)(c0_6:Nat)(r:List Int)(W F:World)(hown:Sub F W)(g0_4:Rd qA.k F A0_4 c0_4 x.f4)(g0_5:Rd qI.k F A0_5 c0_5 x.f5)(g0_6:Rd qC.k F A0_6 c0_6 x.f6)(H:qAR.f k x y=some r):
    Cr 120 #[.agg #[iv x.f0,iv x.f1,iv x.f2,iv x.f3,.slice A0_4 x.f4.length c0_4,.slice A0_5 x.f5.length c0_5,.slice A0_6 x.f6.length c0_6],iv y] W (qAR.Post W F r):=by
 have S:=sT hown
 unfold qAR.f at H
 refine ent 32 rfl rfl rfl (fun a E=>?_)
 refine sq fun K1 hK1=>pl0 (plx (t:=27) E S [iv x.f0,iv x.f1,iv x.f2,iv x.f3,.slice A0_4 x.f4.length c0_4,.slice A0_5 x.f5.length c0_5,.slice A0_6 x.f6.length c0_6] fun b2 u3 hb2 S a E=>plc E (.r 1 1 .nil) (fun a E=>pld (hK1 _ _ (sq fun K4 hK4=>sq fun K5 hK5=>?_))))
 have J15:∀ kq13,kq13≤k→∀(G:NV)(y11:Bool)(a:Act)(w':World),Env 32 G a→At G [(1,iv y),(2,.pointer (pb b2)),(18,.bool y11)]→Sm W F w' F [box b2 #[iv x.f0,iv x.f1,iv x.f2,iv x.f3,.slice A0_4 x.f4.length c0_4,.slice A0_5 x.f5.length c0_5,.slice A0_6 x.f6.length c0_6] 27]→qAR.j12 kq13 x y y11=some r→K5 a w':=by
  intro kq13 hkq G y11 a u16 E A S H
  obtain _ | k14:=kq13
  exact zz H
  rw [qAR.j12_s]at H
  obtain ⟨J,E⟩:=E.at A
  refine hK5 _ _ (E.ib 18 H (fun c17 E H=>?_) fun c17 E H=>?_)
  refine rr E fun a E=>(wp_ret (qCJ ?_))
  replace S:=S.tail
  obtain rfl:=si H
  exact rt1 E ⟨_,rfl,_,_,_,rfl,S,(Rd.nil _ _)⟩
  refine wp_skip (hK4 _ _ (sq fun K19 hK19=>sq fun K20 hK20=>pl0 (plc E (.bn 0 0 7 (S.ba 0)<|.r 1 1<|.nil) (fun a E=>?_))))
  obtain ⟨t22,h23,H⟩:=bd H
  refine ple E (.cl en163 (qAT.calls k14 x y _ _ _ _ _ _ _ _ _ S.own.sub g0_4 g0_5 g0_6 h23)) ?_
  rintro _ u21 a ⟨F24,A25,c26,rfl,hC,g27⟩ E
  have hs:=hC.sub
  replace S:=S.called (X:=[]) hC
  replace g0_4:=g0_4.mono hs
  replace g0_5:=g0_5.mono hs
  replace g0_6:=g0_6.mono hs
  refine plc E (.r 3 1 .nil) (fun a E=>pld (hK20 _ _ (rr E fun a E=>(E.ik 24 H (fun c29 E H=>?_) fun c29 E H=>?_))))
  refine rr E fun a E=>(wp_ret (qCJ ?_))
  replace S:=S.tail
  obtain rfl:=si H
  exact rt1 E ⟨_,rfl,_,_,_,rfl,S,g27⟩
  refine wp_skip (hK19 _ _ (sq fun K31 hK31=>pl0 ?_))
  have hb2:=S.ba 0
  refine plc E (.r 0 1<|.b 1 4 hb2<|.r 2 2<|.b 4 1 hb2<|.nil) (fun a E=>?_)
  obtain ⟨t33,h34,H⟩:=bd H
  refine ple E (.cl en164 (qAQ.calls k14 x.f4 y x.f1 _ _ _ _ _ S.own.sub g0_4 h34)) ?_
  rintro _ u32 a ⟨F35,A36,c37,rfl,hC⟩ E
  have hs:=hC.sub
  replace S:=S.called (X:=[]) hC
  replace g27:=g27.mono hs
  replace g0_4:=g0_4.mono hs
  replace g0_5:=g0_5.mono hs
  replace g0_6:=g0_6.mono hs
  refine plc E (.r 6 1 .nil) (fun a E=>pld (hK31 _ _ (wp_ret ?_)))
  obtain ⟨F40,hs,g41,S⟩:=S.give
  replace g27:=g27.mono hs
  replace g0_4:=g0_4.mono hs
  replace g0_5:=g0_5.mono hs
  replace g0_6:=g0_6.mono hs
  replace S:=S.tail
  obtain rfl:=si H
  exact rt1 E ⟨_,rfl,_,_,_,rfl,S,g41⟩
 refine pl0 (plc E (.bn 0 0 7 hb2 .nil) (fun a E=>?_))
 obtain ⟨t7,h8,H⟩:=bd H
 refine plq E S en12 (qY.calls k x _ _ _ _ _ _ _ _ _ S.own.sub g0_4 g0_5 g0_6 h8) fun u6 S a E=>plc E (.r 2 2 .nil) (fun a E=>E.fbn 9 H (fun c9 E H=>?_) fun c9 E H=>?_)
 refine plc E (.r 4 4 .nil) (fun a E=>E.fk 13 H (fun c10 E H=>?_) fun c10 E H=>?_)
 refine plc E (.r 8 5 .nil) (fun a E=>pld ?_)
 exact J15 _ (by omega) _ true _ _ E .of S H
 refine plc E (.r 8 2<|.b 10 3 (S.ba 0)<|.r 11 2<|.nil) (fun a E=>pld ?_)
 exact J15 _ (by omega) _ (decide (y≥x.f3)) _ _ E .of S H
 refine plc E (.r 4 9 .nil) (fun a E=>pld ?_)
 exact J15 _ (by omega) _ true _ _ E .of S H
def qAE.l24:Nat→qF→List Int→List Int→Int→Option (List Int)
 | 0,_,_,_,_=>none
 | k+1,x,t6,l22,x23=>if x23<(t6.length:Int) then (if 0≤x23∧x23<(t6.length:Int) then ((qAA.f k x.f4 (nth 0 t6 x23)).bind fun t38=>(if t38.1.f4=true then (if ((l22.length:Int)+((1:Nat):Int)) * 8≤140737488355328 then (qAE.l24 k x t6 (l22++[(nth 0 t6 x23)]) (w64 (x23+1))) else (none)) else (qAE.l24 k x t6 l22 (w64 (x23+1))))) else (none)) else (some l22)
theorem qAE.l24_s k x t6 l22 x23:type_of% (qAE.l24.eq_2 x t6 l22 x23 k):=qAE.l24.eq_2 x t6 l22 x23 k
def qAE.f(k:Nat)(x:qF)(y:Int):Option (List Int):=(qAR.f k x y).bind fun t6=>(qAE.l24 k x t6 ([]:List Int) 0)
def qAE.Post(W F:World)(r:List Int)(v:Value)(w':World):Prop:=∃(F':World)(RA0_0:OA)(rc0_0:Nat),v = .slice RA0_0 r.length rc0_0∧Sm W F w' F' [row ki 3 (.slice RA0_0 r.length rc0_0) r]
theorem qAE.calls(k:Nat)(x:qF)(y:Int)(A0_4:OA)(c0_4:Nat)(A0_5:OA)(c0_5:Nat)(A0_6:OA)(c0_6:Nat)(r:List Int)(W F:World)(hown:Sub F W)(g0_4:Rd qA.k F A0_4 c0_4 x.f4)(g0_5:Rd qI.k F A0_5 c0_5 x.f5)(g0_6:Rd qC.k F A0_6 c0_6 x.f6)(H:qAE.f k x y=some r):
    Cr 55 #[.agg #[iv x.f0,iv x.f1,iv x.f2,iv x.f3,.slice A0_4 x.f4.length c0_4,.slice A0_5 x.f5.length c0_5,.slice A0_6 x.f6.length c0_6],iv y] W (qAE.Post W F r):=by
 have S:=sT hown
 unfold qAE.f at H
 refine ent 40 rfl rfl rfl (fun a E=>?_)
 refine sq fun K1 hK1=>pl0 (plx (t:=27) E S [iv x.f0,iv x.f1,iv x.f2,iv x.f3,.slice A0_4 x.f4.length c0_4,.slice A0_5 x.f5.length c0_5,.slice A0_6 x.f6.length c0_6] fun b2 u3 hb2 S a E=>plc E (.r 1 1 .nil) (fun a E=>pld (hK1 _ _ (sq fun K4 hK4=>pl0 (plc E (.bn 0 0 7 hb2<|.r 1 1<|.nil) (fun a E=>?_))))))
 obtain ⟨t6,h7,H⟩:=bd H
 refine ple E (.cl en120 (qAR.calls k x y _ _ _ _ _ _ _ _ _ S.own.sub g0_4 g0_5 g0_6 h7)) ?_
 rintro _ u5 a ⟨F8,A9,c10,rfl,hC,g11⟩ E
 have hs:=hC.sub
 replace S:=S.called (X:=[]) hC
 replace g0_4:=g0_4.mono hs
 replace g0_5:=g0_5.mono hs
 replace g0_6:=g0_6.mono hs
 refine plc E (.r 3 1 .nil) (fun a E=>pld (hK4 _ _ (sq fun K12 hK12=>pl0 (ple E (.lit (d:=ki) (e:=3) S ([]:List Int) (.nil)) ?_))))
 rintro _ u13 a ⟨A14,c15,rfl,S,hg⟩ E
 refine plc E (.r 1 1 .nil) (fun a E=>pld (hK12 _ _ (sq fun K17 hK17=>rr E fun a E=>(wp_block ?_))))
 replace S:=S.front 1 rfl
 refine wp_loop_ghost (fun kq25 a w'=>∃(G:NV)(A20:OA)(c21:Nat)(l22:List Int)(x23:Int),kq25≤k∧Env 40 G a∧At G [(2,.pointer (pb b2)),(5,.slice A9 t6.length c10),(6,.slice A20 l22.length c21),(7,iv x23)]∧Sm W F w' F8 [box b2 #[iv x.f0,iv x.f1,iv x.f2,iv x.f3,.slice A0_4 x.f4.length c0_4,.slice A0_5 x.f5.length c0_5,.slice A0_6 x.f6.length c0_6] 27,row ki 3 (.slice A20 l22.length c21) l22]∧qAE.l24 kq25 x t6 l22 x23=some r) k ⟨_,A14,c15,([]:List Int),0,Nat.le_refl _,E,.of,S,H⟩ ?_
 rintro kq25 a u27 ⟨G,A20,c21,l22,x23,hkq,E,A,S,H⟩
 obtain _ | k26:=kq25
 exact zz H
 rw [qAE.l24_s]at H
 obtain ⟨J,E⟩:=E.at A
 refine sq fun K28 hK28=>rr E fun a E=>(E.ik 17 H (fun c30 E H=>?_) fun c30 E H=>?_)
 refine wp_skip (hK28 _ _ (sq fun K31 hK31=>wp_block (sq fun K32 hK32=>?_)))
 refine drawn 13 ⟨[11],[],fun q=>False⟩ mixed rfl (by kernel_rfl) (fun hst=>?_)
 replace S:=S.drew
 have hb2:=S.ba 0
 obtain ⟨c33,H⟩:=gd H
 have hE_:=E
 obtain ⟨ad34,rfl⟩:=g11.addr c33.1 c33.2
 replace E:=hE_
 obtain ⟨cs36,rfl,hc37⟩:=g11.el 0 x23 c33.1 c33.2
 refine mny 7 hst E (.r 0 1<|.b 1 4 hb2<|.r 2 2<|.x 4 c33<|.c 5 (S.fc hc37 0)<|.nil) (fun a E=>?_)
 obtain ⟨t38,h39,H⟩:=bd H
 refine meet2 (fun a w'=>∃(G:NV)(b41:Nat),Env 40 G a∧At G [(2,.pointer (pb b2)),(5,.slice (some ad34) t6.length c10),(6,.slice A20 l22.length c21),(7,iv x23),(8,.pointer (pb b41)),(28,.agg #[iv t38.1.f0,iv t38.1.f1,iv t38.1.f2,iv t38.1.f3,.bool t38.1.f4,.bool t38.1.f5]),(29,.bool t38.2)]∧Sm W F w' F8 [box b41 #[iv 0,iv 0,iv 0,iv 0,.bool false,.bool false] 153,box b2 #[iv x.f0,iv x.f1,iv x.f2,iv x.f3,.slice A0_4 x.f4.length c0_4,.slice A0_5 x.f5.length c0_5,.slice A0_6 x.f6.length c0_6] 27,row ki 3 (.slice A20 l22.length c21) l22]) 2 2047 ?_ (fun hJ=>?_)
 rintro a u44 ⟨G,b41,E,A,S⟩
 obtain ⟨J,E⟩:=E.at A
 refine on1 11 E (.sto S [iv t38.1.f0,iv t38.1.f1,iv t38.1.f2,iv t38.1.f3,.bool t38.1.f4,.bool t38.1.f5]) ?_
 rintro _ u45 a ⟨rfl,hb41,S,hz⟩ E
 refine ⟨.d,?_⟩
 refine mny 0 hst E (.r 12 1 .nil) (fun a E=>?_)
 refine dn ?_
 refine hK32 _ _ (rg E (.r 0 1<|.b 1 4 hb41<|.nil) fun a E=>(E.ib 31 H (fun c47 E H=>?_) fun c47 E H=>?_))
 refine pl0 ?_
 obtain ⟨cs49,rfl,hc50⟩:=g11.el 0 x23 c33.1 c33.2
 refine plc E (.r 0 3<|.x 3 c33<|.c 4 (S.fc hc50 0)<|.nil) (fun a E=>ple E (.lit (d:=ki) (e:=3) S [(nth 0 t6 x23)] (.cons rfl .nil)) ?_)
 rintro _ u51 a ⟨A52,c53,rfl,S,hg⟩ E
 obtain ⟨c55,H⟩:=gd H
 replace S:=S.front 3 rfl
 refine ple E (.ap (d:=ki) 8 S (qCX (S.row_at (i:=1) rfl)) c55 c53) ?_
 rintro _ u58 a ⟨A56,c57,rfl,S,hz⟩ E
 refine plc E (.r 7 1 .nil) (fun a E=>pld ?_)
 refine qCL ?_
 refine hK31 _ _ (pl0 (plc E (.r 0 3 .nil) (fun a E=>pld ?_)))
 replace S:=S.pm [3,0] 4
 exact qCM ⟨k26,by omega,_,A56,c57,(l22++[(nth 0 t6 x23)]),(w64 (x23+1)),by omega,E,.of,S,H⟩
 refine wp_skip ?_
 refine qCL ?_
 refine hK31 _ _ (pl0 (plc E (.r 0 3 .nil) (fun a E=>pld ?_)))
 replace S:=S.tail
 exact qCM ⟨k26,by omega,_,A20,c21,l22,(w64 (x23+1)),by omega,E,.of,S,H⟩
 refine pk2 6 10 ?_ ?_
 refine pk1 6 E (.cl en106 (qAA.calls k26 x.f4 (nth 0 t6 x23) _ _ _ _ _ S.own.sub g0_4 h39)) ?_
 rintro _ u40 a ⟨_,rfl,hC⟩ E
 refine ⟨.of hC.agr,?_⟩
 replace S:=S.lent hC
 refine mny 3 hst E (.r 7 3 .nil) (fun a E=>?_)
 refine on1 10 E (.al (t:=153) S [iv 0,iv 0,iv 0,iv 0,.bool false,.bool false]) ?_
 rintro _ u42 a ⟨b41,rfl,hb41,S,hg⟩ E
 refine ⟨.of hg,?_⟩
 exact hJ _ _ ⟨_,b41,E,.of,S⟩
 refine pk1 10 E (.al (t:=153) S [iv 0,iv 0,iv 0,iv 0,.bool false,.bool false]) ?_
 rintro _ u42 a ⟨b41,rfl,hb41,S,hg⟩ E
 refine ⟨.of hg,?_⟩
 refine on1 6 E (.cl en106 (qAA.calls k26 x.f4 (nth 0 t6 x23) _ _ _ _ _ S.own.sub g0_4 h39)) ?_
 rintro _ u40 a ⟨_,rfl,hC⟩ E
 refine ⟨.of hC.agr,?_⟩
 replace S:=S.lent hC
 refine mny 2 hst E (.r 7 3 .nil) (fun a E=>?_)
 exact hJ _ _ ⟨_,b41,E,.of,S⟩
 refine wp_exit ?_
 refine hK17 _ _ (rr E fun a E=>(wp_ret ?_))
 replace S:=S.tail
 obtain rfl:=si H
 exact rt1 E ⟨_,rfl,_,_,_,rfl,S⟩
def qBJ.f(k:Nat)(x:qF)(y:Int):Option Int:=(qAE.f k x y).bind fun t6=>(if (t6.length:Int)>0 then (if 0≤(0:Int)∧0<(t6.length:Int) then (some (nth 0 t6 0)) else (none)) else (some 0))
def qBJ.Post(W F:World)(r:Int)(v:Value)(w':World):Prop:=∃(F':World),v=iv r∧Sm W F w' F' []
theorem qBJ.calls(k:Nat)(x:qF)(y:Int)(A0_4:OA)(c0_4:Nat)(A0_5:OA)(c0_5:Nat)(A0_6:OA)(c0_6:Nat)(r:Int)(W F:World)(hown:Sub F W)(g0_4:Rd qA.k F A0_4 c0_4 x.f4)(g0_5:Rd qI.k F A0_5 c0_5 x.f5)(g0_6:Rd qC.k F A0_6 c0_6 x.f6)(H:qBJ.f k x y=some r):
    Cr 21 #[.agg #[iv x.f0,iv x.f1,iv x.f2,iv x.f3,.slice A0_4 x.f4.length c0_4,.slice A0_5 x.f5.length c0_5,.slice A0_6 x.f6.length c0_6],iv y] W (qBJ.Post W F r):=by
 have S:=sT hown
 unfold qBJ.f at H
 refine ent 15 rfl rfl rfl (fun a E=>?_)
 refine sq fun K1 hK1=>pl0 (plx (t:=27) E S [iv x.f0,iv x.f1,iv x.f2,iv x.f3,.slice A0_4 x.f4.length c0_4,.slice A0_5 x.f5.length c0_5,.slice A0_6 x.f6.length c0_6] fun b2 u3 hb2 S a E=>plc E (.r 1 1 .nil) (fun a E=>pld (hK1 _ _ (sq fun K4 hK4=>pl0 (plc E (.bn 0 0 7 hb2<|.r 1 1<|.nil) (fun a E=>?_))))))
 obtain ⟨t6,h7,H⟩:=bd H
 refine ple E (.cl en55 (qAE.calls k x y _ _ _ _ _ _ _ _ _ S.own.sub g0_4 g0_5 g0_6 h7)) ?_
 rintro _ u5 a ⟨F8,A9,c10,rfl,hC⟩ E
 have hs:=hC.sub
 replace S:=S.called (X:=[]) hC
 replace g0_4:=g0_4.mono hs
 replace g0_5:=g0_5.mono hs
 replace g0_6:=g0_6.mono hs
 refine plc E (.r 3 1 .nil) (fun a E=>pld (hK4 _ _ (sq fun K13 hK13=>rr E fun a E=>(E.ik 11 H (fun c15 E H=>?_) fun c15 E H=>?_))))
 refine sq fun K16 hK16=>pl0 ?_
 obtain ⟨c17,H⟩:=gd H
 have hr18:=S.ra 0
 have hE_:=E
 obtain ⟨b19,rfl⟩:=qCP hr18 c17.1 c17.2
 replace E:=hE_
 have hr_:=S.ra 0
 obtain ⟨cs21,rfl,hc22⟩:=qCO hr_ 0 0 c17.1 c17.2
 refine plc E (.r 0 1<|.x 1 c17<|.c 2 (hc22 0 _ rfl)<|.r 3 1<|.nil) (fun a E=>pld (hK16 _ _ (wp_ret (qCJ ?_))))
 replace S:=S.pm [] 2
 obtain rfl:=si H
 exact rt1 E ⟨_,rfl,_,rfl,S⟩
 refine wp_skip (hK13 _ _ (rr E fun a E=>(wp_ret ?_)))
 replace S:=S.pm [] 2
 obtain rfl:=si H
 exact rt1 E ⟨_,rfl,_,rfl,S⟩
end Go.Proofs.YtpabbpebefdafaaGreat.CN
