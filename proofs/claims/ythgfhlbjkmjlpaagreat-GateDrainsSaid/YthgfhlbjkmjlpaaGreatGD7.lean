import Derived.Test.YthgfhlbjkmjlpaaGreatGD6
namespace Go.Proofs.YthgfhlbjkmjlpaaGreat.GD
open Go Go.RowKit Go.Proofs.YthgfhlbjkmjlpaaGreat.Sl
set_option linter.unusedVariables false
set_option linter.unusedSimpArgs false
set_option maxHeartbeats 4000000
set_option maxRecDepth 100000
mutual
def qz.l7:Nat->Int->List qB->Int->Int->Option (Int × Bool)
 | 0,_,_,_,_=>none
 | k+1,x,y,x5,x6=>if x6<(y.length:Int) then (if 0<=x6/\x6<(y.length:Int) then (if (nth qB.z y x6).f1=0 then (qz.l7 k x y x5 (w64 (x6+1))) else (if x5<0 then (qz.j45 k x y x5 x6 true) else (if 0<=x5/\x5<(y.length:Int) then ((qBJ.f k x ((nth qB.z y x6).f0)).bind fun t39=>((qBJ.f k x ((nth qB.z y x5).f0)).bind fun t42=>(qz.j45 k x y x5 x6 (decide ((w64 (t39 * (nth qB.z y x5).f1))<(w64 (t42 * (nth qB.z y x6).f1))))))) else (none)))) else (none)) else (if x5<0 then (some (0,false)) else (if 0<=x5/\x5<(y.length:Int) then (some ((nth qB.z y x5).f0,true)) else (none)))
def qz.j45:Nat->Int->List qB->Int->Int->Bool->Option (Int × Bool)
 | 0,_,_,_,_,_=>none
 | k+1,x,y,x5,x6,y44=>if y44=true then (qz.l7 k x y x6 (w64 (x6+1))) else (qz.l7 k x y x5 (w64 (x6+1)))
end
theorem qz.l7_s k x y x5 x6:type_of% (qz.l7.eq_2 x y x5 x6 k):=qz.l7.eq_2 x y x5 x6 k
theorem qz.j45_s k x y x5 x6 y44:type_of% (qz.j45.eq_2 x y x5 x6 y44 k):=qz.j45.eq_2 x y x5 x6 y44 k
def qz.f(k:Nat)(x:Int)(y:List qB):Option (Int × Bool):=qz.l7 k x y (-1) 0
def qz.Post(W F:World)(r:Int × Bool)(v:Value)(w':World):Prop:=∃(F':World),v = .tuple #[iv r.1,.bool r.2]/\Sm W F w' F' []
theorem qz.calls(k:Nat)(x:Int)(y:List qB)(A1_0:OA)(c1_0:Nat)(r:Int × Bool)(W F:World)(hown:Sub F W)(g1_0:Rd qB.k F A1_0 c1_0 y)(H:qz.f k x y=some r):
    Cr 144 #[.int .u64 x,.slice A1_0 y.length c1_0] W (qz.Post W F r):=by
 have S:=sT hown
 unfold qz.f at H
 refine ent 59 rfl rfl rfl fun a E=>?_
 refine rr E fun a E=>(rr E fun a E=>(sq fun K3 hK3=>rr E fun a E=>(wp_block ?_)))
 refine wp_loop_ghost (fun kq8 a w'=>∃(G:NV)(x5:Int)(x6:Int),kq8<=k/\Env 59 G a/\At G [(0,.int .u64 x),(1,.slice A1_0 y.length c1_0),(6,iv x5),(7,iv x6)]/\Sm W F w' F []/\qz.l7 kq8 x y x5 x6=some r) k ⟨_,(-1),0,Nat.le_refl _,E,.of,S,H⟩ ?_
 rintro kq8 a u10 ⟨G,x5,x6,hkq,E,A,S,H⟩
 obtain _ | k9:=kq8
 exact zz H
 rw [qz.l7_s]at H
 obtain ⟨J,E⟩:=E.at A
 refine sq fun K11 hK11=>rr E fun a E=>(E.ik 11 H (fun c13 E H=>?_) fun c13 E H=>?_)
 refine wp_skip (hK11 _ _ (sq fun K14 hK14=>wp_block (sq fun K15 hK15=>sq fun K16 hK16=>pl0 ?_)))
 obtain ⟨c17,H⟩:=gd H
 have hE_:=E
 obtain ⟨ad18,rfl⟩:=g1_0.addr c17.1 c17.2
 replace E:=hE_
 obtain ⟨cs20,rfl,hc21⟩:=g1_0.el qB.z x6 c17.1 c17.2
 refine plc E (.r 0 2<|.x 2 c17<|.r 3 1<|.c 4 (S.fc hc21 1)<|.r 5 1<|.nil) fun a E=>pld (hK16 _ _ (E.ik 19 H (fun c22 E H=>?_) fun c22 E H=>?_))
 refine wp_exit ?_
 refine hK14 _ _ (pl0 (plc E (.r 0 3 .nil) fun a E=>pld ?_))
 exact qCf ⟨k9,by omega,_,x5,(w64 (x6+1)),by omega,E,.of,S,H⟩
 refine wp_skip (hK15 _ _ (sq fun K23 hK23=>?_))
 have J48:∀ kq46,kq46<=k9->∀(G:NV)(y44:Bool)(a:Act)(w':World),Env 59 G a->At G [(0,.int .u64 x),(1,.slice (some ad18) y.length c1_0),(6,iv x5),(7,iv x6),(50,.bool y44)]->Sm W F w' F []->qz.j45 kq46 x y x5 x6 y44=some r->K23 a w':=by
  intro kq46 hkq G y44 a u49 E A S H
  obtain _ | k47:=kq46
  exact zz H
  rw [qz.j45_s]at H
  obtain ⟨J,E⟩:=E.at A
  refine hK23 _ _ (E.ib 50 H (fun c50 E H=>?_) fun c50 E H=>?_)
  refine pl0 (plc E (.r 0 2 .nil) fun a E=>pld ?_)
  refine qCe ?_
  refine hK14 _ _ (pl0 (plc E (.r 0 3 .nil) fun a E=>pld ?_))
  exact qCf ⟨k47,by omega,_,x6,(w64 (x6+1)),by omega,E,.of,S,H⟩
  refine wp_skip ?_
  refine qCe ?_
  refine hK14 _ _ (pl0 (plc E (.r 0 3 .nil) fun a E=>pld ?_))
  exact qCf ⟨k47,by omega,_,x5,(w64 (x6+1)),by omega,E,.of,S,H⟩
 refine drawn 31 ⟨[],[],fun q=>False⟩ mixed rfl (by kernel_rfl) fun hst=>?_
 have S:=S.drew
 refine mny 28 hst E (.r 0 3 .nil) fun a E=>?_
 refine E.fk 22 H (fun c24 E H=>?_) fun c24 E H=>?_
 refine mny 0 hst E (.r 3 28 .nil) fun a E=>?_
 refine dn ?_
 exact J48 _ (by omega) _ true _ _ E .of S H
 obtain ⟨c28,H⟩:=gd H
 obtain ⟨cs30,rfl,hc31⟩:=g1_0.el qB.z x5 c28.1 c28.2
 refine mny 6 hst E (.r 3 3<|.x 6 c17<|.r 7 1<|.c 8 (S.fc hc21 0)<|.r 10 2<|.x 12 c28<|.r 13 1<|.c 14 (S.fc hc31 1)<|.r 16 3<|.x 19 c28<|.r 20 1<|.c 21 (S.fc hc31 0)<|.r 23 2<|.x 25 c17<|.r 26 1<|.c 27 (S.fc hc21 1)<|.nil) fun a E=>?_
 obtain ⟨t39,h40,H⟩:=bd H
 refine on1 9 E (.cl en167 (qBJ.calls k9 x ((nth qB.z y x6).f0) _ _ _ S.own.sub h40)) ?_
 rintro _ u38 a ⟨_,rfl,hC⟩ E
 refine ⟨.of hC.agr,?_⟩
 have S:=S.lent hC
 refine mny 4 hst E (.r 15 1 .nil) fun a E=>?_
 obtain ⟨t42,h43,H⟩:=bd H
 refine on1 22 E (.cl en167 (qBJ.calls k9 x ((nth qB.z y x5).f0) _ _ _ S.own.sub h43)) ?_
 rintro _ u41 a ⟨_,rfl,hC⟩ E
 refine ⟨.of hC.agr,?_⟩
 have S:=S.lent hC
 refine mny 0 hst E (.r 28 3 .nil) fun a E=>?_
 refine dn ?_
 exact J48 _ (by omega) _ (decide ((w64 (t39 * (nth qB.z y x5).f1))<(w64 (t42 * (nth qB.z y x6).f1)))) _ _ E .of S H
 refine wp_exit ?_
 refine hK3 _ _ (sq fun K51 hK51=>rr E fun a E=>(E.ik 53 H (fun c53 E H=>?_) fun c53 E H=>?_))
 refine rr E fun a E=>(wp_ret (qCc ?_))
 obtain rfl:=si H
 exact rtN E ⟨_,rfl,_,rfl,S⟩
 refine wp_skip (hK51 _ _ (sq fun K55 hK55=>pl0 ?_))
 obtain ⟨c56,H⟩:=gd H
 have hE_:=E
 obtain ⟨ad57,rfl⟩:=g1_0.addr c56.1 c56.2
 replace E:=hE_
 obtain ⟨cs59,rfl,hc60⟩:=g1_0.el qB.z x5 c56.1 c56.2
 refine plc E (.r 0 2<|.x 2 c56<|.r 3 1<|.c 4 (S.fc hc60 0)<|.r 5 2<|.nil) fun a E=>pld (hK55 _ _ (wp_ret ?_))
 obtain rfl:=si H
 exact rtN E ⟨_,rfl,_,rfl,S⟩
def qAQ.l14:Nat->List qB->Int->List qB->Int->Option (List qB)
 | 0,_,_,_,_=>none
 | k+1,x,y,l12,x13=>if x13<(x.length:Int) then (if 0<=x13/\x13<(x.length:Int) then (if (nth qB.z x x13).f0=y then (qAQ.l14 k x y l12 (w64 (x13+1))) else (if ((l12.length:Int)+((1:Nat):Int)) * 16<=140737488355328 then (qAQ.l14 k x y (l12++[(nth qB.z x x13)]) (w64 (x13+1))) else (none))) else (none)) else (some l12)
theorem qAQ.l14_s k x y l12 x13:type_of% (qAQ.l14.eq_2 x y l12 x13 k):=qAQ.l14.eq_2 x y l12 x13 k
def qAQ.f(k:Nat)(x:List qB)(y:Int):Option (List qB):=qAQ.l14 k x y ([]:List qB) 0
def qAQ.Post(W F:World)(r:List qB)(v:Value)(w':World):Prop:=∃(F':World)(RA0_0:OA)(rc0_0:Nat),v = .slice RA0_0 r.length rc0_0/\Sm W F w' F' [row qB.k 139 (.slice RA0_0 r.length rc0_0) r]
theorem qAQ.calls(k:Nat)(x:List qB)(y:Int)(A0_0:OA)(c0_0:Nat)(r:List qB)(W F:World)(hown:Sub F W)(g0_0:Rd qB.k F A0_0 c0_0 x)(H:qAQ.f k x y=some r):
    Cr 145 #[.slice A0_0 x.length c0_0,iv y] W (qAQ.Post W F r):=by
 have S:=sT hown
 unfold qAQ.f at H
 refine ent 29 rfl rfl rfl fun a E=>?_
 refine rr E fun a E=>(sq fun K2 hK2=>pl0 (ple E (.lit (d:=qB.k) (e:=139) S ([]:List qB) (.nil)) ?_))
 rintro _ u3 a ⟨A4,c5,rfl,S,hg⟩ E
 refine plc E (.r 1 1 .nil) fun a E=>pld (hK2 _ _ (sq fun K7 hK7=>rr E fun a E=>(wp_block ?_)))
 refine wp_loop_ghost (fun kq15 a w'=>∃(G:NV)(A10:OA)(c11:Nat)(l12:List qB)(x13:Int),kq15<=k/\Env 29 G a/\At G [(0,.slice A0_0 x.length c0_0),(1,iv y),(5,.slice A10 l12.length c11),(6,iv x13)]/\Sm W F w' F [row qB.k 139 (.slice A10 l12.length c11) l12]/\qAQ.l14 kq15 x y l12 x13=some r) k ⟨_,A4,c5,([]:List qB),0,Nat.le_refl _,E,.of,S,H⟩ ?_
 rintro kq15 a u17 ⟨G,A10,c11,l12,x13,hkq,E,A,S,H⟩
 obtain _ | k16:=kq15
 exact zz H
 rw [qAQ.l14_s]at H
 obtain ⟨J,E⟩:=E.at A
 refine sq fun K18 hK18=>rr E fun a E=>(E.ik 11 H (fun c20 E H=>?_) fun c20 E H=>?_)
 refine wp_skip (hK18 _ _ (sq fun K21 hK21=>wp_block (sq fun K22 hK22=>pl0 ?_)))
 obtain ⟨c23,H⟩:=gd H
 have hE_:=E
 obtain ⟨ad24,rfl⟩:=g0_0.addr c23.1 c23.2
 replace E:=hE_
 obtain ⟨cs26,rfl,hc27⟩:=g0_0.el qB.z x13 c23.1 c23.2
 refine plc E (.r 0 2<|.x 2 c23<|.r 3 1<|.c 4 (S.fc hc27 0)<|.r 5 2<|.nil) fun a E=>pld (hK22 _ _ (E.ikn 20 H (fun c28 E H=>?_) fun c28 E H=>?_))
 refine wp_skip ?_
 refine qCe ?_
 refine hK21 _ _ (pl0 (plc E (.r 0 3 .nil) fun a E=>pld ?_))
 exact qCf ⟨k16,by omega,_,A10,c11,l12,(w64 (x13+1)),by omega,E,.of,S,H⟩
 refine pl0 (plc E (.r 0 3<|.x 3 c23<|.cs 4 (S.fcs hc27)<|.nil) fun a E=>ple E (.lit (d:=qB.k) (e:=139) S [(nth qB.z x x13)] (.cons rfl .nil)) ?_)
 rintro _ u32 a ⟨A33,c34,rfl,S,hg⟩ E
 obtain ⟨c36,H⟩:=gd H
 have S:=S.front 1 rfl
 refine ple E (.ap (d:=qB.k) 16 S (qCj (S.row_at (i:=1) rfl)) c36 c34) ?_
 rintro _ u39 a ⟨A37,c38,rfl,S,hz⟩ E
 refine plc E (.r 7 1 .nil) fun a E=>pld ?_
 refine qCe ?_
 refine hK21 _ _ (pl0 (plc E (.r 0 3 .nil) fun a E=>pld ?_))
 have S:=S.pm [0] 2
 exact qCf ⟨k16,by omega,_,A37,c38,(l12++[(nth qB.z x x13)]),(w64 (x13+1)),by omega,E,.of,S,H⟩
 refine wp_exit ?_
 refine hK7 _ _ (rr E fun a E=>(wp_ret ?_))
 obtain rfl:=si H
 exact rt1 E ⟨_,rfl,_,_,_,rfl,S⟩
def qAc.l20:Nat->Int->List qB->List qB->List Int->Int->Option (List Int)
 | 0,_,_,_,_,_=>none
 | k+1,x,y,l13,l17,x18=>if x18<(y.length:Int) then ((qz.f k x l13).bind fun t30=>(if t30.2=true then (if ((l17.length:Int)+((1:Nat):Int)) * 8<=140737488355328 then ((qAQ.f k l13 t30.1).bind fun t46=>(qAc.l20 k x y t46 (l17++[t30.1]) (w64 (x18+1)))) else (none)) else (some l17))) else (some l17)
theorem qAc.l20_s k x y l13 l17 x18:type_of% (qAc.l20.eq_2 x y l13 l17 x18 k):=qAc.l20.eq_2 x y l13 l17 x18 k
def qAc.f(k:Nat)(x:Int)(y:List qB):Option (List Int):=qAc.l20 k x y y ([]:List Int) 0
def qAc.Post(W F:World)(r:List Int)(v:Value)(w':World):Prop:=∃(F':World)(RA0_0:OA)(rc0_0:Nat),v = .slice RA0_0 r.length rc0_0/\Sm W F w' F' [row ki 3 (.slice RA0_0 r.length rc0_0) r]
theorem qAc.calls(k:Nat)(x:Int)(y:List qB)(A1_0:OA)(c1_0:Nat)(r:List Int)(W F:World)(hown:Sub F W)(g1_0:Rd qB.k F A1_0 c1_0 y)(H:qAc.f k x y=some r):
    Cr 119 #[.int .u64 x,.slice A1_0 y.length c1_0] W (qAc.Post W F r):=by
 have S:=sT hown
 unfold qAc.f at H
 refine ent 35 rfl rfl rfl fun a E=>?_
 refine rr E fun a E=>(sq fun K2 hK2=>pl0 (ple E (.lit (d:=ki) (e:=3) S ([]:List Int) (.nil)) ?_))
 rintro _ u3 a ⟨A4,c5,rfl,S,hg⟩ E
 refine plc E (.r 1 1 .nil) fun a E=>pld (hK2 _ _ (rr E fun a E=>(sq fun K8 hK8=>rr E fun a E=>(wp_block ?_))))
 refine wp_loop_ghost (fun kq21 a w'=>∃(G:NV)(A11:OA)(c12:Nat)(l13:List qB)(A15:OA)(c16:Nat)(l17:List Int)(x18:Int)(F19:World),kq21<=k/\Env 35 G a/\At G [(0,.int .u64 x),(1,.slice A11 l13.length c12),(5,.slice A15 l17.length c16),(6,iv (y.length:Int)),(7,iv x18)]/\Sm W F w' F19 [row ki 3 (.slice A15 l17.length c16) l17]/\Rd qB.k F19 A11 c12 l13/\qAc.l20 kq21 x y l13 l17 x18=some r) k ⟨_,A1_0,c1_0,y,A4,c5,([]:List Int),0,F,Nat.le_refl _,E,.of,S,g1_0,H⟩ ?_
 rintro kq21 a u23 ⟨G,A11,c12,l13,A15,c16,l17,x18,F19,hkq,E,A,S,g14,H⟩
 obtain _ | k22:=kq21
 exact zz H
 rw [qAc.l20_s]at H
 obtain ⟨J,E⟩:=E.at A
 refine sq fun K24 hK24=>rr E fun a E=>(E.ik 15 H (fun c26 E H=>?_) fun c26 E H=>?_)
 refine wp_skip (hK24 _ _ (sq fun K27 hK27=>wp_block (sq fun K28 hK28=>pl0 (plc E (.r 0 2 .nil) fun a E=>?_))))
 obtain ⟨t30,h31,H⟩:=bd H
 refine plq E S en144 (qz.calls k22 x l13 _ _ _ _ _ S.own.sub g14 h31) fun u29 S a E=>plc E (.r 3 5 .nil) fun a E=>pld (hK28 _ _ (sq fun K32 hK32=>rr E fun a E=>(E.ibn 25 H (fun c34 E H=>?_) fun c34 E H=>?_)))
 refine wp_skip (hK32 _ _ (sq fun K36 hK36=>pl0 (plc E (.r 0 2 .nil) fun a E=>ple E (.lit (d:=ki) (e:=3) S [t30.1] (.cons rfl .nil)) ?_)))
 rintro _ u37 a ⟨A38,c39,rfl,S,hg⟩ E
 obtain ⟨c41,H⟩:=gd H
 have S:=S.front 1 rfl
 refine ple E (.ap (d:=ki) 8 S (qCj (S.row_at (i:=1) rfl)) c41 c39) ?_
 rintro _ u44 a ⟨A42,c43,rfl,S,hz⟩ E
 refine plc E (.r 4 1 .nil) fun a E=>pld (hK36 _ _ (pl0 (plc E (.r 0 2 .nil) fun a E=>?_)))
 obtain ⟨t46,h47,H⟩:=bd H
 refine ple E (.cl en145 (qAQ.calls k22 l13 t30.1 _ _ _ _ _ S.own.sub g14 h47)) ?_
 rintro _ u45 a ⟨F48,A49,c50,rfl,hC⟩ E
 have hs:=hC.sub
 have S:=S.called (X:=[]) hC
 refine plc E (.r 3 1 .nil) fun a E=>pld ?_
 refine qCe ?_
 refine hK27 _ _ (pl0 (plc E (.r 0 3 .nil) fun a E=>pld ?_))
 obtain ⟨F53,hs,g54,S⟩:=S.give
 have S:=S.pm [0] 2
 exact qCf ⟨k22,by omega,_,A49,c50,t46,A42,c43,(l17++[t30.1]),(w64 (x18+1)),F53,by omega,E,.of,S,g54,H⟩
 refine rr E fun a E=>(wp_ret (qCc (qCd (qCc (qCc (qCd (qCc ?_)))))))
 obtain rfl:=si H
 exact rt1 E ⟨_,rfl,_,_,_,rfl,S⟩
 refine wp_exit ?_
 refine hK8 _ _ (rr E fun a E=>(wp_ret ?_))
 obtain rfl:=si H
 exact rt1 E ⟨_,rfl,_,_,_,rfl,S⟩
mutual
def qI.l24:Nat->List qA->List qM->Int->Int->List Ar3_i64->List Int->Int->Option (List Int)
 | 0,_,_,_,_,_,_,_=>none
 | k+1,x,y,z,p,l18,l21,x22=>if x22<(y.length:Int) then (if 0<=x22/\x22<(y.length:Int) then (if (nth qM.z y x22).f0=1 then (if ((([]:List Ar3_i64).length:Int)+((1:Nat):Int)) * 24<=140737488355328 then (qI.j61 k x y z p l18 l21 x22 (([]:List Ar3_i64)++[(⟨0,0,0⟩:Ar3_i64)])) else (none)) else (qI.j61 k x y z p l18 l21 x22 ([]:List Ar3_i64))) else (none)) else (some l21)
def qI.j61:Nat->List qA->List qM->Int->Int->List Ar3_i64->List Int->Int->List Ar3_i64->Option (List Int)
 | 0,_,_,_,_,_,_,_,_=>none
 | k+1,x,y,z,p,l18,l21,x22,l60=>qI.l78 k x y z p l18 x22 l21 l60 0
def qI.l78:Nat->List qA->List qM->Int->Int->List Ar3_i64->Int->List Int->List Ar3_i64->Int->Option (List Int)
 | 0,_,_,_,_,_,_,_,_,_=>none
 | k+1,x,y,z,p,l18,x22,l72,l75,x76=>if x76<(l18.length:Int) then (if 0<=x76/\x76<(l18.length:Int) then (if (nth qM.z y x22).f0=3 then (qI.l104 k x y z p l18 x22 l72 l75 x76 false 0) else ((qq.f k x ((nth Ar3_i64.z l18 x76).f0) ((nth Ar3_i64.z l18 x76).f1)).bind fun t139=>(if (nth qM.z y x22).f1=1 then ((qAa.f k x).bind fun t150=>(qI.j162 k x y z p l18 x22 l72 l75 x76 t150)) else (qI.j162 k x y z p l18 x22 l72 l75 x76 t139)))) else (none)) else (qI.l24 k x y z p l75 l72 (w64 (x22+1)))
def qI.l104:Nat->List qA->List qM->Int->Int->List Ar3_i64->Int->List Int->List Ar3_i64->Int->Bool->Int->Option (List Int)
 | 0,_,_,_,_,_,_,_,_,_,_,_=>none
 | k+1,x,y,z,p,l18,x22,l72,l75,x76,y102,x103=>if x103<(l72.length:Int) then (if y102=true then (qI.l104 k x y z p l18 x22 l72 l75 x76 true (w64 (x103+1))) else (if 0<=x103/\x103<(l72.length:Int) then (qI.l104 k x y z p l18 x22 l72 l75 x76 ((nth 0 l72 x103) == (nth Ar3_i64.z l18 x76).f2) (w64 (x103+1))) else (none))) else (if y102=true then (qI.j123 k x y z p l18 x22 l72 l75 x76 false) else (qI.j123 k x y z p l18 x22 l72 l75 x76 (decide ((l72.length:Int)<p))))
def qI.j123:Nat->List qA->List qM->Int->Int->List Ar3_i64->Int->List Int->List Ar3_i64->Int->Bool->Option (List Int)
 | 0,_,_,_,_,_,_,_,_,_,_=>none
 | k+1,x,y,z,p,l18,x22,l72,l75,x76,y122=>if y122=true then (if ((l72.length:Int)+((1:Nat):Int)) * 8<=140737488355328 then (qI.l78 k x y z p l18 x22 (l72++[(nth Ar3_i64.z l18 x76).f2]) l75 (w64 (x76+1))) else (none)) else (qI.l78 k x y z p l18 x22 l72 l75 (w64 (x76+1)))
def qI.j162:Nat->List qA->List qM->Int->Int->List Ar3_i64->Int->List Int->List Ar3_i64->Int->List qB->Option (List Int)
 | 0,_,_,_,_,_,_,_,_,_,_=>none
 | k+1,x,y,z,p,l18,x22,l72,l75,x76,l160=>if (nth qM.z y x22).f1=2 then ((qAV.f k x ((nth Ar3_i64.z l18 x76).f0)).bind fun t171=>(qI.j183 k x y z p l18 x22 l72 l75 x76 t171)) else (qI.j183 k x y z p l18 x22 l72 l75 x76 l160)
def qI.j183:Nat->List qA->List qM->Int->Int->List Ar3_i64->Int->List Int->List Ar3_i64->Int->List qB->Option (List Int)
 | 0,_,_,_,_,_,_,_,_,_,_=>none
 | k+1,x,y,z,p,l18,x22,l72,l75,x76,l181=>(qAT.f k (IntKind.u64.wrap z) [(IntKind.u64.wrap (nth qM.z y x22).f1),(IntKind.u64.wrap (nth Ar3_i64.z l18 x76).f0),(IntKind.u64.wrap (nth Ar3_i64.z l18 x76).f1)]).bind fun t194=>((qAc.f k t194 l181).bind fun t199=>(qI.l212 k x y z p l18 x22 l72 x76 t199 l75 0))
def qI.l212:Nat->List qA->List qM->Int->Int->List Ar3_i64->Int->List Int->Int->List Int->List Ar3_i64->Int->Option (List Int)
 | 0,_,_,_,_,_,_,_,_,_,_,_=>none
 | k+1,x,y,z,p,l18,x22,l72,x76,t199,l210,x211=>if x211<(t199.length:Int) then (qI.j220 k x y z p l18 x22 l72 x76 t199 l210 x211 (decide (x211<(nth qM.z y x22).f2))) else (qI.j220 k x y z p l18 x22 l72 x76 t199 l210 x211 false)
def qI.j220:Nat->List qA->List qM->Int->Int->List Ar3_i64->Int->List Int->Int->List Int->List Ar3_i64->Int->Bool->Option (List Int)
 | 0,_,_,_,_,_,_,_,_,_,_,_,_=>none
 | k+1,x,y,z,p,l18,x22,l72,x76,t199,l210,x211,y219=>if y219=true then (if 0<=x211/\x211<(t199.length:Int) then (if (w64 ((nth qM.z y x22).f1 - 1))=0 then (qI.j247 k x y z p l18 x22 l72 x76 t199 l210 x211 (nth 0 t199 x211) ((nth Ar3_i64.z l18 x76).f1) ((nth Ar3_i64.z l18 x76).f2)) else (if (w64 ((nth qM.z y x22).f1 - 1))=1 then (qI.j247 k x y z p l18 x22 l72 x76 t199 l210 x211 ((nth Ar3_i64.z l18 x76).f0) (nth 0 t199 x211) ((nth Ar3_i64.z l18 x76).f2)) else (if (w64 ((nth qM.z y x22).f1 - 1))=2 then (qI.j247 k x y z p l18 x22 l72 x76 t199 l210 x211 ((nth Ar3_i64.z l18 x76).f0) ((nth Ar3_i64.z l18 x76).f1) (nth 0 t199 x211)) else (none)))) else (none)) else (qI.l78 k x y z p l18 x22 l72 l210 (w64 (x76+1)))
def qI.j247:Nat->List qA->List qM->Int->Int->List Ar3_i64->Int->List Int->Int->List Int->List Ar3_i64->Int->Int->Int->Int->Option (List Int)
 | 0,_,_,_,_,_,_,_,_,_,_,_,_,_,_=>none
 | k+1,x,y,z,p,l18,x22,l72,x76,t199,l210,x211,x244,x245,x246=>if ((l210.length:Int)+((1:Nat):Int)) * 24<=140737488355328 then (qI.l212 k x y z p l18 x22 l72 x76 t199 (l210++[(⟨x244,x245,x246⟩:Ar3_i64)]) (w64 (x211+1))) else (none)
end
theorem qI.l24_s k x y z p l18 l21 x22:type_of% (qI.l24.eq_2 x y z p l18 l21 x22 k):=qI.l24.eq_2 x y z p l18 l21 x22 k
theorem qI.j61_s k x y z p l18 l21 x22 l60:type_of% (qI.j61.eq_2 x y z p l18 l21 x22 l60 k):=qI.j61.eq_2 x y z p l18 l21 x22 l60 k
theorem qI.l78_s k x y z p l18 x22 l72 l75 x76:type_of% (qI.l78.eq_2 x y z p l18 x22 l72 l75 x76 k):=qI.l78.eq_2 x y z p l18 x22 l72 l75 x76 k
theorem qI.l104_s k x y z p l18 x22 l72 l75 x76 y102 x103:type_of% (qI.l104.eq_2 x y z p l18 x22 l72 l75 x76 y102 x103 k):=qI.l104.eq_2 x y z p l18 x22 l72 l75 x76 y102 x103 k
theorem qI.j123_s k x y z p l18 x22 l72 l75 x76 y122:type_of% (qI.j123.eq_2 x y z p l18 x22 l72 l75 x76 y122 k):=qI.j123.eq_2 x y z p l18 x22 l72 l75 x76 y122 k
theorem qI.j162_s k x y z p l18 x22 l72 l75 x76 l160:type_of% (qI.j162.eq_2 x y z p l18 x22 l72 l75 x76 l160 k):=qI.j162.eq_2 x y z p l18 x22 l72 l75 x76 l160 k
theorem qI.j183_s k x y z p l18 x22 l72 l75 x76 l181:type_of% (qI.j183.eq_2 x y z p l18 x22 l72 l75 x76 l181 k):=qI.j183.eq_2 x y z p l18 x22 l72 l75 x76 l181 k
theorem qI.l212_s k x y z p l18 x22 l72 x76 t199 l210 x211:type_of% (qI.l212.eq_2 x y z p l18 x22 l72 x76 t199 l210 x211 k):=qI.l212.eq_2 x y z p l18 x22 l72 x76 t199 l210 x211 k
theorem qI.j220_s k x y z p l18 x22 l72 x76 t199 l210 x211 y219:type_of% (qI.j220.eq_2 x y z p l18 x22 l72 x76 t199 l210 x211 y219 k):=qI.j220.eq_2 x y z p l18 x22 l72 x76 t199 l210 x211 y219 k
theorem qI.j247_s(k:Nat)(x:List qA)(y:List qM)(z:Int)(p:Int)(l18:List Ar3_i64)(x22:Int)(l72:List Int)(x76:Int)(t199:List Int)(l210:List Ar3_i64)(x211:Int)(x244:Int)(x245:Int)(x246:Int):qI.j247 (k+1) x y z p l18 x22 l72 x76 t199 l210 x211 x244 x245 x246=(if ((l210.length:Int)+((1:Nat):Int)) * 24<=140737488355328 then (qI.l212 k x y z p l18 x22 l72 x76 t199 (l210++[(⟨x244,x245,x246⟩:Ar3_i64)]) (w64 (x211+1))) else (none)):=by kernel_rfl
def qI.f(k:Nat)(x:List qA)(y:List qM)(z:Int)(p:Int):Option (List Int):=qI.l24 k x y z p ([]:List Ar3_i64) ([]:List Int) 0
def qI.Post(W F:World)(r:List Int)(v:Value)(w':World):Prop:=∃(F':World)(RA0_0:OA)(rc0_0:Nat),v = .slice RA0_0 r.length rc0_0/\Sm W F w' F' [row ki 3 (.slice RA0_0 r.length rc0_0) r]
theorem qI.calls(k:Nat)(x:List qA)(y:List qM)(z:Int)(p:Int)(A0_0:OA)(c0_0:Nat)(A1_0:OA)(c1_0:Nat)(r:List Int)(W F:World)(hown:Sub F W)(g0_0:Rd qA.k F A0_0 c0_0 x)(g1_0:Rd qM.k F A1_0 c1_0 y)(H:qI.f k x y z p=some r):
    Cr 91 #[.slice A0_0 x.length c0_0,.slice A1_0 y.length c1_0,iv z,iv p] W (qI.Post W F r):=by
 have S:=sT hown
 unfold qI.f at H
 refine ent 144 rfl rfl rfl fun a E=>?_
 refine rr E fun a E=>(sq fun K2 hK2=>pl0 (ple E (.lit (d:=Ar3_i64.k) (e:=144) S ([]:List Ar3_i64) (.nil)) ?_))
 rintro _ u3 a ⟨A4,c5,rfl,S,hg⟩ E
 refine plc E (.r 1 1 .nil) fun a E=>pld (hK2 _ _ (sq fun K7 hK7=>pl0 (ple E (.lit (d:=ki) (e:=3) S ([]:List Int) (.nil)) ?_)))
 rintro _ u8 a ⟨A9,c10,rfl,S,hg⟩ E
 refine plc E (.r 1 1 .nil) fun a E=>pld (hK7 _ _ (sq fun K12 hK12=>rr E fun a E=>(wp_block ?_)))
 have S:=S.front 1 rfl
 refine wp_loop_ghost (fun kq25 a w'=>∃(G:NV)(A16:OA)(c17:Nat)(l18:List Ar3_i64)(A19:OA)(c20:Nat)(l21:List Int)(x22:Int)(F23:World),kq25<=k/\Env 144 G a/\At G [(0,.slice A0_0 x.length c0_0),(1,.slice A1_0 y.length c1_0),(2,iv z),(3,iv p),(9,.slice A16 l18.length c17),(10,.slice A19 l21.length c20),(11,iv x22)]/\Sm W F w' F23 [row Ar3_i64.k 144 (.slice A16 l18.length c17) l18,row ki 3 (.slice A19 l21.length c20) l21]/\Rd qA.k F23 A0_0 c0_0 x/\Rd qM.k F23 A1_0 c1_0 y/\qI.l24 kq25 x y z p l18 l21 x22=some r) k ⟨_,A4,c5,([]:List Ar3_i64),A9,c10,([]:List Int),0,F,Nat.le_refl _,E,.of,S,g0_0,g1_0,H⟩ ?_
 rintro kq25 a u27 ⟨G,A16,c17,l18,A19,c20,l21,x22,F23,hkq,E,A,S,g0_0,g1_0,H⟩
 obtain _ | k26:=kq25
 exact zz H
 rw [qI.l24_s]at H
 obtain ⟨J,E⟩:=E.at A
 refine sq fun K28 hK28=>rr E fun a E=>(E.ik 27 H (fun c30 E H=>?_) fun c30 E H=>?_)
 refine wp_skip (hK28 _ _ (sq fun K31 hK31=>wp_block (sq fun K32 hK32=>pl0 ?_)))
 obtain ⟨c33,H⟩:=gd H
 have hE_:=E
 obtain ⟨ad34,rfl⟩:=g1_0.addr c33.1 c33.2
 replace E:=hE_
 obtain ⟨cs36,rfl,hc37⟩:=g1_0.el qM.z x22 c33.1 c33.2
 refine plc E (.r 0 2<|.x 2 c33<|.cs 3 (S.fcs hc37)<|.nil) fun a E=>pla (t:=143) E S [iv 0,iv 0,iv 0] fun b38 u39 hb38 S a E=>pls E S [iv ((nth qM.z y x22).f0),iv ((nth qM.z y x22).f1),iv ((nth qM.z y x22).f2)] fun u40 hb38 S a E=>pld (hK32 _ _ (sq fun K41 hK41=>pl0 (ple E (.lit (d:=Ar3_i64.k) (e:=144) S ([]:List Ar3_i64) (.nil)) ?_)))
 rintro _ u42 a ⟨A43,c44,rfl,S,hg⟩ E
 refine plc E (.r 1 1 .nil) fun a E=>pld (hK41 _ _ (sq fun K46 hK46=>?_))
 have J64:∀ kq62,kq62<=k26->∀(G:NV)(A58:OA)(c59:Nat)(l60:List Ar3_i64)(a:Act)(w':World),Env 144 G a->At G [(0,.slice A0_0 x.length c0_0),(1,.slice (some ad34) y.length c1_0),(2,iv z),(3,iv p),(9,.slice A16 l18.length c17),(10,.slice A19 l21.length c20),(11,iv x22),(12,.pointer (pb b38)),(13,.slice A58 l60.length c59)]->Sm W F w' F23 [box b38 #[iv ((nth qM.z y x22).f0),iv ((nth qM.z y x22).f1),iv ((nth qM.z y x22).f2)] 143,row Ar3_i64.k 144 (.slice A16 l18.length c17) l18,row ki 3 (.slice A19 l21.length c20) l21,row Ar3_i64.k 144 (.slice A58 l60.length c59) l60]->qI.j61 kq62 x y z p l18 l21 x22 l60=some r->K46 a w':=by
  intro kq62 hkq G A58 c59 l60 a u65 E A S H
  obtain _ | k63:=kq62
  exact zz H
  rw [qI.j61_s]at H
  obtain ⟨J,E⟩:=E.at A
  refine hK46 _ _ (sq fun K66 hK66=>rr E fun a E=>(wp_block ?_))
  refine wp_loop_ghost (fun kq79 a w'=>∃(G:NV)(A70:OA)(c71:Nat)(l72:List Int)(A73:OA)(c74:Nat)(l75:List Ar3_i64)(x76:Int)(F77:World),kq79<=k63/\Env 144 G a/\At G [(0,.slice A0_0 x.length c0_0),(1,.slice (some ad34) y.length c1_0),(2,iv z),(3,iv p),(9,.slice A16 l18.length c17),(10,.slice A70 l72.length c71),(11,iv x22),(12,.pointer (pb b38)),(13,.slice A73 l75.length c74),(14,iv x76)]/\Sm W F w' F77 [box b38 #[iv ((nth qM.z y x22).f0),iv ((nth qM.z y x22).f1),iv ((nth qM.z y x22).f2)] 143,row Ar3_i64.k 144 (.slice A16 l18.length c17) l18,row ki 3 (.slice A70 l72.length c71) l72,row Ar3_i64.k 144 (.slice A73 l75.length c74) l75]/\Rd qA.k F77 A0_0 c0_0 x/\Rd qM.k F77 (some ad34) c1_0 y/\qI.l78 kq79 x y z p l18 x22 l72 l75 x76=some r) k63 ⟨_,A19,c20,l21,A58,c59,l60,0,F23,Nat.le_refl _,E,.of,S,g0_0,g1_0,H⟩ ?_
  rintro kq79 a u81 ⟨G,A70,c71,l72,A73,c74,l75,x76,F77,hkq,E,A,S,g0_0,g1_0,H⟩
  obtain _ | k80:=kq79
  exact zz H
  rw [qI.l78_s]at H
  obtain ⟨J,E⟩:=E.at A
  refine sq fun K82 hK82=>rr E fun a E=>(E.ik 45 H (fun c84 E H=>?_) fun c84 E H=>?_)
  refine wp_skip (hK82 _ _ (sq fun K85 hK85=>wp_block (sq fun K86 hK86=>pl0 ?_)))
  obtain ⟨c87,H⟩:=gd H
  have hr88:=S.ra 1
  have hE_:=E
  obtain ⟨b89,rfl⟩:=qCi hr88 c87.1 c87.2
  replace E:=hE_
  have hr_:=S.ra 1
  obtain ⟨cs91,rfl,hc92⟩:=qCh hr_ Ar3_i64.z x76 c87.1 c87.2
  refine plc E (.r 0 2<|.x 2 c87<|.cs 3 hc92<|.nil) fun a E=>pla (t:=144) E S [iv 0,iv 0,iv 0] fun b93 u94 hb93 S a E=>pls E S [iv ((nth Ar3_i64.z l18 x76).f0),iv ((nth Ar3_i64.z l18 x76).f1),iv ((nth Ar3_i64.z l18 x76).f2)] fun u95 hb93 S a E=>pld (hK86 _ _ (sq fun K96 hK96=>sq fun K97 hK97=>pl0 ?_))
  have hb38:=S.ba 1
  refine plc E (.r 0 1<|.b 1 0 hb38<|.r 2 1<|.nil) fun a E=>pld (hK97 _ _ (E.ik 54 H (fun c98 E H=>?_) fun c98 E H=>?_))
  refine rr E fun a E=>(sq fun K100 hK100=>rr E fun a E=>(wp_block ?_))
  refine wp_loop_ghost (fun kq105 a w'=>∃(G:NV)(y102:Bool)(x103:Int),kq105<=k80/\Env 144 G a/\At G [(0,.slice A0_0 x.length c0_0),(1,.slice (some ad34) y.length c1_0),(2,iv z),(3,iv p),(9,.slice (pb b89) l18.length c17),(10,.slice A70 l72.length c71),(11,iv x22),(12,.pointer (pb b38)),(13,.slice A73 l75.length c74),(14,iv x76),(15,.pointer (pb b93)),(16,.bool y102),(17,iv x103)]/\Sm W F w' F77 [box b93 #[iv ((nth Ar3_i64.z l18 x76).f0),iv ((nth Ar3_i64.z l18 x76).f1),iv ((nth Ar3_i64.z l18 x76).f2)] 144,box b38 #[iv ((nth qM.z y x22).f0),iv ((nth qM.z y x22).f1),iv ((nth qM.z y x22).f2)] 143,row Ar3_i64.k 144 (.slice (pb b89) l18.length c17) l18,row ki 3 (.slice A70 l72.length c71) l72,row Ar3_i64.k 144 (.slice A73 l75.length c74) l75]/\qI.l104 kq105 x y z p l18 x22 l72 l75 x76 y102 x103=some r) k80 ⟨_,false,0,Nat.le_refl _,E,.of,S,H⟩ ?_
  rintro kq105 a u107 ⟨G,y102,x103,hkq,E,A,S,H⟩
  obtain _ | k106:=kq105
  exact zz H
  rw [qI.l104_s]at H
  obtain ⟨J,E⟩:=E.at A
  refine sq fun K108 hK108=>rr E fun a E=>(E.ik 58 H (fun c110 E H=>?_) fun c110 E H=>?_)
  refine wp_skip (hK108 _ _ (sq fun K111 hK111=>wp_block ?_))
  refine drawn 11 ⟨[],[],fun q=>False⟩ mixed rfl (by kernel_rfl) fun hst=>?_
  have S:=S.drew
  refine mny 9 hst E (.r 0 2 .nil) fun a E=>?_
  refine E.fb 16 H (fun c112 E H=>?_) fun c112 E H=>?_
  replace E:=E.bt 62 c112
  refine mny 0 hst E (.r 2 9 .nil) fun a E=>?_
  refine dn ?_
  refine qCe ?_
  refine hK111 _ _ (pl0 (plc E (.r 0 3 .nil) fun a E=>pld ?_))
  exact qCf ⟨k106,by omega,_,true,(w64 (x103+1)),by omega,E,.of,S,H⟩
  replace E:=E.bf 62 c112
  obtain ⟨c113,H⟩:=gd H
  have hr114:=S.ra 3
  have hE_:=E
  obtain ⟨b115,rfl⟩:=qCi hr114 c113.1 c113.2
  replace E:=hE_
  have hr_:=S.ra 3
  obtain ⟨cs117,rfl,hc118⟩:=qCh hr_ 0 x103 c113.1 c113.2
  have hb93:=S.ba 0
  refine mny 0 hst E (.r 2 2<|.x 4 c113<|.c 5 (hc118 0 _ rfl)<|.r 6 1<|.b 7 2 hb93<|.r 8 3<|.nil) fun a E=>?_
  refine dn ?_
  refine qCe ?_
  refine hK111 _ _ (pl0 (plc E (.r 0 3 .nil) fun a E=>pld ?_))
  exact qCf ⟨k106,by omega,_,((nth 0 l72 x103) == (nth Ar3_i64.z l18 x76).f2),(w64 (x103+1)),by omega,E,.of,S,H⟩
  refine wp_exit ?_
  refine hK100 _ _ (sq fun K119 hK119=>sq fun K120 hK120=>?_)
  have J126:∀ kq124,kq124<=k106->∀(G:NV)(y122:Bool)(a:Act)(w':World),Env 144 G a->At G [(0,.slice A0_0 x.length c0_0),(1,.slice (some ad34) y.length c1_0),(2,iv z),(3,iv p),(9,.slice (pb b89) l18.length c17),(10,.slice A70 l72.length c71),(11,iv x22),(12,.pointer (pb b38)),(13,.slice A73 l75.length c74),(14,iv x76),(15,.pointer (pb b93)),(78,.bool y122)]->Sm W F w' F77 [box b93 #[iv ((nth Ar3_i64.z l18 x76).f0),iv ((nth Ar3_i64.z l18 x76).f1),iv ((nth Ar3_i64.z l18 x76).f2)] 144,box b38 #[iv ((nth qM.z y x22).f0),iv ((nth qM.z y x22).f1),iv ((nth qM.z y x22).f2)] 143,row Ar3_i64.k 144 (.slice (pb b89) l18.length c17) l18,row ki 3 (.slice A70 l72.length c71) l72,row Ar3_i64.k 144 (.slice A73 l75.length c74) l75]->qI.j123 kq124 x y z p l18 x22 l72 l75 x76 y122=some r->K120 a w':=by
   intro kq124 hkq G y122 a u127 E A S H
   obtain _ | k125:=kq124
   exact zz H
   rw [qI.j123_s]at H
   obtain ⟨J,E⟩:=E.at A
   refine hK120 _ _ (E.ib 78 H (fun c128 E H=>?_) fun c128 E H=>?_)
   refine pl0 (plc E (.r 0 2<|.b 2 2 (S.ba 0)<|.nil) fun a E=>ple E (.lit (d:=ki) (e:=3) S [(nth Ar3_i64.z l18 x76).f2] (.cons rfl .nil)) ?_)
   rintro _ u129 a ⟨A130,c131,rfl,S,hg⟩ E
   obtain ⟨c133,H⟩:=gd H
   have S:=S.front 4 rfl
   refine ple E (.ap (d:=ki) 8 S (qCj (S.row_at (i:=1) rfl)) c133 c131) ?_
   rintro _ u136 a ⟨A134,c135,rfl,S,hz⟩ E
   refine plc E (.r 5 1 .nil) fun a E=>pld (hK119 _ _ ?_)
   refine wp_exit ?_
   refine hK85 _ _ (pl0 (plc E (.r 0 3 .nil) fun a E=>pld ?_))
   have S:=S.pm [3,4,0] 5
   exact qCf ⟨k125,by omega,_,A134,c135,(l72++[(nth Ar3_i64.z l18 x76).f2]),A73,c74,l75,(w64 (x76+1)),F77,by omega,E,.of,S,g0_0,g1_0,H⟩
   refine wp_skip (hK119 _ _ ?_)
   refine wp_exit ?_
   refine hK85 _ _ (pl0 (plc E (.r 0 3 .nil) fun a E=>pld ?_))
   have S:=S.tail
   exact qCf ⟨k125,by omega,_,A70,c71,l72,A73,c74,l75,(w64 (x76+1)),F77,by omega,E,.of,S,g0_0,g1_0,H⟩
  refine pl0 (plc E (.r 0 3 .nil) fun a E=>E.fbn 73 H (fun c121 E H=>?_) fun c121 E H=>?_)
  refine plc E (.r 3 5 .nil) fun a E=>pld ?_
  exact J126 _ (by omega) _ false _ _ E .of S H
  refine plc E (.r 3 5 .nil) fun a E=>pld ?_
  exact J126 _ (by omega) _ (decide ((l72.length:Int)<p)) _ _ E .of S H
  refine wp_skip (hK96 _ _ (sq fun K137 hK137=>pl0 (plc E (.r 0 2<|.b 2 0 hb93<|.r 3 1<|.b 4 1 hb93<|.nil) fun a E=>?_)))
  obtain ⟨t139,h140,H⟩:=bd H
  refine ple E (.cl en116 (qq.calls k80 x ((nth Ar3_i64.z l18 x76).f0) ((nth Ar3_i64.z l18 x76).f1) _ _ _ _ _ S.own.sub g0_0 h140)) ?_
  rintro _ u138 a ⟨F141,A142,c143,rfl,hC⟩ E
  have hs:=hC.sub
  have S:=S.called (X:=[]) hC
  have g0_0:=g0_0.mono hs
  have g1_0:=g1_0.mono hs
  refine plc E (.r 6 1 .nil) fun a E=>pld (hK137 _ _ (sq fun K146 hK146=>?_))
  have J165:∀ kq163,kq163<=k80->∀(G:NV)(A158:OA)(c159:Nat)(l160:List qB)(F161:World)(a:Act)(w':World),Env 144 G a->At G [(0,.slice A0_0 x.length c0_0),(1,.slice (some ad34) y.length c1_0),(2,iv z),(3,iv p),(9,.slice (pb b89) l18.length c17),(10,.slice A70 l72.length c71),(11,iv x22),(12,.pointer (pb b38)),(13,.slice A73 l75.length c74),(14,iv x76),(15,.pointer (pb b93)),(18,.slice A158 l160.length c159)]->Sm W F w' F161 [box b93 #[iv ((nth Ar3_i64.z l18 x76).f0),iv ((nth Ar3_i64.z l18 x76).f1),iv ((nth Ar3_i64.z l18 x76).f2)] 144,box b38 #[iv ((nth qM.z y x22).f0),iv ((nth qM.z y x22).f1),iv ((nth qM.z y x22).f2)] 143,row Ar3_i64.k 144 (.slice (pb b89) l18.length c17) l18,row ki 3 (.slice A70 l72.length c71) l72,row Ar3_i64.k 144 (.slice A73 l75.length c74) l75,row qB.k 139 (.slice A158 l160.length c159) l160]->Rd qA.k F161 A0_0 c0_0 x->Rd qM.k F161 (some ad34) c1_0 y->qI.j162 kq163 x y z p l18 x22 l72 l75 x76 l160=some r->K146 a w':=by
   intro kq163 hkq G A158 c159 l160 F161 a u166 E A S g0_0 g1_0 H
   obtain _ | k164:=kq163
   exact zz H
   rw [qI.j162_s]at H
   obtain ⟨J,E⟩:=E.at A
   refine hK146 _ _ (sq fun K167 hK167=>?_)
   have J186:∀ kq184,kq184<=k164->∀(G:NV)(A179:OA)(c180:Nat)(l181:List qB)(F182:World)(a:Act)(w':World),Env 144 G a->At G [(0,.slice A0_0 x.length c0_0),(1,.slice (some ad34) y.length c1_0),(2,iv z),(3,iv p),(9,.slice (pb b89) l18.length c17),(10,.slice A70 l72.length c71),(11,iv x22),(12,.pointer (pb b38)),(13,.slice A73 l75.length c74),(14,iv x76),(15,.pointer (pb b93)),(18,.slice A179 l181.length c180)]->Sm W F w' F182 [box b93 #[iv ((nth Ar3_i64.z l18 x76).f0),iv ((nth Ar3_i64.z l18 x76).f1),iv ((nth Ar3_i64.z l18 x76).f2)] 144,box b38 #[iv ((nth qM.z y x22).f0),iv ((nth qM.z y x22).f1),iv ((nth qM.z y x22).f2)] 143,row Ar3_i64.k 144 (.slice (pb b89) l18.length c17) l18,row ki 3 (.slice A70 l72.length c71) l72,row Ar3_i64.k 144 (.slice A73 l75.length c74) l75,row qB.k 139 (.slice A179 l181.length c180) l181]->Rd qA.k F182 A0_0 c0_0 x->Rd qM.k F182 (some ad34) c1_0 y->qI.j183 kq184 x y z p l18 x22 l72 l75 x76 l181=some r->K167 a w':=by
    intro kq184 hkq G A179 c180 l181 F182 a u187 E A S g0_0 g1_0 H
    obtain _ | k185:=kq184
    exact zz H
    rw [qI.j183_s]at H
    obtain ⟨J,E⟩:=E.at A
    refine hK167 _ _ (sq fun K188 hK188=>pl0 ?_)
    have hb38:=S.ba 1
    have hb93:=S.ba 0
    refine plc E (.r 0 3<|.b 3 1 hb38<|.r 4 2<|.b 6 0 hb93<|.r 7 2<|.b 9 1 hb93<|.r 10 1<|.nil) fun a E=>ple E (.lit (d:=(Kn.int .u64)) (e:=148) S [(IntKind.u64.wrap (nth qM.z y x22).f1),(IntKind.u64.wrap (nth Ar3_i64.z l18 x76).f0),(IntKind.u64.wrap (nth Ar3_i64.z l18 x76).f1)] (.cons rfl<|.cons rfl<|.cons rfl .nil)) ?_
    rintro _ u189 a ⟨A190,c191,rfl,S,hg⟩ E
    obtain ⟨t194,h195,H⟩:=bd H
    refine plq E S en120 (qAT.calls k185 (IntKind.u64.wrap z) [(IntKind.u64.wrap (nth qM.z y x22).f1),(IntKind.u64.wrap (nth Ar3_i64.z l18 x76).f0),(IntKind.u64.wrap (nth Ar3_i64.z l18 x76).f1)] _ _ _ _ _ (Sub.refl _) (S.rd_at (i:=0) rfl) h195) fun u193 S a E=>plc E (.r 13 1 .nil) fun a E=>?_
    have S:=S.front 6 rfl
    obtain ⟨F196,hs,g197,S⟩:=S.give
    have g0_0:=g0_0.mono hs
    have g1_0:=g1_0.mono hs
    obtain ⟨t199,h200,H⟩:=bd H
    refine ple E (.cl en119 (qAc.calls k185 t194 l181 _ _ _ _ _ S.own.sub g197 h200)) ?_
    rintro _ u198 a ⟨F201,A202,c203,rfl,hC⟩ E
    have hs:=hC.sub
    have S:=S.called (X:=[]) hC
    have g0_0:=g0_0.mono hs
    have g1_0:=g1_0.mono hs
    refine plc E (.r 15 1 .nil) fun a E=>pld (hK188 _ _ (rr E fun a E=>(wp_block ?_)))
    have S:=S.pm [2,3,0] 4
    refine wp_loop_ghost (fun kq213 a w'=>∃(G:NV)(A208:OA)(c209:Nat)(l210:List Ar3_i64)(x211:Int),kq213<=k185/\Env 144 G a/\At G [(0,.slice A0_0 x.length c0_0),(1,.slice (some ad34) y.length c1_0),(2,iv z),(3,iv p),(9,.slice (pb b89) l18.length c17),(10,.slice A70 l72.length c71),(11,iv x22),(12,.pointer (pb b38)),(13,.slice A208 l210.length c209),(14,iv x76),(15,.pointer (pb b93)),(19,.slice A202 t199.length c203),(20,iv x211)]/\Sm W F w' F201 [box b93 #[iv ((nth Ar3_i64.z l18 x76).f0),iv ((nth Ar3_i64.z l18 x76).f1),iv ((nth Ar3_i64.z l18 x76).f2)] 144,box b38 #[iv ((nth qM.z y x22).f0),iv ((nth qM.z y x22).f1),iv ((nth qM.z y x22).f2)] 143,row ki 3 (.slice A202 t199.length c203) t199,row Ar3_i64.k 144 (.slice (pb b89) l18.length c17) l18,row ki 3 (.slice A70 l72.length c71) l72,row Ar3_i64.k 144 (.slice A208 l210.length c209) l210]/\qI.l212 kq213 x y z p l18 x22 l72 x76 t199 l210 x211=some r) k185 ⟨_,A73,c74,l75,0,Nat.le_refl _,E,.of,S,H⟩ ?_
    rintro kq213 a u215 ⟨G,A208,c209,l210,x211,hkq,E,A,S,H⟩
    obtain _ | k214:=kq213
    exact zz H
    rw [qI.l212_s]at H
    obtain ⟨J,E⟩:=E.at A
    refine sq fun K216 hK216=>sq fun K217 hK217=>?_
    have J223:∀ kq221,kq221<=k214->∀(G:NV)(y219:Bool)(a:Act)(w':World),Env 144 G a->At G [(0,.slice A0_0 x.length c0_0),(1,.slice (some ad34) y.length c1_0),(2,iv z),(3,iv p),(9,.slice (pb b89) l18.length c17),(10,.slice A70 l72.length c71),(11,iv x22),(12,.pointer (pb b38)),(13,.slice A208 l210.length c209),(14,iv x76),(15,.pointer (pb b93)),(19,.slice A202 t199.length c203),(20,iv x211),(126,.bool y219)]->Sm W F w' F201 [box b93 #[iv ((nth Ar3_i64.z l18 x76).f0),iv ((nth Ar3_i64.z l18 x76).f1),iv ((nth Ar3_i64.z l18 x76).f2)] 144,box b38 #[iv ((nth qM.z y x22).f0),iv ((nth qM.z y x22).f1),iv ((nth qM.z y x22).f2)] 143,row ki 3 (.slice A202 t199.length c203) t199,row Ar3_i64.k 144 (.slice (pb b89) l18.length c17) l18,row ki 3 (.slice A70 l72.length c71) l72,row Ar3_i64.k 144 (.slice A208 l210.length c209) l210]->qI.j220 kq221 x y z p l18 x22 l72 x76 t199 l210 x211 y219=some r->K217 a w':=by
     intro kq221 hkq G y219 a u224 E A S H
     obtain _ | k222:=kq221
     exact zz H
     rw [qI.j220_s]at H
     obtain ⟨J,E⟩:=E.at A
     refine hK217 _ _ (E.ib 126 H (fun c225 E H=>?_) fun c225 E H=>?_)
     refine wp_skip (hK216 _ _ (sq fun K226 hK226=>wp_block (sq fun K227 hK227=>pl0 (plc E (.bn 0 0 3 (S.ba 0) .nil) fun a E=>pla (t:=144) E S [iv 0,iv 0,iv 0] fun b228 u229 hb228 S a E=>pls E S [iv ((nth Ar3_i64.z l18 x76).f0),iv ((nth Ar3_i64.z l18 x76).f1),iv ((nth Ar3_i64.z l18 x76).f2)] fun u230 hb228 S a E=>pld (hK227 _ _ (sq fun K231 hK231=>?_))))))
     have J250:∀ kq248,kq248<=k222->∀(G:NV)(x244:Int)(x245:Int)(x246:Int)(a:Act)(w':World),Env 144 G a->At G [(0,.slice A0_0 x.length c0_0),(1,.slice (some ad34) y.length c1_0),(2,iv z),(3,iv p),(9,.slice (pb b89) l18.length c17),(10,.slice A70 l72.length c71),(11,iv x22),(12,.pointer (pb b38)),(13,.slice A208 l210.length c209),(14,iv x76),(15,.pointer (pb b93)),(19,.slice A202 t199.length c203),(20,iv x211),(21,.pointer (pb b228))]->Sm W F w' F201 [box b228 #[iv x244,iv x245,iv x246] 144,box b93 #[iv ((nth Ar3_i64.z l18 x76).f0),iv ((nth Ar3_i64.z l18 x76).f1),iv ((nth Ar3_i64.z l18 x76).f2)] 144,box b38 #[iv ((nth qM.z y x22).f0),iv ((nth qM.z y x22).f1),iv ((nth qM.z y x22).f2)] 143,row ki 3 (.slice A202 t199.length c203) t199,row Ar3_i64.k 144 (.slice (pb b89) l18.length c17) l18,row ki 3 (.slice A70 l72.length c71) l72,row Ar3_i64.k 144 (.slice A208 l210.length c209) l210]->qI.j247 kq248 x y z p l18 x22 l72 x76 t199 l210 x211 x244 x245 x246=some r->K231 a w':=by
      intro kq248 hkq G x244 x245 x246 a u251 E A S H
      obtain _ | k249:=kq248
      exact zz H
      rw [qI.j247_s]at H
      obtain ⟨J,E⟩:=E.at A
      refine hK231 _ _ (pl0 (plc E (.r 0 1<|.bn 1 0 3 (S.ba 0)<|.nil) fun a E=>ple E (.lit (d:=Ar3_i64.k) (e:=144) S [(⟨x244,x245,x246⟩:Ar3_i64)] (.cons rfl .nil)) ?_))
      rintro _ u252 a ⟨A253,c254,rfl,S,hg⟩ E
      obtain ⟨c256,H⟩:=gd H
      have S:=S.front 7 rfl
      refine ple E (.ap (d:=Ar3_i64.k) 24 S (qCj (S.row_at (i:=1) rfl)) c256 c254) ?_
      rintro _ u259 a ⟨A257,c258,rfl,S,hz⟩ E
      refine plc E (.r 4 1 .nil) fun a E=>pld ?_
      refine qCe ?_
      refine hK226 _ _ (pl0 (plc E (.r 0 3 .nil) fun a E=>pld ?_))
      have S:=S.pm [3,4,5,6,7,0] 8
      exact qCf ⟨k249,by omega,_,A257,c258,(l210++[(⟨x244,x245,x246⟩:Ar3_i64)]),(w64 (x211+1)),by omega,E,.of,S,H⟩
     refine drawn 9 ⟨[8],[],fun q=>False⟩ mixed rfl (by kernel_rfl) fun hst=>?_
     have S:=S.drew
     have hb38:=S.ba 2
     obtain ⟨c232,H⟩:=gd H
     have hr233:=S.ra 3
     have hE_:=E
     obtain ⟨b234,rfl⟩:=qCi hr233 c232.1 c232.2
     replace E:=hE_
     have hr_:=S.ra 3
     obtain ⟨cs236,rfl,hc237⟩:=qCh hr_ 0 x211 c232.1 c232.2
     refine mny 2 hst E (.r 0 1<|.b 1 1 hb38<|.r 2 3<|.x 5 c232<|.c 6 (hc237 0 _ rfl)<|.nil) fun a E=>?_
     rcases sp H with ⟨c238,H⟩ | ⟨c238,H⟩
     replace E:=E.set (d:=132) (v:=iv 0) (Eq.trans (b:=iv (w64 ((nth qM.z y x22).f1 - 1))) (by kernel_rfl) (congrArg _ c238))
     refine mny 1 hst E (.r 7 1 .nil) fun a E=>?_
     refine on1 8 E (.sto S [iv (nth 0 t199 x211),iv ((nth Ar3_i64.z l18 x76).f1),iv ((nth Ar3_i64.z l18 x76).f2)]) ?_
     rintro _ u239 a ⟨rfl,hb228,S,hz⟩ E
     refine ⟨.d,?_⟩
     refine dn ?_
     exact J250 _ (by omega) _ (nth 0 t199 x211) ((nth Ar3_i64.z l18 x76).f1) ((nth Ar3_i64.z l18 x76).f2) _ _ E .of S H
     rcases sp H with ⟨c240,H⟩ | ⟨c240,H⟩
     replace E:=E.set (d:=132) (v:=iv 1) (Eq.trans (b:=iv (w64 ((nth qM.z y x22).f1 - 1))) (by kernel_rfl) (congrArg _ c240))
     refine mny 1 hst E (.r 7 1 .nil) fun a E=>?_
     refine on1 8 E (.sto S [iv ((nth Ar3_i64.z l18 x76).f0),iv (nth 0 t199 x211),iv ((nth Ar3_i64.z l18 x76).f2)]) ?_
     rintro _ u241 a ⟨rfl,hb228,S,hz⟩ E
     refine ⟨.d,?_⟩
     refine dn ?_
     exact J250 _ (by omega) _ ((nth Ar3_i64.z l18 x76).f0) (nth 0 t199 x211) ((nth Ar3_i64.z l18 x76).f2) _ _ E .of S H
     rcases sp H with ⟨c242,H⟩ | ⟨c242,H⟩
     replace E:=E.set (d:=132) (v:=iv 2) (Eq.trans (b:=iv (w64 ((nth qM.z y x22).f1 - 1))) (by kernel_rfl) (congrArg _ c242))
     refine mny 1 hst E (.r 7 1 .nil) fun a E=>?_
     refine on1 8 E (.sto S [iv ((nth Ar3_i64.z l18 x76).f0),iv ((nth Ar3_i64.z l18 x76).f1),iv (nth 0 t199 x211)]) ?_
     rintro _ u243 a ⟨rfl,hb228,S,hz⟩ E
     refine ⟨.d,?_⟩
     refine dn ?_
     exact J250 _ (by omega) _ ((nth Ar3_i64.z l18 x76).f0) ((nth Ar3_i64.z l18 x76).f1) (nth 0 t199 x211) _ _ E .of S H
     cases (show none=some r from H)
     refine wp_exit ?_
     refine hK85 _ _ (pl0 (plc E (.r 0 3 .nil) fun a E=>pld ?_))
     have S:=S.pm [1] 3
     exact qCf ⟨k222,by omega,_,A70,c71,l72,A208,c209,l210,(w64 (x76+1)),F201,by omega,E,.of,S,g0_0,g1_0,H⟩
    refine pl0 (plc E (.r 0 5 .nil) fun a E=>E.fk 121 H (fun c218 E H=>?_) fun c218 E H=>?_)
    refine plc E (.r 5 2<|.b 7 2 (S.ba 1)<|.r 8 2<|.nil) fun a E=>pld ?_
    exact J223 _ (by omega) _ (decide (x211<(nth qM.z y x22).f2)) _ _ E .of S H
    refine plc E (.r 5 5 .nil) fun a E=>pld ?_
    exact J223 _ (by omega) _ false _ _ E .of S H
   refine rg E (.r 0 1<|.b 1 1 (S.ba 1)<|.r 2 1<|.nil) fun a E=>(E.ik 97 H (fun c169 E H=>?_) fun c169 E H=>?_)
   refine pl0 (plc E (.r 0 2<|.b 2 0 (S.ba 0)<|.nil) fun a E=>?_)
   obtain ⟨t171,h172,H⟩:=bd H
   refine ple E (.cl en118 (qAV.calls k164 x ((nth Ar3_i64.z l18 x76).f0) _ _ _ _ _ S.own.sub g0_0 h172)) ?_
   rintro _ u170 a ⟨F173,A174,c175,rfl,hC⟩ E
   have hs:=hC.sub
   have S:=S.called (X:=[]) hC
   have g0_0:=g0_0.mono hs
   have g1_0:=g1_0.mono hs
   refine plc E (.r 4 1 .nil) fun a E=>pld ?_
   have S:=S.pm [1,2,3,4,5,0] 7
   exact J186 _ (by omega) _ A174 c175 t171 F173 _ _ E .of S g0_0 g1_0 H
   refine wp_skip ?_
   exact J186 _ (by omega) _ A158 c159 l160 F161 _ _ E .of S g0_0 g1_0 H
  refine rg E (.r 0 1<|.b 1 1 (S.ba 2)<|.r 2 1<|.nil) fun a E=>(E.ik 92 H (fun c148 E H=>?_) fun c148 E H=>?_)
  refine pl0 (plc E (.r 0 1 .nil) fun a E=>?_)
  obtain ⟨t150,h151,H⟩:=bd H
  refine ple E (.cl en117 (qAa.calls k80 x _ _ _ _ _ S.own.sub g0_0 h151)) ?_
  rintro _ u149 a ⟨F152,A153,c154,rfl,hC⟩ E
  have hs:=hC.sub
  have S:=S.called (X:=[]) hC
  have g0_0:=g0_0.mono hs
  have g1_0:=g1_0.mono hs
  refine plc E (.r 2 1 .nil) fun a E=>pld ?_
  have S:=S.pm [2,3,4,5,6,0] 7
  exact J165 _ (by omega) _ A153 c154 t150 F152 _ _ E .of S g0_0 g1_0 H
  refine wp_skip ?_
  have S:=S.pm [1,2,3,4,5,0] 6
  exact J165 _ (by omega) _ A142 c143 t139 F141 _ _ E .of S g0_0 g1_0 H
  refine wp_exit ?_
  refine hK66 _ _ (pl0 (plc E (.r 0 2 .nil) fun a E=>pld ?_))
  refine qCe ?_
  refine hK31 _ _ (pl0 (plc E (.r 0 3 .nil) fun a E=>pld ?_))
  have S:=S.pm [3,2] 4
  exact qCf ⟨k80,by omega,_,A73,c74,l75,A70,c71,l72,(w64 (x22+1)),F77,by omega,E,.of,S,g0_0,g1_0,H⟩
 refine rg E (.r 0 1<|.b 1 0 (S.ba 1)<|.r 2 1<|.nil) fun a E=>(E.ik 37 H (fun c48 E H=>?_) fun c48 E H=>?_)
 refine pl0 (plc E (.r 0 2 .nil) fun a E=>ple E (.lit (d:=Ar3_i64.k) (e:=144) S [(⟨0,0,0⟩:Ar3_i64)] (.cons rfl .nil)) ?_)
 rintro _ u49 a ⟨A50,c51,rfl,S,hg⟩ E
 obtain ⟨c53,H⟩:=gd H
 have S:=S.front 1 rfl
 refine ple E (.ap (d:=Ar3_i64.k) 24 S (qCj (S.row_at (i:=1) rfl)) c53 c51) ?_
 rintro _ u56 a ⟨A54,c55,rfl,S,hz⟩ E
 refine plc E (.r 4 1 .nil) fun a E=>pld ?_
 have S:=S.pm [2,3,4,0] 5
 exact J64 _ (by omega) _ A54 c55 (([]:List Ar3_i64)++[(⟨0,0,0⟩:Ar3_i64)]) _ _ E .of S H
 refine wp_skip ?_
 have S:=S.pm [1,2,3,0] 4
 exact J64 _ (by omega) _ A43 c44 ([]:List Ar3_i64) _ _ E .of S H
 refine wp_exit ?_
 refine hK12 _ _ (rr E fun a E=>(wp_ret ?_))
 have S:=S.tail
 obtain rfl:=si H
 exact rt1 E ⟨_,rfl,_,_,_,rfl,S⟩
def qBT.f(x:Int):Option (List qM):=some [(⟨1,0,0⟩:qM),(⟨2,1,x⟩:qM),(⟨2,2,1⟩:qM),(⟨2,3,1⟩:qM),(⟨3,0,0⟩:qM)]
def qBT.Post(W F:World)(r:List qM)(v:Value)(w':World):Prop:=∃(F':World)(RA0_0:OA)(rc0_0:Nat),v = .slice RA0_0 r.length rc0_0/\Sm W F w' F' [row qM.k 143 (.slice RA0_0 r.length rc0_0) r]
theorem qBT.calls(x:Int)(r:List qM)(W F:World)(hown:Sub F W)(H:qBT.f x=some r):
    Cr 92 #[iv x] W (qBT.Post W F r):=by
 have S:=sT hown
 unfold qBT.f at H
 refine ent 10 rfl rfl rfl fun a E=>?_
 refine rr E fun a E=>(sq fun K2 hK2=>pl0 (plc E (.r 0 6 .nil) fun a E=>ple E (.lit (d:=qM.k) (e:=143) S [(⟨1,0,0⟩:qM),(⟨2,1,x⟩:qM),(⟨2,2,1⟩:qM),(⟨2,3,1⟩:qM),(⟨3,0,0⟩:qM)] (.cons rfl<|.cons rfl<|.cons rfl<|.cons rfl<|.cons rfl .nil)) ?_))
 rintro _ u3 a ⟨A4,c5,rfl,S,hg⟩ E
 refine plc E (.r 7 1 .nil) fun a E=>pld (hK2 _ _ (wp_ret ?_))
 obtain rfl:=si H
 exact rt1 E ⟨_,rfl,_,_,_,rfl,S⟩
def qAd.j12:Nat->List qA->Int->Int->Bool->Option (List Int)
 | 0,_,_,_,_=>none
 | k+1,x,y,z,y11=>if y11=true then (some []) else ((qBT.f z).bind fun t22=>((qI.f k x t22 y z).bind fun t32=>(some t32)))
theorem qAd.j12_s k x y z y11:type_of% (qAd.j12.eq_2 x y z y11 k):=qAd.j12.eq_2 x y z y11 k
def qAd.f(k:Nat)(x:List qA)(y:Int)(z:Int):Option (List Int):=(qn.f k x).bind fun t5=>(if t5=true then (if y<0 then (qAd.j12 k x y z true) else (if y>7 then (qAd.j12 k x y z true) else (if z<1 then (qAd.j12 k x y z true) else (qAd.j12 k x y z (decide (z>3)))))) else (qAd.j12 k x y z true))
def qAd.Post(W F:World)(r:List Int)(v:Value)(w':World):Prop:=∃(F':World)(RA0_0:OA)(rc0_0:Nat),v = .slice RA0_0 r.length rc0_0/\Sm W F w' F' [row ki 3 (.slice RA0_0 r.length rc0_0) r]
theorem qAd.calls(k:Nat)(x:List qA)(y:Int)(z:Int)(A0_0:OA)(c0_0:Nat)(r:List Int)(W F:World)(hown:Sub F W)(g0_0:Rd qA.k F A0_0 c0_0 x)(H:qAd.f k x y z=some r):
    Cr 62 #[.slice A0_0 x.length c0_0,iv y,iv z] W (qAd.Post W F r):=by
 have S:=sT hown
 unfold qAd.f at H
 refine ent 32 rfl rfl rfl fun a E=>?_
 refine rr E fun a E=>(sq fun K2 hK2=>sq fun K3 hK3=>?_)
 have J15:∀ kq13,kq13<=k->∀(G:NV)(y11:Bool)(a:Act)(w':World),Env 32 G a->At G [(0,.slice A0_0 x.length c0_0),(1,iv y),(2,iv z),(25,.bool y11)]->Sm W F w' F []->qAd.j12 kq13 x y z y11=some r->K3 a w':=by
  intro kq13 hkq G y11 a u16 E A S H
  obtain _ | k14:=kq13
  exact zz H
  rw [qAd.j12_s]at H
  obtain ⟨J,E⟩:=E.at A
  refine hK3 _ _ (E.ib 25 H (fun c17 E H=>?_) fun c17 E H=>?_)
  refine rr E fun a E=>(wp_ret (qCc ?_))
  have S:=S.nilrow ki 3
  obtain rfl:=si H
  exact rt1 E ⟨_,rfl,_,_,_,rfl,S⟩
  refine wp_skip (hK2 _ _ (sq fun K20 hK20=>pl0 (plc E (.r 0 2 .nil) fun a E=>?_)))
  obtain ⟨t22,h23,H⟩:=bd H
  refine ple E (.cl en92 (qBT.calls z _ _ _ S.own.sub h23)) ?_
  rintro _ u21 a ⟨F24,A25,c26,rfl,hC⟩ E
  have hs:=hC.sub
  have S:=S.called (X:=[]) hC
  have g0_0:=g0_0.mono hs
  refine plc E (.r 3 2 .nil) fun a E=>?_
  obtain ⟨F29,hs,g30,S⟩:=S.give
  have g0_0:=g0_0.mono hs
  obtain ⟨t32,h33,H⟩:=bd H
  refine ple E (.cl en91 (qI.calls k14 x t22 y z _ _ _ _ _ _ _ S.own.sub g0_0 g30 h33)) ?_
  rintro _ u31 a ⟨F34,A35,c36,rfl,hC⟩ E
  have hs:=hC.sub
  have S:=S.called (X:=[]) hC
  have g0_0:=g0_0.mono hs
  refine plc E (.r 6 1 .nil) fun a E=>pld (hK20 _ _ (wp_ret ?_))
  obtain rfl:=si H
  exact rt1 E ⟨_,rfl,_,_,_,rfl,S⟩
 refine pl0 (plc E (.r 0 1 .nil) fun a E=>?_)
 obtain ⟨t5,h6,H⟩:=bd H
 refine plq E S en50 (qn.calls k x _ _ _ _ _ S.own.sub g0_0 h6) fun u4 S a E=>plc E (.r 2 2 .nil) fun a E=>E.fbn 10 H (fun c7 E H=>?_) fun c7 E H=>?_
 refine plc E (.r 4 4 .nil) fun a E=>E.fk 14 H (fun c8 E H=>?_) fun c8 E H=>?_
 refine plc E (.r 8 11 .nil) fun a E=>pld ?_
 exact J15 _ (by omega) _ true _ _ E .of S H
 refine plc E (.r 8 4 .nil) fun a E=>E.fk 18 H (fun c9 E H=>?_) fun c9 E H=>?_
 refine plc E (.r 12 7 .nil) fun a E=>pld ?_
 exact J15 _ (by omega) _ true _ _ E .of S H
 refine plc E (.r 12 4 .nil) fun a E=>E.fk 22 H (fun c10 E H=>?_) fun c10 E H=>?_
 refine plc E (.r 16 3 .nil) fun a E=>pld ?_
 exact J15 _ (by omega) _ true _ _ E .of S H
 refine plc E (.r 16 3 .nil) fun a E=>pld ?_
 exact J15 _ (by omega) _ (decide (z>3)) _ _ E .of S H
 refine plc E (.r 4 15 .nil) fun a E=>pld ?_
 exact J15 _ (by omega) _ true _ _ E .of S H
def qAe.j12:Nat->qD->Int->Bool->Option (List Int)
 | 0,_,_,_=>none
 | k+1,x,y,y11=>if y11=true then (some []) else ((qAL.f k x y).bind fun t22=>(if (t22.length:Int)>0 then (some t22) else ((qAd.f k x.f4 y x.f1).bind fun t33=>(some t33))))
theorem qAe.j12_s k x y y11:type_of% (qAe.j12.eq_2 x y y11 k):=qAe.j12.eq_2 x y y11 k
def qAe.f(k:Nat)(x:qD)(y:Int):Option (List Int):=(qe.f k x).bind fun t7=>(if t7=true then (if y<0 then (qAe.j12 k x y true) else (qAe.j12 k x y (decide (y>=x.f3)))) else (qAe.j12 k x y true))
def qAe.Post(W F:World)(r:List Int)(v:Value)(w':World):Prop:=∃(F':World)(RA0_0:OA)(rc0_0:Nat),v = .slice RA0_0 r.length rc0_0/\Sm W F w' F' []/\Rd ki F' RA0_0 rc0_0 r
theorem qAe.calls(k:Nat)(x:qD)(y:Int)(A0_4:OA)(c0_4:Nat)(A0_5:OA)(c0_5:Nat)(A0_6:OA)(c0_6:Nat)(r:List Int)(W F:World)(hown:Sub F W)(g0_4:Rd qA.k F A0_4 c0_4 x.f4)(g0_5:Rd qE.k F A0_5 c0_5 x.f5)(g0_6:Rd qC.k F A0_6 c0_6 x.f6)(H:qAe.f k x y=some r):
    Cr 34 #[.agg (mA x A0_4 c0_4 A0_5 c0_5 A0_6 c0_6),iv y] W (qAe.Post W F r):=by
 have S:=sT hown
 unfold qAe.f at H
 refine ent 32 rfl rfl rfl fun a E=>?_
 refine sq fun K1 hK1=>pl0 (plx (t:=26) E S (mL x A0_4 c0_4 A0_5 c0_5 A0_6 c0_6) fun b2 u3 hb2 S a E=>plc E (.r 1 1 .nil) fun a E=>pld (hK1 _ _ (sq fun K4 hK4=>sq fun K5 hK5=>?_)))
 have J15:∀ kq13,kq13<=k->∀(G:NV)(y11:Bool)(a:Act)(w':World),Env 32 G a->At G [(1,iv y),(2,.pointer (pb b2)),(18,.bool y11)]->Sm W F w' F [box b2 (mA x A0_4 c0_4 A0_5 c0_5 A0_6 c0_6) 26]->qAe.j12 kq13 x y y11=some r->K5 a w':=by
  intro kq13 hkq G y11 a u16 E A S H
  obtain _ | k14:=kq13
  exact zz H
  rw [qAe.j12_s]at H
  obtain ⟨J,E⟩:=E.at A
  refine hK5 _ _ (E.ib 18 H (fun c17 E H=>?_) fun c17 E H=>?_)
  refine rr E fun a E=>(wp_ret (qCc ?_))
  have S:=S.tail
  obtain rfl:=si H
  exact rt1 E ⟨_,rfl,_,_,_,rfl,S,(Rd.nil _ _)⟩
  refine wp_skip (hK4 _ _ (sq fun K19 hK19=>sq fun K20 hK20=>pl0 (plc E (.bn 0 0 7 (S.ba 0)<|.r 1 1<|.nil) fun a E=>?_)))
  obtain ⟨t22,h23,H⟩:=bd H
  refine ple E (.cl en61 (qAL.calls k14 x y _ _ _ _ _ _ _ _ _ S.own.sub g0_4 g0_5 g0_6 h23)) ?_
  rintro _ u21 a ⟨F24,A25,c26,rfl,hC,g27⟩ E
  have hs:=hC.sub
  have S:=S.called (X:=[]) hC
  have g0_4:=g0_4.mono hs
  have g0_5:=g0_5.mono hs
  have g0_6:=g0_6.mono hs
  refine plc E (.r 3 1 .nil) fun a E=>pld (hK20 _ _ (rr E fun a E=>(E.ik 24 H (fun c29 E H=>?_) fun c29 E H=>?_)))
  refine rr E fun a E=>(wp_ret (qCc ?_))
  have S:=S.tail
  obtain rfl:=si H
  exact rt1 E ⟨_,rfl,_,_,_,rfl,S,g27⟩
  refine wp_skip (hK19 _ _ (sq fun K31 hK31=>pl0 ?_))
  have hb2:=S.ba 0
  refine plc E (.r 0 1<|.b 1 4 hb2<|.r 2 2<|.b 4 1 hb2<|.nil) fun a E=>?_
  obtain ⟨t33,h34,H⟩:=bd H
  refine ple E (.cl en62 (qAd.calls k14 x.f4 y x.f1 _ _ _ _ _ S.own.sub g0_4 h34)) ?_
  rintro _ u32 a ⟨F35,A36,c37,rfl,hC⟩ E
  have hs:=hC.sub
  have S:=S.called (X:=[]) hC
  have g0_4:=g0_4.mono hs
  have g0_5:=g0_5.mono hs
  have g0_6:=g0_6.mono hs
  refine plc E (.r 6 1 .nil) fun a E=>pld (hK31 _ _ (wp_ret ?_))
  obtain ⟨F40,hs,g41,S⟩:=S.give
  have g0_4:=g0_4.mono hs
  have g0_5:=g0_5.mono hs
  have g0_6:=g0_6.mono hs
  have S:=S.tail
  obtain rfl:=si H
  exact rt1 E ⟨_,rfl,_,_,_,rfl,S,g41⟩
 refine pl0 (plc E (.bn 0 0 7 hb2 .nil) fun a E=>?_)
 obtain ⟨t7,h8,H⟩:=bd H
 refine plq E S en22 (qe.calls k x _ _ _ _ _ _ _ _ _ S.own.sub g0_4 g0_5 g0_6 h8) fun u6 S a E=>plc E (.r 2 2 .nil) fun a E=>E.fbn 9 H (fun c9 E H=>?_) fun c9 E H=>?_
 refine plc E (.r 4 4 .nil) fun a E=>E.fk 13 H (fun c10 E H=>?_) fun c10 E H=>?_
 refine plc E (.r 8 5 .nil) fun a E=>pld ?_
 exact J15 _ (by omega) _ true _ _ E .of S H
 refine plc E (.r 8 2<|.b 10 3 (S.ba 0)<|.r 11 2<|.nil) fun a E=>pld ?_
 exact J15 _ (by omega) _ (decide (y>=x.f3)) _ _ E .of S H
 refine plc E (.r 4 9 .nil) fun a E=>pld ?_
 exact J15 _ (by omega) _ true _ _ E .of S H
def qAI.l24:Nat->qD->List Int->List Int->Int->Option (List Int)
 | 0,_,_,_,_=>none
 | k+1,x,t6,l22,x23=>if x23<(t6.length:Int) then (if 0<=x23/\x23<(t6.length:Int) then ((qAH.f k x.f4 (nth 0 t6 x23)).bind fun t38=>(if t38.1.f4=true then (if ((l22.length:Int)+((1:Nat):Int)) * 8<=140737488355328 then (qAI.l24 k x t6 (l22++[(nth 0 t6 x23)]) (w64 (x23+1))) else (none)) else (qAI.l24 k x t6 l22 (w64 (x23+1))))) else (none)) else (some l22)
theorem qAI.l24_s k x t6 l22 x23:type_of% (qAI.l24.eq_2 x t6 l22 x23 k):=qAI.l24.eq_2 x t6 l22 x23 k
def qAI.f(k:Nat)(x:qD)(y:Int):Option (List Int):=(qAe.f k x y).bind fun t6=>(qAI.l24 k x t6 ([]:List Int) 0)
def qAI.Post(W F:World)(r:List Int)(v:Value)(w':World):Prop:=∃(F':World)(RA0_0:OA)(rc0_0:Nat),v = .slice RA0_0 r.length rc0_0/\Sm W F w' F' [row ki 3 (.slice RA0_0 r.length rc0_0) r]
theorem qAI.calls(k:Nat)(x:qD)(y:Int)(A0_4:OA)(c0_4:Nat)(A0_5:OA)(c0_5:Nat)(A0_6:OA)(c0_6:Nat)(r:List Int)(W F:World)(hown:Sub F W)(g0_4:Rd qA.k F A0_4 c0_4 x.f4)(g0_5:Rd qE.k F A0_5 c0_5 x.f5)(g0_6:Rd qC.k F A0_6 c0_6 x.f6)(H:qAI.f k x y=some r):
    Cr 16 #[.agg (mA x A0_4 c0_4 A0_5 c0_5 A0_6 c0_6),iv y] W (qAI.Post W F r):=by
 have S:=sT hown
 unfold qAI.f at H
 refine ent 40 rfl rfl rfl fun a E=>?_
 refine sq fun K1 hK1=>pl0 (plx (t:=26) E S (mL x A0_4 c0_4 A0_5 c0_5 A0_6 c0_6) fun b2 u3 hb2 S a E=>plc E (.r 1 1 .nil) fun a E=>pld (hK1 _ _ (sq fun K4 hK4=>pl0 (plc E (.bn 0 0 7 hb2<|.r 1 1<|.nil) fun a E=>?_))))
 obtain ⟨t6,h7,H⟩:=bd H
 refine ple E (.cl en34 (qAe.calls k x y _ _ _ _ _ _ _ _ _ S.own.sub g0_4 g0_5 g0_6 h7)) ?_
 rintro _ u5 a ⟨F8,A9,c10,rfl,hC,g11⟩ E
 have hs:=hC.sub
 have S:=S.called (X:=[]) hC
 have g0_4:=g0_4.mono hs
 refine plc E (.r 3 1 .nil) fun a E=>pld (hK4 _ _ (sq fun K12 hK12=>pl0 (ple E (.lit (d:=ki) (e:=3) S ([]:List Int) (.nil)) ?_)))
 rintro _ u13 a ⟨A14,c15,rfl,S,hg⟩ E
 refine plc E (.r 1 1 .nil) fun a E=>pld (hK12 _ _ (sq fun K17 hK17=>rr E fun a E=>(wp_block ?_)))
 have S:=S.front 1 rfl
 refine wp_loop_ghost (fun kq25 a w'=>∃(G:NV)(A20:OA)(c21:Nat)(l22:List Int)(x23:Int),kq25<=k/\Env 40 G a/\At G [(2,.pointer (pb b2)),(5,.slice A9 t6.length c10),(6,.slice A20 l22.length c21),(7,iv x23)]/\Sm W F w' F8 [box b2 (mA x A0_4 c0_4 A0_5 c0_5 A0_6 c0_6) 26,row ki 3 (.slice A20 l22.length c21) l22]/\qAI.l24 kq25 x t6 l22 x23=some r) k ⟨_,A14,c15,([]:List Int),0,Nat.le_refl _,E,.of,S,H⟩ ?_
 rintro kq25 a u27 ⟨G,A20,c21,l22,x23,hkq,E,A,S,H⟩
 obtain _ | k26:=kq25
 exact zz H
 rw [qAI.l24_s]at H
 obtain ⟨J,E⟩:=E.at A
 refine sq fun K28 hK28=>rr E fun a E=>(E.ik 17 H (fun c30 E H=>?_) fun c30 E H=>?_)
 refine wp_skip (hK28 _ _ (sq fun K31 hK31=>wp_block (sq fun K32 hK32=>?_)))
 refine drawn 13 ⟨[11],[],fun q=>False⟩ mixed rfl (by kernel_rfl) fun hst=>?_
 have S:=S.drew
 have hb2:=S.ba 0
 obtain ⟨c33,H⟩:=gd H
 have hE_:=E
 obtain ⟨ad34,rfl⟩:=g11.addr c33.1 c33.2
 replace E:=hE_
 obtain ⟨cs36,rfl,hc37⟩:=g11.el 0 x23 c33.1 c33.2
 refine mny 7 hst E (.r 0 1<|.b 1 4 hb2<|.r 2 2<|.x 4 c33<|.c 5 (S.fc hc37 0)<|.nil) fun a E=>?_
 obtain ⟨t38,h39,H⟩:=bd H
 refine meet2 (fun a w'=>∃(G:NV)(b41:Nat),Env 40 G a/\At G [(2,.pointer (pb b2)),(5,.slice (some ad34) t6.length c10),(6,.slice A20 l22.length c21),(7,iv x23),(8,.pointer (pb b41)),(28,.agg (nA t38.1)),(29,.bool t38.2)]/\Sm W F w' F8 [box b41 #[iv 0,iv 0,iv 0,iv 0,.bool false,.bool false] 68,box b2 (mA x A0_4 c0_4 A0_5 c0_5 A0_6 c0_6) 26,row ki 3 (.slice A20 l22.length c21) l22]) 2 2047 ?_ fun hJ=>?_
 rintro a u44 ⟨G,b41,E,A,S⟩
 obtain ⟨J,E⟩:=E.at A
 refine on1 11 E (.sto S (nL t38.1)) ?_
 rintro _ u45 a ⟨rfl,hb41,S,hz⟩ E
 refine ⟨.d,?_⟩
 refine mny 0 hst E (.r 12 1 .nil) fun a E=>?_
 refine dn ?_
 refine hK32 _ _ (rg E (.r 0 1<|.b 1 4 hb41<|.nil) fun a E=>(E.ib 31 H (fun c47 E H=>?_) fun c47 E H=>?_))
 refine pl0 ?_
 obtain ⟨cs49,rfl,hc50⟩:=g11.el 0 x23 c33.1 c33.2
 refine plc E (.r 0 3<|.x 3 c33<|.c 4 (S.fc hc50 0)<|.nil) fun a E=>ple E (.lit (d:=ki) (e:=3) S [(nth 0 t6 x23)] (.cons rfl .nil)) ?_
 rintro _ u51 a ⟨A52,c53,rfl,S,hg⟩ E
 obtain ⟨c55,H⟩:=gd H
 have S:=S.front 3 rfl
 refine ple E (.ap (d:=ki) 8 S (qCj (S.row_at (i:=1) rfl)) c55 c53) ?_
 rintro _ u58 a ⟨A56,c57,rfl,S,hz⟩ E
 refine plc E (.r 7 1 .nil) fun a E=>pld ?_
 refine qCe ?_
 refine hK31 _ _ (pl0 (plc E (.r 0 3 .nil) fun a E=>pld ?_))
 have S:=S.pm [3,0] 4
 exact qCf ⟨k26,by omega,_,A56,c57,(l22++[(nth 0 t6 x23)]),(w64 (x23+1)),by omega,E,.of,S,H⟩
 refine wp_skip ?_
 refine qCe ?_
 refine hK31 _ _ (pl0 (plc E (.r 0 3 .nil) fun a E=>pld ?_))
 have S:=S.tail
 exact qCf ⟨k26,by omega,_,A20,c21,l22,(w64 (x23+1)),by omega,E,.of,S,H⟩
 refine pk2 6 10 ?_ ?_
 refine pk1 6 E (.cl en49 (qAH.calls k26 x.f4 (nth 0 t6 x23) _ _ _ _ _ S.own.sub g0_4 h39)) ?_
 rintro _ u40 a ⟨_,rfl,hC⟩ E
 refine ⟨.of hC.agr,?_⟩
 have S:=S.lent hC
 refine mny 3 hst E (.r 7 3 .nil) fun a E=>?_
 refine on1 10 E (.al (t:=68) S [iv 0,iv 0,iv 0,iv 0,.bool false,.bool false]) ?_
 rintro _ u42 a ⟨b41,rfl,hb41,S,hg⟩ E
 refine ⟨.of hg,?_⟩
 exact hJ _ _ ⟨_,b41,E,.of,S⟩
 refine pk1 10 E (.al (t:=68) S [iv 0,iv 0,iv 0,iv 0,.bool false,.bool false]) ?_
 rintro _ u42 a ⟨b41,rfl,hb41,S,hg⟩ E
 refine ⟨.of hg,?_⟩
 refine on1 6 E (.cl en49 (qAH.calls k26 x.f4 (nth 0 t6 x23) _ _ _ _ _ S.own.sub g0_4 h39)) ?_
 rintro _ u40 a ⟨_,rfl,hC⟩ E
 refine ⟨.of hC.agr,?_⟩
 have S:=S.lent hC
 refine mny 2 hst E (.r 7 3 .nil) fun a E=>?_
 exact hJ _ _ ⟨_,b41,E,.of,S⟩
 refine wp_exit ?_
 refine hK17 _ _ (rr E fun a E=>(wp_ret ?_))
 have S:=S.tail
 obtain rfl:=si H
 exact rt1 E ⟨_,rfl,_,_,_,rfl,S⟩
def qBM.f(k:Nat)(x:qF)(y:qF):Option Bool:=if x.f0=y.f0 then (if x.f1=y.f1 then (if x.f2=y.f2 then (if x.f3=y.f3 then (if x.f4=y.f4 then (if x.f5=y.f5 then ((qAE.f k x.f6 y.f6).bind fun t14=>(some t14)) else (some false)) else (some false)) else (some false)) else (some false)) else (some false)) else (some false)
def qBM.Post(W F:World)(r:Bool)(v:Value)(w':World):Prop:=∃(F':World),v = .bool r/\Sm W F w' F' []
theorem qBM.calls(k:Nat)(x:qF)(y:qF)(A0_6:OA)(c0_6:Nat)(A1_6:OA)(c1_6:Nat)(r:Bool)(W F:World)(hown:Sub F W)(g0_6:Rd ki F A0_6 c0_6 x.f6)(g1_6:Rd ki F A1_6 c1_6 y.f6)(H:qBM.f k x y=some r):
    Cr 27 #[.agg (dA x A0_6 c0_6),.agg (dA y A1_6 c1_6)] W (qBM.Post W F r):=by
 have S:=sT hown
 unfold qBM.f at H
 refine ent 52 rfl rfl rfl fun a E=>?_
 refine sq fun K1 hK1=>pl0 (plx (t:=29) E S (dL x A0_6 c0_6) fun b2 u3 hb2 S a E=>plx (t:=29) E S (dL y A1_6 c1_6) fun b4 u5 hb4 S a E=>plc E (.r 2 1 .nil) fun a E=>pld (hK1 _ _ (sq fun K6 hK6=>pl0 ?_)))
 have hb2:=S.ba 1
 refine plc E (.r 0 1<|.b 1 0 hb2<|.r 2 1<|.b 3 0 hb4<|.r 4 2<|.nil) fun a E=>E.fk 10 H (fun c7 E H=>?_) fun c7 E H=>?_
 refine plc E (.r 6 1<|.b 7 1 hb2<|.r 8 1<|.b 9 1 hb4<|.r 10 3<|.nil) fun a E=>E.fk 17 H (fun c8 E H=>?_) fun c8 E H=>?_
 refine plc E (.r 13 1<|.b 14 2 hb2<|.r 15 1<|.b 16 2 hb4<|.r 17 3<|.nil) fun a E=>E.fk 24 H (fun c9 E H=>?_) fun c9 E H=>?_
 refine plc E (.r 20 1<|.b 21 3 hb2<|.r 22 1<|.b 23 3 hb4<|.r 24 3<|.nil) fun a E=>E.fk 31 H (fun c10 E H=>?_) fun c10 E H=>?_
 refine plc E (.r 27 1<|.b 28 4 hb2<|.r 29 1<|.b 30 4 hb4<|.r 31 3<|.nil) fun a E=>E.fk 38 H (fun c11 E H=>?_) fun c11 E H=>?_
 refine plc E (.r 34 1<|.b 35 5 hb2<|.r 36 1<|.b 37 5 hb4<|.r 38 3<|.nil) fun a E=>E.fk 45 H (fun c12 E H=>?_) fun c12 E H=>?_
 refine plc E (.r 41 1<|.b 42 6 hb2<|.r 43 1<|.b 44 6 hb4<|.nil) fun a E=>?_
 obtain ⟨t14,h15,H⟩:=bd H
 refine plq E S en23 (qAE.calls k x.f6 y.f6 _ _ _ _ _ _ _ S.own.sub g0_6 g1_6 h15) fun u13 S a E=>plc E (.r 46 2 .nil) fun a E=>pld (hK6 _ _ (wp_ret ?_))
 have S:=S.pm [] 2
 obtain rfl:=si H
 exact rt1 E ⟨_,rfl,_,rfl,S⟩
 refine plc E (.r 41 7 .nil) fun a E=>pld (hK6 _ _ (wp_ret ?_))
 have S:=S.pm [] 2
 obtain rfl:=si H
 exact rt1 E ⟨_,rfl,_,rfl,S⟩
 refine plc E (.r 34 14 .nil) fun a E=>pld (hK6 _ _ (wp_ret ?_))
 have S:=S.pm [] 2
 obtain rfl:=si H
 exact rt1 E ⟨_,rfl,_,rfl,S⟩
 refine plc E (.r 27 21 .nil) fun a E=>pld (hK6 _ _ (wp_ret ?_))
 have S:=S.pm [] 2
 obtain rfl:=si H
 exact rt1 E ⟨_,rfl,_,rfl,S⟩
 refine plc E (.r 20 28 .nil) fun a E=>pld (hK6 _ _ (wp_ret ?_))
 have S:=S.pm [] 2
 obtain rfl:=si H
 exact rt1 E ⟨_,rfl,_,rfl,S⟩
 refine plc E (.r 13 35 .nil) fun a E=>pld (hK6 _ _ (wp_ret ?_))
 have S:=S.pm [] 2
 obtain rfl:=si H
 exact rt1 E ⟨_,rfl,_,rfl,S⟩
 refine plc E (.r 6 42 .nil) fun a E=>pld (hK6 _ _ (wp_ret ?_))
 have S:=S.pm [] 2
 obtain rfl:=si H
 exact rt1 E ⟨_,rfl,_,rfl,S⟩
def qBU.f(x:qF):Option qF:=if x.f0=1 then (some (⟨x.f0,x.f1,x.f2,x.f3,x.f4,0,[]⟩:qF)) else (if x.f0=2 then (some (⟨x.f0,x.f1,0,0,x.f4,0,[]⟩:qF)) else (if x.f0=8 then (some (⟨x.f0,0,0,0,0,x.f5,x.f6⟩:qF)) else (if x.f0=9 then (some (⟨x.f0,0,0,0,0,0,[]⟩:qF)) else (if x.f0=10 then (some (⟨x.f0,0,0,0,x.f4,x.f5,[]⟩:qF)) else (some (⟨x.f0,x.f1,0,0,0,0,[]⟩:qF))))))
def qBU.Post(W F:World)(r:qF)(v:Value)(w':World):Prop:=∃(F':World)(RA0_6:OA)(rc0_6:Nat),v = .agg (dA r RA0_6 rc0_6)/\Sm W F w' F' []/\Rd ki F' RA0_6 rc0_6 r.f6
theorem qBU.calls(x:qF)(A0_6:OA)(c0_6:Nat)(r:qF)(W F:World)(hown:Sub F W)(g0_6:Rd ki F A0_6 c0_6 x.f6)(H:qBU.f x=some r):
    Cr 46 #[.agg (dA x A0_6 c0_6)] W (qBU.Post W F r):=by
 have S:=sT hown
 unfold qBU.f at H
 refine ent 55 rfl rfl rfl fun a E=>?_
 refine sq fun K1 hK1=>pl0 (plx (t:=29) E S (dL x A0_6 c0_6) fun b2 u3 hb2 S a E=>pla (t:=29) E S [iv 0,iv 0,iv 0,iv 0,iv 0,iv 0,.slice none 0 0] fun b4 u5 hb4 S a E=>pld (hK1 _ _ (sq fun K6 hK6=>sq fun K7 hK7=>pl0 ?_)))
 have hb2:=S.ba 1
 refine plc E (.r 0 1<|.b 1 0 hb2<|.nil) fun a E=>pld (hK7 _ _ (wp_block (rr E fun a E=>(E.ik 5 H (fun c9 E H=>?_) fun c9 E H=>?_))))
 refine sq fun K10 hK10=>pl0 (plc E (.r 0 1<|.b 1 0 hb2<|.r 2 1<|.b 3 1 hb2<|.r 4 1<|.b 5 2 hb2<|.r 6 1<|.b 7 3 hb2<|.r 8 1<|.b 9 4 hb2<|.r 10 1<|.nil) fun a E=>pls E S [iv x.f0,iv x.f1,iv x.f2,iv x.f3,iv x.f4,iv 0,.slice none 0 0] fun u11 hb4 S a E=>pld (hK10 _ _ (wp_ret (qCd (qCc ?_)))))
 have S:=S.pm [] 2
 obtain rfl:=si H
 exact ret1 E rfl (.cell (by kernel_rfl) (qCw [iv x.f0,iv x.f1,iv x.f2,iv x.f3,iv x.f4,iv 0,.slice none 0 0] ag29 sz29 hb4 rfl) .nil) ⟨_,rfl,_,_,_,rfl,S,(Rd.nil _ _)⟩
 refine rr E fun a E=>(E.ik 18 H (fun c13 E H=>?_) fun c13 E H=>?_)
 refine sq fun K14 hK14=>pl0 (plc E (.r 0 1<|.b 1 0 hb2<|.r 2 1<|.b 3 1 hb2<|.r 4 1<|.b 5 4 hb2<|.r 6 1<|.nil) fun a E=>pls E S [iv x.f0,iv x.f1,iv 0,iv 0,iv x.f4,iv 0,.slice none 0 0] fun u15 hb4 S a E=>pld (hK14 _ _ (wp_ret (qCd (qCc ?_)))))
 have S:=S.pm [] 2
 obtain rfl:=si H
 exact ret1 E rfl (.cell (by kernel_rfl) (qCw [iv x.f0,iv x.f1,iv 0,iv 0,iv x.f4,iv 0,.slice none 0 0] ag29 sz29 hb4 rfl) .nil) ⟨_,rfl,_,_,_,rfl,S,(Rd.nil _ _)⟩
 refine rr E fun a E=>(E.ik 27 H (fun c17 E H=>?_) fun c17 E H=>?_)
 refine sq fun K18 hK18=>pl0 (plc E (.r 0 1<|.b 1 0 hb2<|.r 2 1<|.b 3 5 hb2<|.r 4 1<|.b 5 6 hb2<|.r 6 1<|.nil) fun a E=>pls E S [iv x.f0,iv 0,iv 0,iv 0,iv 0,iv x.f5,.slice A0_6 x.f6.length c0_6] fun u19 hb4 S a E=>pld (hK18 _ _ (wp_ret (qCd (qCc ?_)))))
 have S:=S.pm [] 2
 obtain rfl:=si H
 exact ret1 E rfl (.cell (by kernel_rfl) (qCw [iv x.f0,iv 0,iv 0,iv 0,iv 0,iv x.f5,.slice A0_6 x.f6.length c0_6] ag29 sz29 hb4 rfl) .nil) ⟨_,rfl,_,_,_,rfl,S,g0_6⟩
 refine rr E fun a E=>(E.ik 36 H (fun c21 E H=>?_) fun c21 E H=>?_)
 refine sq fun K22 hK22=>pl0 (plc E (.r 0 1<|.b 1 0 hb2<|.r 2 1<|.nil) fun a E=>pls E S [iv x.f0,iv 0,iv 0,iv 0,iv 0,iv 0,.slice none 0 0] fun u23 hb4 S a E=>pld (hK22 _ _ (wp_ret (qCd (qCc ?_)))))
 have S:=S.pm [] 2
 obtain rfl:=si H
 exact ret1 E rfl (.cell (by kernel_rfl) (qCw [iv x.f0,iv 0,iv 0,iv 0,iv 0,iv 0,.slice none 0 0] ag29 sz29 hb4 rfl) .nil) ⟨_,rfl,_,_,_,rfl,S,(Rd.nil _ _)⟩
 refine rr E fun a E=>(E.ik 41 H (fun c25 E H=>?_) fun c25 E H=>?_)
 refine sq fun K26 hK26=>pl0 (plc E (.r 0 1<|.b 1 0 hb2<|.r 2 1<|.b 3 5 hb2<|.r 4 1<|.b 5 4 hb2<|.r 6 1<|.nil) fun a E=>pls E S [iv x.f0,iv 0,iv 0,iv 0,iv x.f4,iv x.f5,.slice none 0 0] fun u27 hb4 S a E=>pld (hK26 _ _ (wp_ret (qCd (qCc ?_)))))
 have S:=S.pm [] 2
 obtain rfl:=si H
 exact ret1 E rfl (.cell (by kernel_rfl) (qCw [iv x.f0,iv 0,iv 0,iv 0,iv x.f4,iv x.f5,.slice none 0 0] ag29 sz29 hb4 rfl) .nil) ⟨_,rfl,_,_,_,rfl,S,(Rd.nil _ _)⟩
 refine wp_skip ?_
 refine qCe ?_
 refine hK6 _ _ (sq fun K28 hK28=>pl0 (plc E (.r 0 1<|.b 1 0 hb2<|.r 2 1<|.b 3 1 hb2<|.r 4 1<|.nil) fun a E=>pls E S [iv x.f0,iv x.f1,iv 0,iv 0,iv 0,iv 0,.slice none 0 0] fun u29 hb4 S a E=>pld (hK28 _ _ (wp_ret ?_))))
 have S:=S.pm [] 2
 obtain rfl:=si H
 exact ret1 E rfl (.cell (by kernel_rfl) (qCw [iv x.f0,iv x.f1,iv 0,iv 0,iv 0,iv 0,.slice none 0 0] ag29 sz29 hb4 rfl) .nil) ⟨_,rfl,_,_,_,rfl,S,(Rd.nil _ _)⟩
mutual
def qo.j13:Nat->qD->qF->Bool->Option (qD × Int)
 | 0,_,_,_=>none
 | k+1,x,y,y12=>if y12=true then (some (x,1)) else ((qAL.f k x y.f5).bind fun t24=>((qAE.f k t24 y.f6).bind fun t31=>(if t31=true then (some (x,7)) else ((qp.f k x.f4 y.f6).bind fun t39=>(if t39=true then (qo.l57 k x y ([]:List qE) 0) else (some (x,12)))))))
def qo.l57:Nat->qD->qF->List qE->Int->Option (qD × Int)
 | 0,_,_,_,_=>none
 | k+1,x,y,l54,x55=>if x55<x.f3 then ((qAL.f k x x55).bind fun t67=>(if x55=y.f5 then (qo.j80 k x y l54 x55 y.f6) else (qo.j80 k x y l54 x55 t67))) else (some ((⟨x.f0,x.f1,x.f2,x.f3,x.f4,l54,x.f6⟩:qD),0))
def qo.j80:Nat->qD->qF->List qE->Int->List Int->Option (qD × Int)
 | 0,_,_,_,_,_=>none
 | k+1,x,y,l54,x55,l78=>if (l78.length:Int)>0 then (if ((l54.length:Int)+((1:Nat):Int)) * 32<=140737488355328 then (qo.l57 k x y (l54++[(⟨x55,l78⟩:qE)]) (w64 (x55+1))) else (none)) else (qo.l57 k x y l54 (w64 (x55+1)))
end
theorem qo.j13_s k x y y12:type_of% (qo.j13.eq_2 x y y12 k):=qo.j13.eq_2 x y y12 k
theorem qo.l57_s k x y l54 x55:type_of% (qo.l57.eq_2 x y l54 x55 k):=qo.l57.eq_2 x y l54 x55 k
theorem qo.j80_s k x y l54 x55 l78:type_of% (qo.j80.eq_2 x y l54 x55 l78 k):=qo.j80.eq_2 x y l54 x55 l78 k
def qo.f(k:Nat)(x:qD)(y:qF):Option (qD × Int):=if y.f5<0 then (qo.j13 k x y true) else (if y.f5>=x.f3 then (qo.j13 k x y true) else (qo.j13 k x y (decide ((y.f6.length:Int)>x.f1))))
def qo.Post(W F:World)(r:qD × Int)(v:Value)(w':World):Prop:=∃(F':World)(RA0_4:OA)(rc0_4:Nat)(RA0_5:OA)(rc0_5:Nat)(RA0_6:OA)(rc0_6:Nat),v = .tuple #[.agg (mA r.1 RA0_4 rc0_4 RA0_5 rc0_5 RA0_6 rc0_6),iv r.2]/\Sm W F w' F' []/\Rd qA.k F' RA0_4 rc0_4 r.1.f4/\Rd qE.k F' RA0_5 rc0_5 r.1.f5/\Rd qC.k F' RA0_6 rc0_6 r.1.f6
theorem qo.calls(k:Nat)(x:qD)(y:qF)(A0_4:OA)(c0_4:Nat)(A0_5:OA)(c0_5:Nat)(A0_6:OA)(c0_6:Nat)(A1_6:OA)(c1_6:Nat)(r:qD × Int)(W F:World)(hown:Sub F W)(g0_4:Rd qA.k F A0_4 c0_4 x.f4)(g0_5:Rd qE.k F A0_5 c0_5 x.f5)(g0_6:Rd qC.k F A0_6 c0_6 x.f6)(g1_6:Rd ki F A1_6 c1_6 y.f6)(H:qo.f k x y=some r):
    Cr 76 #[.agg (mA x A0_4 c0_4 A0_5 c0_5 A0_6 c0_6),.agg (dA y A1_6 c1_6)] W (qo.Post W F r):=by
 have S:=sT hown
 unfold qo.f at H
 refine ent 71 rfl rfl rfl fun a E=>?_
 refine sq fun K1 hK1=>pl0 (plx (t:=26) E S (mL x A0_4 c0_4 A0_5 c0_5 A0_6 c0_6) fun b2 u3 hb2 S a E=>plx (t:=29) E S (dL y A1_6 c1_6) fun b4 u5 hb4 S a E=>pla (t:=26) E S [iv 0,iv 0,iv 0,iv 0,.slice none 0 0,.slice none 0 0,.slice none 0 0] fun b6 u7 hb6 S a E=>plc E (.r 3 1 .nil) fun a E=>pld (hK1 _ _ (sq fun K8 hK8=>sq fun K9 hK9=>?_)))
 have J16:∀ kq14,kq14<=k->∀(G:NV)(y12:Bool)(a:Act)(w':World),Env 71 G a->At G [(2,.pointer (pb b2)),(3,.pointer (pb b4)),(4,.pointer (pb b6)),(26,.bool y12)]->Sm W F w' F [box b6 #[iv 0,iv 0,iv 0,iv 0,.slice none 0 0,.slice none 0 0,.slice none 0 0] 26,box b4 (dA y A1_6 c1_6) 29,box b2 (mA x A0_4 c0_4 A0_5 c0_5 A0_6 c0_6) 26]->qo.j13 kq14 x y y12=some r->K9 a w':=by
  intro kq14 hkq G y12 a u17 E A S H
  obtain _ | k15:=kq14
  exact zz H
  rw [qo.j13_s]at H
  obtain ⟨J,E⟩:=E.at A
  refine hK9 _ _ (E.ib 26 H (fun c18 E H=>?_) fun c18 E H=>?_)
  refine sq fun K19 hK19=>pl0 (plc E (.bn 0 0 7 (S.ba 2) .nil) fun a E=>pls E S (mL x A0_4 c0_4 A0_5 c0_5 A0_6 c0_6) fun u20 hb6 S a E=>plc E (.r 2 1 .nil) fun a E=>pld (hK19 _ _ (wp_ret (qCc ?_))))
  have S:=S.pm [] 3
  obtain rfl:=si H
  exact rtm E (.b hb6 ag26 sz26 (.t .nil)) ⟨_,rfl,_,_,_,_,_,_,_,rfl,S,g0_4,g0_5,g0_6⟩
  refine wp_skip (hK8 _ _ (sq fun K21 hK21=>sq fun K22 hK22=>?_))
  refine drawn 7 ⟨[],[],fun q=>False⟩ mixed rfl (by kernel_rfl) fun hst=>?_
  have S:=S.drew
  have hb2:=S.ba 2
  have hb4:=S.ba 1
  refine mny 2 hst E (.bn 0 0 7 hb2<|.r 1 1<|.b 2 5 hb4<|.r 4 1<|.b 5 6 hb4<|.nil) fun a E=>?_
  obtain ⟨t24,h25,H⟩:=bd H
  refine on1 3 E (.cl en61 (qAL.calls k15 x y.f5 _ _ _ _ _ _ _ _ _ S.own.sub g0_4 g0_5 g0_6 h25)) ?_
  rintro _ u23 a ⟨F26,A27,c28,rfl,hC,g29⟩ E
  refine ⟨.of hC.agr,?_⟩
  have hs:=hC.sub
  have S:=S.called (X:=[]) hC
  have g0_4:=g0_4.mono hs
  have g0_5:=g0_5.mono hs
  have g0_6:=g0_6.mono hs
  have g1_6:=g1_6.mono hs
  obtain ⟨t31,h32,H⟩:=bd H
  refine on1 6 E (.cl en23 (qAE.calls k15 t24 y.f6 _ _ _ _ _ _ _ S.own.sub g29 g1_6 h32)) ?_
  rintro _ u30 a ⟨_,rfl,hC⟩ E
  refine ⟨.of hC.agr,?_⟩
  have S:=S.lent hC
  refine dn ?_
  refine hK22 _ _ (E.ib 34 H (fun c33 E H=>?_) fun c33 E H=>?_)
  refine sq fun K34 hK34=>pl0 (plc E (.bn 0 0 7 (S.ba 2) .nil) fun a E=>pls E S (mL x A0_4 c0_4 A0_5 c0_5 A0_6 c0_6) fun u35 hb6 S a E=>plc E (.r 2 1 .nil) fun a E=>pld (hK34 _ _ (wp_ret (qCc ?_))))
  have S:=S.pm [] 3
  obtain rfl:=si H
  exact rtm E (.b hb6 ag26 sz26 (.t .nil)) ⟨_,rfl,_,_,_,_,_,_,_,rfl,S,g0_4,g0_5,g0_6⟩
  refine wp_skip (hK21 _ _ (sq fun K36 hK36=>sq fun K37 hK37=>pl0 ?_))
  have hb2:=S.ba 2
  have hb4:=S.ba 1
  refine plc E (.r 0 1<|.b 1 4 hb2<|.r 2 1<|.b 3 6 hb4<|.nil) fun a E=>?_
  obtain ⟨t39,h40,H⟩:=bd H
  refine plq E S en17 (qp.calls k15 x.f4 y.f6 _ _ _ _ _ _ _ S.own.sub g0_4 g1_6 h40) fun u38 S a E=>plc E (.r 5 1 .nil) fun a E=>pld (hK37 _ _ (E.ibn 41 H (fun c41 E H=>?_) fun c41 E H=>?_))
  refine wp_skip (hK36 _ _ (sq fun K44 hK44=>pl0 (ple E (.lit (d:=qE.k) (e:=75) S ([]:List qE) (.nil)) ?_)))
  rintro _ u45 a ⟨A46,c47,rfl,S,hg⟩ E
  refine plc E (.r 1 1 .nil) fun a E=>pld (hK44 _ _ (sq fun K49 hK49=>rr E fun a E=>(wp_block ?_)))
  have S:=S.pm [1,2,3,0] 4
  refine wp_loop_ghost (fun kq58 a w'=>∃(G:NV)(A52:OA)(c53:Nat)(l54:List qE)(x55:Int)(F56:World),kq58<=k15/\Env 71 G a/\At G [(2,.pointer (pb b2)),(3,.pointer (pb b4)),(4,.pointer (pb b6)),(6,.slice A52 l54.length c53),(7,iv x55)]/\Sm W F w' F56 [box b6 #[iv 0,iv 0,iv 0,iv 0,.slice none 0 0,.slice none 0 0,.slice none 0 0] 26,box b4 (dA y A1_6 c1_6) 29,box b2 (mA x A0_4 c0_4 A0_5 c0_5 A0_6 c0_6) 26,row qE.k 75 (.slice A52 l54.length c53) l54]/\Rd ki F56 A1_6 c1_6 y.f6/\Rd qA.k F56 A0_4 c0_4 x.f4/\Rd qE.k F56 A0_5 c0_5 x.f5/\Rd qC.k F56 A0_6 c0_6 x.f6/\qo.l57 kq58 x y l54 x55=some r) k15 ⟨_,A46,c47,([]:List qE),0,F26,Nat.le_refl _,E,.of,S,g1_6,g0_4,g0_5,g0_6,H⟩ ?_
  rintro kq58 a u60 ⟨G,A52,c53,l54,x55,F56,hkq,E,A,S,g1_6,g0_4,g0_5,g0_6,H⟩
  obtain _ | k59:=kq58
  exact zz H
  rw [qo.l57_s]at H
  obtain ⟨J,E⟩:=E.at A
  refine sq fun K61 hK61=>sq fun K62 hK62=>pl0 ?_
  have hb2:=S.ba 2
  refine plc E (.r 0 2<|.b 2 3 hb2<|.r 3 1<|.nil) fun a E=>pld (hK62 _ _ (E.ik 47 H (fun c63 E H=>?_) fun c63 E H=>?_))
  refine wp_skip (hK61 _ _ (sq fun K64 hK64=>wp_block (sq fun K65 hK65=>pl0 (plc E (.bn 0 0 7 hb2<|.r 1 1<|.nil) fun a E=>?_))))
  obtain ⟨t67,h68,H⟩:=bd H
  refine ple E (.cl en61 (qAL.calls k59 x x55 _ _ _ _ _ _ _ _ _ S.own.sub g0_4 g0_5 g0_6 h68)) ?_
  rintro _ u66 a ⟨F69,A70,c71,rfl,hC,g72⟩ E
  have hs:=hC.sub
  have S:=S.called (X:=[]) hC
  have g0_4:=g0_4.mono hs
  have g0_5:=g0_5.mono hs
  have g0_6:=g0_6.mono hs
  have g1_6:=g1_6.mono hs
  refine plc E (.r 3 1 .nil) fun a E=>pld (hK65 _ _ (sq fun K73 hK73=>?_))
  have J83:∀ kq81,kq81<=k59->∀(G:NV)(A76:OA)(c77:Nat)(l78:List Int)(a:Act)(w':World),Env 71 G a->At G [(2,.pointer (pb b2)),(3,.pointer (pb b4)),(4,.pointer (pb b6)),(6,.slice A52 l54.length c53),(7,iv x55),(8,.slice A76 l78.length c77)]->Sm W F w' F69 [box b6 #[iv 0,iv 0,iv 0,iv 0,.slice none 0 0,.slice none 0 0,.slice none 0 0] 26,box b4 (dA y A1_6 c1_6) 29,box b2 (mA x A0_4 c0_4 A0_5 c0_5 A0_6 c0_6) 26,row qE.k 75 (.slice A52 l54.length c53) l54]->Rd ki F69 A76 c77 l78->qo.j80 kq81 x y l54 x55 l78=some r->K73 a w':=by
   intro kq81 hkq G A76 c77 l78 a u84 E A S g79 H
   obtain _ | k82:=kq81
   exact zz H
   rw [qo.j80_s]at H
   obtain ⟨J,E⟩:=E.at A
   refine hK73 _ _ (rr E fun a E=>(E.ik 61 H (fun c86 E H=>?_) fun c86 E H=>?_))
   refine pl0 (plc E (.r 0 4 .nil) fun a E=>ple E (.lit (d:=qE.k) (e:=75) S [(⟨x55,l78⟩:qE)] (.cons ⟨_,_,rfl,g79⟩ .nil)) ?_)
   rintro _ u87 a ⟨A88,c89,rfl,S,hg⟩ E
   obtain ⟨c91,H⟩:=gd H
   have S:=S.front 4 rfl
   refine ple E (.ap (d:=qE.k) 32 S (qCj (S.row_at (i:=1) rfl)) c91 c89) ?_
   rintro _ u94 a ⟨A92,c93,rfl,S,hz⟩ E
   refine plc E (.r 6 1 .nil) fun a E=>pld ?_
   refine qCe ?_
   refine hK64 _ _ (pl0 (plc E (.r 0 3 .nil) fun a E=>pld ?_))
   have S:=S.pm [2,3,4,0] 5
   exact qCf ⟨k82,by omega,_,A92,c93,(l54++[(⟨x55,l78⟩:qE)]),(w64 (x55+1)),F69,by omega,E,.of,S,g1_6,g0_4,g0_5,g0_6,H⟩
   refine wp_skip ?_
   refine qCe ?_
   refine hK64 _ _ (pl0 (plc E (.r 0 3 .nil) fun a E=>pld ?_))
   exact qCf ⟨k82,by omega,_,A52,c53,l54,(w64 (x55+1)),F69,by omega,E,.of,S,g1_6,g0_4,g0_5,g0_6,H⟩
  refine sq fun K74 hK74=>pl0 ?_
  have hb4:=S.ba 1
  refine plc E (.r 0 2<|.b 2 5 hb4<|.r 3 1<|.nil) fun a E=>pld (hK74 _ _ (E.ik 56 H (fun c75 E H=>?_) fun c75 E H=>?_))
  refine pl0 (plc E (.r 0 1<|.b 1 6 hb4<|.r 2 1<|.nil) fun a E=>pld ?_)
  exact J83 _ (by omega) _ A1_6 c1_6 y.f6 _ _ E .of S g1_6 H
  refine wp_skip ?_
  exact J83 _ (by omega) _ A70 c71 t67 _ _ E .of S g72 H
  refine wp_exit ?_
  refine hK49 _ _ (sq fun K95 hK95=>pl0 (plc E (.r 0 2 .nil) fun a E=>?_))
  have S:=S.front 2 rfl
  refine pls E S [iv x.f0,iv x.f1,iv x.f2,iv x.f3,.slice A0_4 x.f4.length c0_4,.slice A52 l54.length c53,.slice A0_6 x.f6.length c0_6] fun u96 hb2 S a E=>pld (hK95 _ _ (sq fun K97 hK97=>pl0 (plc E (.bn 0 0 7 hb2 .nil) fun a E=>?_)))
  have S:=S.front 1 rfl
  refine pls E S [iv x.f0,iv x.f1,iv x.f2,iv x.f3,.slice A0_4 x.f4.length c0_4,.slice A52 l54.length c53,.slice A0_6 x.f6.length c0_6] fun u98 hb6 S a E=>plc E (.r 2 1 .nil) fun a E=>pld (hK97 _ _ (wp_ret ?_))
  have S:=S.front 3 rfl
  obtain ⟨F99,hs,g100,S⟩:=S.give
  have g0_4:=g0_4.mono hs
  have g0_6:=g0_6.mono hs
  have S:=S.pm [] 3
  obtain rfl:=si H
  exact rtm E (.b hb6 ag26 sz26 (.t .nil)) ⟨_,rfl,_,_,_,_,_,_,_,rfl,S,g0_4,g100,g0_6⟩
  refine sq fun K42 hK42=>pl0 (plc E (.bn 0 0 7 (S.ba 2) .nil) fun a E=>pls E S (mL x A0_4 c0_4 A0_5 c0_5 A0_6 c0_6) fun u43 hb6 S a E=>plc E (.r 2 1 .nil) fun a E=>pld (hK42 _ _ (wp_ret (qCc ?_))))
  have S:=S.pm [] 3
  obtain rfl:=si H
  exact rtm E (.b hb6 ag26 sz26 (.t .nil)) ⟨_,rfl,_,_,_,_,_,_,_,rfl,S,g0_4,g0_5,g0_6⟩
 refine pl0 ?_
 have hb4:=S.ba 1
 refine plc E (.r 0 1<|.b 1 5 hb4<|.r 2 2<|.nil) fun a E=>E.fk 12 H (fun c10 E H=>?_) fun c10 E H=>?_
 refine plc E (.r 4 14 .nil) fun a E=>pld ?_
 exact J16 _ (by omega) _ true _ _ E .of S H
 have hb2:=S.ba 2
 refine plc E (.r 4 1<|.b 5 5 hb4<|.r 6 1<|.b 7 3 hb2<|.r 8 3<|.nil) fun a E=>E.fk 19 H (fun c11 E H=>?_) fun c11 E H=>?_
 refine plc E (.r 11 7 .nil) fun a E=>pld ?_
 exact J16 _ (by omega) _ true _ _ E .of S H
 refine plc E (.r 11 1<|.b 12 6 hb4<|.r 13 2<|.b 15 1 hb2<|.r 16 2<|.nil) fun a E=>pld ?_
 exact J16 _ (by omega) _ (decide ((y.f6.length:Int)>x.f1)) _ _ E .of S H
mutual
def qk.l18:Nat->List qA->qA->List qA->Bool->Int->Option (List qA)
 | 0,_,_,_,_,_=>none
 | k+1,x,y,l15,y16,x17=>if x17<(x.length:Int) then (if y16=true then (qk.j36 k x y l15 x17 true false) else (if 0<=x17/\x17<(x.length:Int) then (qk.j36 k x y l15 x17 false (decide ((nth qA.z x x17).f0>=y.f0))) else (none))) else (if y16=true then (some l15) else (if ((l15.length:Int)+((1:Nat):Int)) * 40<=140737488355328 then (some (l15++[y])) else (none)))
def qk.j36:Nat->List qA->qA->List qA->Int->Bool->Bool->Option (List qA)
 | 0,_,_,_,_,_,_=>none
 | k+1,x,y,l15,x17,y34,y35=>if y35=true then (if ((l15.length:Int)+((1:Nat):Int)) * 40<=140737488355328 then (qk.j56 k x y x17 (l15++[y]) true) else (none)) else (qk.j56 k x y x17 l15 y34)
def qk.j56:Nat->List qA->qA->Int->List qA->Bool->Option (List qA)
 | 0,_,_,_,_,_=>none
 | k+1,x,y,x17,l54,y55=>if 0<=x17/\x17<(x.length:Int) then (if (nth qA.z x x17).f0=y.f0 then (qk.l18 k x y l54 y55 (w64 (x17+1))) else (if ((l54.length:Int)+((1:Nat):Int)) * 40<=140737488355328 then (qk.l18 k x y (l54++[(nth qA.z x x17)]) y55 (w64 (x17+1))) else (none))) else (none)
end
theorem qk.l18_s k x y l15 y16 x17:type_of% (qk.l18.eq_2 x y l15 y16 x17 k):=qk.l18.eq_2 x y l15 y16 x17 k
theorem qk.j36_s k x y l15 x17 y34 y35:type_of% (qk.j36.eq_2 x y l15 x17 y34 y35 k):=qk.j36.eq_2 x y l15 x17 y34 y35 k
theorem qk.j56_s k x y x17 l54 y55:type_of% (qk.j56.eq_2 x y x17 l54 y55 k):=qk.j56.eq_2 x y x17 l54 y55 k
def qk.f(k:Nat)(x:List qA)(y:qA)(z:Bool):Option (List qA):=qk.l18 k x y ([]:List qA) z 0
def qk.Post(W F:World)(r:List qA)(v:Value)(w':World):Prop:=∃(F':World)(RA0_0:OA)(rc0_0:Nat),v = .slice RA0_0 r.length rc0_0/\Sm W F w' F' [row qA.k 68 (.slice RA0_0 r.length rc0_0) r]
theorem qk.calls(k:Nat)(x:List qA)(y:qA)(z:Bool)(A0_0:OA)(c0_0:Nat)(r:List qA)(W F:World)(hown:Sub F W)(g0_0:Rd qA.k F A0_0 c0_0 x)(H:qk.f k x y z=some r):
    Cr 77 #[.slice A0_0 x.length c0_0,.agg (nA y),.bool z] W (qk.Post W F r):=by
 have S:=sT hown
 unfold qk.f at H
 refine ent 56 rfl rfl rfl fun a E=>?_
 refine sq fun K1 hK1=>pl0 (plx (t:=68) E S (nL y) fun b2 u3 hb2 S a E=>plc E (.r 1 1 .nil) fun a E=>pld (hK1 _ _ (sq fun K4 hK4=>pl0 (ple E (.lit (d:=qA.k) (e:=68) S ([]:List qA) (.nil)) ?_))))
 rintro _ u5 a ⟨A6,c7,rfl,S,hg⟩ E
 refine plc E (.r 1 1 .nil) fun a E=>pld (hK4 _ _ (rr E fun a E=>(sq fun K10 hK10=>rr E fun a E=>(wp_block ?_))))
 have S:=S.front 1 rfl
 refine wp_loop_ghost (fun kq19 a w'=>∃(G:NV)(A13:OA)(c14:Nat)(l15:List qA)(y16:Bool)(x17:Int),kq19<=k/\Env 56 G a/\At G [(0,.slice A0_0 x.length c0_0),(4,.pointer (pb b2)),(7,.slice A13 l15.length c14),(8,.bool y16),(9,iv x17)]/\Sm W F w' F [box b2 (nA y) 68,row qA.k 68 (.slice A13 l15.length c14) l15]/\qk.l18 kq19 x y l15 y16 x17=some r) k ⟨_,A6,c7,([]:List qA),z,0,Nat.le_refl _,E,.of,S,H⟩ ?_
 rintro kq19 a u21 ⟨G,A13,c14,l15,y16,x17,hkq,E,A,S,H⟩
 obtain _ | k20:=kq19
 exact zz H
 rw [qk.l18_s]at H
 obtain ⟨J,E⟩:=E.at A
 refine sq fun K22 hK22=>rr E fun a E=>(E.ik 15 H (fun c24 E H=>?_) fun c24 E H=>?_)
 refine wp_skip (hK22 _ _ (sq fun K25 hK25=>wp_block (sq fun K26 hK26=>?_)))
 have J59:∀ kq57,kq57<=k20->∀(G:NV)(A52:OA)(c53:Nat)(l54:List qA)(y55:Bool)(a:Act)(w':World),Env 56 G a->At G [(0,.slice A0_0 x.length c0_0),(4,.pointer (pb b2)),(7,.slice A52 l54.length c53),(8,.bool y55),(9,iv x17)]->Sm W F w' F [box b2 (nA y) 68,row qA.k 68 (.slice A52 l54.length c53) l54]->qk.j56 kq57 x y x17 l54 y55=some r->K26 a w':=by
  intro kq57 hkq G A52 c53 l54 y55 a u60 E A S H
  obtain _ | k58:=kq57
  exact zz H
  rw [qk.j56_s]at H
  obtain ⟨J,E⟩:=E.at A
  refine hK26 _ _ (sq fun K61 hK61=>?_)
  refine drawn 8 ⟨[],[],fun q=>False⟩ mixed rfl (by kernel_rfl) fun hst=>?_
  have S:=S.drew
  obtain ⟨c62,H⟩:=gd H
  have hE_:=E
  obtain ⟨ad63,rfl⟩:=g0_0.addr c62.1 c62.2
  replace E:=hE_
  obtain ⟨cs65,rfl,hc66⟩:=g0_0.el qA.z x17 c62.1 c62.2
  have hb2:=S.ba 0
  refine mny 0 hst E (.r 0 2<|.x 2 c62<|.r 3 1<|.c 4 (S.fc hc66 0)<|.r 5 1<|.b 6 0 hb2<|.r 7 1<|.nil) fun a E=>?_
  refine dn ?_
  refine hK61 _ _ (E.ikn 41 H (fun c67 E H=>?_) fun c67 E H=>?_)
  refine wp_skip ?_
  refine qCe ?_
  refine hK25 _ _ (pl0 (plc E (.r 0 3 .nil) fun a E=>pld ?_))
  exact qCf ⟨k58,by omega,_,A52,c53,l54,y55,(w64 (x17+1)),by omega,E,.of,S,H⟩
  refine pl0 (plc E (.r 0 3<|.x 3 c62<|.cs 4 (S.fcs hc66)<|.nil) fun a E=>ple E (.lit (d:=qA.k) (e:=68) S [(nth qA.z x x17)] (.cons rfl .nil)) ?_)
  rintro _ u71 a ⟨A72,c73,rfl,S,hg⟩ E
  obtain ⟨c75,H⟩:=gd H
  have S:=S.front 2 rfl
  refine ple E (.ap (d:=qA.k) 40 S (qCj (S.row_at (i:=1) rfl)) c75 c73) ?_
  rintro _ u78 a ⟨A76,c77,rfl,S,hz⟩ E
  refine plc E (.r 7 1 .nil) fun a E=>pld ?_
  refine qCe ?_
  refine hK25 _ _ (pl0 (plc E (.r 0 3 .nil) fun a E=>pld ?_))
  have S:=S.pm [2,0] 3
  exact qCf ⟨k58,by omega,_,A76,c77,(l54++[(nth qA.z x x17)]),y55,(w64 (x17+1)),by omega,E,.of,S,H⟩
 refine sq fun K27 hK27=>?_
 have J39:∀ kq37,kq37<=k20->∀(G:NV)(y34:Bool)(y35:Bool)(a:Act)(w':World),Env 56 G a->At G [(0,.slice A0_0 x.length c0_0),(4,.pointer (pb b2)),(7,.slice A13 l15.length c14),(8,.bool y34),(9,iv x17),(29,.bool y35)]->Sm W F w' F [box b2 (nA y) 68,row qA.k 68 (.slice A13 l15.length c14) l15]->qk.j36 kq37 x y l15 x17 y34 y35=some r->K27 a w':=by
  intro kq37 hkq G y34 y35 a u40 E A S H
  obtain _ | k38:=kq37
  exact zz H
  rw [qk.j36_s]at H
  obtain ⟨J,E⟩:=E.at A
  refine hK27 _ _ (E.ib 29 H (fun c41 E H=>?_) fun c41 E H=>?_)
  refine sq fun K42 hK42=>pl0 (plc E (.r 0 1<|.bn 1 0 6 (S.ba 0)<|.nil) fun a E=>ple E (.lit (d:=qA.k) (e:=68) S [y] (.cons rfl .nil)) ?_)
  rintro _ u43 a ⟨A44,c45,rfl,S,hg⟩ E
  obtain ⟨c47,H⟩:=gd H
  have S:=S.front 2 rfl
  refine ple E (.ap (d:=qA.k) 40 S (qCj (S.row_at (i:=1) rfl)) c47 c45) ?_
  rintro _ u50 a ⟨A48,c49,rfl,S,hz⟩ E
  refine plc E (.r 4 1 .nil) fun a E=>pld (hK42 _ _ (pl0 (plc E (.r 0 1 .nil) fun a E=>pld ?_)))
  have S:=S.pm [2,0] 3
  exact J59 _ (by omega) _ A48 c49 (l15++[y]) true _ _ E .of S H
  refine wp_skip ?_
  exact J59 _ (by omega) _ A13 c14 l15 y34 _ _ E .of S H
 refine drawn 12 ⟨[],[],fun q=>False⟩ mixed rfl (by kernel_rfl) fun hst=>?_
 have S:=S.drew
 refine mny 9 hst E (.r 0 3 .nil) fun a E=>?_
 refine E.fb 8 H (fun c28 E H=>?_) fun c28 E H=>?_
 replace E:=E.btn 20 c28
 refine mny 0 hst E (.r 3 9 .nil) fun a E=>?_
 refine dn ?_
 exact J39 _ (by omega) _ true false _ _ E .of S H
 replace E:=E.bfn 20 c28
 obtain ⟨c29,H⟩:=gd H
 have hE_:=E
 obtain ⟨ad30,rfl⟩:=g0_0.addr c29.1 c29.2
 replace E:=hE_
 obtain ⟨cs32,rfl,hc33⟩:=g0_0.el qA.z x17 c29.1 c29.2
 have hb2:=S.ba 0
 refine mny 0 hst E (.r 3 2<|.x 5 c29<|.r 6 1<|.c 7 (S.fc hc33 0)<|.r 8 1<|.b 9 0 hb2<|.r 10 2<|.nil) fun a E=>?_
 refine dn ?_
 exact J39 _ (by omega) _ false (decide ((nth qA.z x x17).f0>=y.f0)) _ _ E .of S H
 refine wp_exit ?_
 refine hK10 _ _ (sq fun K79 hK79=>rr E fun a E=>(E.ibn 50 H (fun c81 E H=>?_) fun c81 E H=>?_))
 refine wp_skip (hK79 _ _ (rr E fun a E=>(wp_ret ?_)))
 have S:=S.tail
 obtain rfl:=si H
 exact rt1 E ⟨_,rfl,_,_,_,rfl,S⟩
 refine pl0 (plc E (.r 0 1<|.bn 1 0 6 (S.ba 0)<|.nil) fun a E=>ple E (.lit (d:=qA.k) (e:=68) S [y] (.cons rfl .nil)) ?_)
 rintro _ u82 a ⟨A83,c84,rfl,S,hg⟩ E
 obtain ⟨c86,H⟩:=gd H
 have S:=S.front 2 rfl
 refine ple E (.ap (d:=qA.k) 40 S (qCj (S.row_at (i:=1) rfl)) c86 c84) ?_
 rintro _ u89 a ⟨A87,c88,rfl,S,hz⟩ E
 refine plc E (.r 4 1 .nil) fun a E=>pld (hK79 _ _ (rr E fun a E=>(wp_ret ?_)))
 have S:=S.pm [0] 3
 obtain rfl:=si H
 exact rt1 E ⟨_,rfl,_,_,_,rfl,S⟩
end Go.Proofs.YthgfhlbjkmjlpaaGreat.GD
