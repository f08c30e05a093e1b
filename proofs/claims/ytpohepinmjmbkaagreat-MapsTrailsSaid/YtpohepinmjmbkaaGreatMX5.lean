import Derived.Test.YtpohepinmjmbkaaGreatMX4
namespace Go.Proofs.YtpohepinmjmbkaaGreat.MX
open Go Go.RowKit Go.Proofs.YtpohepinmjmbkaaGreat.Sl
set_option linter.unusedVariables false
set_option linter.unusedSimpArgs false
set_option maxHeartbeats 4000000
set_option maxRecDepth 100000
mutual
def qAN.j45:Nat→qG→Int→qU→Bool→Option (qG × Int)
 | 0,_,_,_,_=>none
 | k+1,x,y,z,y44=>if y44=true then (if ((nth qA.z x.f4 y).f4)=(z.f0 == 3) then (some (x,7)) else (some ((⟨x.f0,x.f1,x.f2,x.f3,(x.f4.set (y).toNat (⟨(nth qA.z x.f4 y).f0,(nth qA.z x.f4 y).f1,(nth qA.z x.f4 y).f2,(nth qA.z x.f4 y).f3,(z.f0 == 3),(nth qA.z x.f4 y).f5⟩:qA)),x.f5,x.f6⟩:qG),0))) else (if z.f0=5 then (qAN.j64 k x y z true) else (qAN.j64 k x y z (z.f0 == 6)))
def qAN.j64:Nat→qG→Int→qU→Bool→Option (qG × Int)
 | 0,_,_,_,_=>none
 | k+1,x,y,z,y63=>if y63=true then (if ((nth qA.z x.f4 y).f5)=(z.f0 == 6) then (some (x,7)) else (some ((⟨x.f0,x.f1,x.f2,x.f3,(x.f4.set (y).toNat (⟨(nth qA.z x.f4 y).f0,(nth qA.z x.f4 y).f1,(nth qA.z x.f4 y).f2,(nth qA.z x.f4 y).f3,(nth qA.z x.f4 y).f4,(z.f0 == 6)⟩:qA)),x.f5,x.f6⟩:qG),0))) else ((qk.f k x.f5 z).bind fun t81=>(if ((nth qA.z x.f4 y).f4)=true then (qAN.j103 k x y true) else (if ((nth qA.z x.f4 y).f5)=true then (if (nth qA.z x.f4 y).f3>0 then (qAN.j103 k x y true) else (if t81=true then (qAN.j103 k x y true) else ((qAv.f k x z.f1).bind fun t96=>(qAN.j103 k x y t96)))) else (if t81=true then (qAN.j103 k x y true) else ((qAv.f k x z.f1).bind fun t100=>(qAN.j103 k x y t100))))))
def qAN.j103:Nat→qG→Int→Bool→Option (qG × Int)
 | 0,_,_,_=>none
 | k+1,x,y,y102=>if y102=true then (some (x,11)) else ((qAI.f x.f4 y (w64 (y+1))).bind fun t113=>(some ((⟨x.f0,x.f1,x.f2,x.f3,t113,x.f5,x.f6⟩:qG),0)))
end
theorem qAN.j45_s k x y z y44:type_of% (qAN.j45.eq_2 x y z y44 k):=qAN.j45.eq_2 x y z y44 k
theorem qAN.j64_s k x y z y63:type_of% (qAN.j64.eq_2 x y z y63 k):=qAN.j64.eq_2 x y z y63 k
theorem qAN.j103_s k x y y102:type_of% (qAN.j103.eq_2 x y y102 k):=qAN.j103.eq_2 x y y102 k
def qAN.f(k:Nat)(x:qG)(y:Int)(z:qU):Option (qG × Int):=if 0≤y∧y<(x.f4.length:Int) then (if z.f0=2 then ((qAZ.f z.f4 0 65536).bind fun t22=>(if t22=true then (if (nth qA.z x.f4 y).f3=z.f4 then (some (x,7)) else (some ((⟨x.f0,x.f1,x.f2,x.f3,(x.f4.set (y).toNat (⟨(nth qA.z x.f4 y).f0,(nth qA.z x.f4 y).f1,(nth qA.z x.f4 y).f2,z.f4,(nth qA.z x.f4 y).f4,(nth qA.z x.f4 y).f5⟩:qA)),x.f5,x.f6⟩:qG),0))) else (some (x,1)))) else (if z.f0=3 then (qAN.j45 k x y z true) else (qAN.j45 k x y z (z.f0 == 4)))) else (none)
def qAN.Post(x:qG)(y:Int)(z:qU)(A0_4:OA)(c0_4:Nat)(A0_5:OA)(c0_5:Nat)(A0_6:OA)(c0_6:Nat)(A2_6:OA)(c2_6:Nat)(W F:World)(r:qG × Int)(v:Value)(w':World):Prop:=∃(F':World)(RA0_4:OA)(rc0_4:Nat)(RA0_5:OA)(rc0_5:Nat)(RA0_6:OA)(rc0_6:Nat),v = .tuple #[.agg #[iv r.1.f0,iv r.1.f1,iv r.1.f2,iv r.1.f3,.slice RA0_4 r.1.f4.length rc0_4,.slice RA0_5 r.1.f5.length rc0_5,.slice RA0_6 r.1.f6.length rc0_6],iv r.2]∧St W (mine W [row qA.k 104 (.slice A0_4 x.f4.length c0_4) x.f4]) F w' F' [row qA.k 104 (.slice RA0_4 r.1.f4.length rc0_4) r.1.f4]∧Rd qE.k F' RA0_5 rc0_5 r.1.f5∧Rd qD.k F' RA0_6 rc0_6 r.1.f6
theorem qAN.calls(k:Nat)(x:qG)(y:Int)(z:qU)(A0_4:OA)(c0_4:Nat)(A0_5:OA)(c0_5:Nat)(A0_6:OA)(c0_6:Nat)(A2_6:OA)(c2_6:Nat)(r:qG × Int)(W F:World)(hown:Own W F [row qA.k 104 (.slice A0_4 x.f4.length c0_4) x.f4])(g0_5:Rd qE.k F A0_5 c0_5 x.f5)(g0_6:Rd qD.k F A0_6 c0_6 x.f6)(g2_6:Rd ki F A2_6 c2_6 z.f6)(H:qAN.f k x y z=some r):
    Cr 136 #[.agg #[iv x.f0,iv x.f1,iv x.f2,iv x.f3,.slice A0_4 x.f4.length c0_4,.slice A0_5 x.f5.length c0_5,.slice A0_6 x.f6.length c0_6],iv y,.agg #[iv z.f0,iv z.f1,iv z.f2,iv z.f3,iv z.f4,iv z.f5,.slice A2_6 z.f6.length c2_6]] W (qAN.Post x y z A0_4 c0_4 A0_5 c0_5 A0_6 c0_6 A2_6 c2_6 W F r):=by
 have S:=St.start hown
 obtain ⟨N,hN⟩:∃ N,N=mine W [row qA.k 104 (.slice A0_4 x.f4.length c0_4) x.f4]:=⟨_,rfl⟩
 rw [← hN]at S
 unfold qAN.f at H
 refine ent 98 rfl rfl rfl (fun a E=>?_)
 refine sq fun K1 hK1=>pl0 (plx (t:=26) E S [iv x.f0,iv x.f1,iv x.f2,iv x.f3,.slice A0_4 x.f4.length c0_4,.slice A0_5 x.f5.length c0_5,.slice A0_6 x.f6.length c0_6] fun b2 u3 hb2 S a E=>plx (t:=40) E S [iv z.f0,iv z.f1,iv z.f2,iv z.f3,iv z.f4,iv z.f5,.slice A2_6 z.f6.length c2_6] fun b4 u5 hb4 S a E=>pla (t:=26) E S [iv 0,iv 0,iv 0,iv 0,.slice none 0 0,.slice none 0 0,.slice none 0 0] fun b6 u7 hb6 S a E=>plc E (.r 3 1 .nil) (fun a E=>pld (hK1 _ _ (sq fun K8 hK8=>pl0 ?_))))
 have hb2:=S.ba 2
 obtain ⟨c9,H⟩:=gd H
 have hr10:=S.ra 3
 have hE_:=E
 obtain ⟨b11,rfl⟩:=qBf hr10 c9.1 c9.2
 replace E:=hE_
 have hr_:=S.ra 3
 obtain ⟨cs13,rfl,hc14⟩:=qBe hr_ qA.z y c9.1 c9.2
 refine plc E (.r 0 1<|.b 1 4 hb2<|.r 2 1<|.x 3 c9<|.r 4 1<|.nil) (fun a E=>pld (hK8 _ _ (sq fun K15 hK15=>sq fun K16 hK16=>pl0 ?_)))
 have hb4:=S.ba 1
 refine plc E (.r 0 1<|.b 1 0 hb4<|.nil) (fun a E=>pld (hK16 _ _ (wp_block (rr E fun a E=>(E.ik 16 H (fun c18 E H=>?_) fun c18 E H=>?_)))))
 refine sq fun K19 hK19=>sq fun K20 hK20=>pl0 (plc E (.r 0 1<|.b 1 4 hb4<|.nil) (fun a E=>?_))
 obtain ⟨t22,h23,H⟩:=bd H
 refine plq E S en70 (qAZ.calls z.f4 0 65536 _ _ _ S.own.sub h23) fun u21 S a E=>plc E (.r 3 1 .nil) (fun a E=>pld (hK20 _ _ (E.ibn 21 H (fun c24 E H=>?_) fun c24 E H=>?_)))
 refine wp_skip (hK19 _ _ (sq fun K27 hK27=>sq fun K28 hK28=>?_))
 refine drawn 7 ⟨[],[],fun q=>False⟩ mixed rfl (by kernel_rfl) (fun hst=>?_)
 replace S:=S.drew
 obtain ⟨cs29,rfl,hc30⟩:=qBe (S.row_at (i:=3) rfl) qA.z y c9.1 c9.2
 have hb4:=S.ba 1
 refine mny 0 hst E (.r 0 3<|.c 3 (hc30 3 _ rfl)<|.r 4 1<|.b 5 4 hb4<|.r 6 1<|.nil) (fun a E=>?_)
 refine dn ?_
 refine hK28 _ _ (E.ik 29 H (fun c31 E H=>?_) fun c31 E H=>?_)
 refine sq fun K32 hK32=>pl0 (plc E (.bn 0 0 7 (S.ba 2) .nil) (fun a E=>pls E S [iv x.f0,iv x.f1,iv x.f2,iv x.f3,.slice (pb b11) x.f4.length c0_4,.slice A0_5 x.f5.length c0_5,.slice A0_6 x.f6.length c0_6] fun u33 hb6 S a E=>plc E (.r 2 1 .nil) (fun a E=>pld (hK32 _ _ (wp_ret (qBZ (qBa (qBZ ?_))))))))
 replace S:=S.pm [] 3
 rw [hN]at S
 obtain rfl:=si H
 exact rtm E (.b hb6 ag26 sz26 (.t .nil)) ⟨_,rfl,_,_,_,_,_,_,_,rfl,S,g0_5,g0_6⟩
 refine wp_skip (hK27 _ _ (sq fun K34 hK34=>pl0 (plc E (.r 0 2<|.b 2 4 hb4<|.r 3 2<|.nil) (fun a E=>?_))))
 replace S:=S.front 3 rfl
 obtain ⟨cs36,rfl,hc37⟩:=qBe (S.row_at (i:=0) rfl) qA.z y c9.1 c9.2
 refine ple E (.set (d:=qA.k) (n:=x.f4.length) (i:=y) (⟨(nth qA.z x.f4 y).f0,(nth qA.z x.f4 y).f1,(nth qA.z x.f4 y).f2,z.f4,(nth qA.z x.f4 y).f4,(nth qA.z x.f4 y).f5⟩:qA) 3 (ea1 _ _ _) S c9 [iv ((nth qA.z x.f4 y).f0),iv ((nth qA.z x.f4 y).f1),iv ((nth qA.z x.f4 y).f2),iv ((nth qA.z x.f4 y).f3),.bool ((nth qA.z x.f4 y).f4),.bool ((nth qA.z x.f4 y).f5)] hc37 [iv ((nth qA.z x.f4 y).f0),iv ((nth qA.z x.f4 y).f1),iv ((nth qA.z x.f4 y).f2),iv z.f4,.bool ((nth qA.z x.f4 y).f4),.bool ((nth qA.z x.f4 y).f5)] rfl) ?_
 rintro _ u35 a ⟨rfl,S,hz⟩ E
 refine pld (hK34 _ _ (sq fun K38 hK38=>pl0 (plc E (.bn 0 0 7 (S.ba 3) .nil) (fun a E=>?_))))
 replace S:=S.front 1 rfl
 refine pls E S [iv x.f0,iv x.f1,iv x.f2,iv x.f3,.slice (pb b11) x.f4.length c0_4,.slice A0_5 x.f5.length c0_5,.slice A0_6 x.f6.length c0_6] fun u39 hb6 S a E=>plc E (.r 2 1 .nil) (fun a E=>pld (hK38 _ _ (wp_ret (qBa (qBZ ?_)))))
 have hn40:=(qBd (S.row_at (i:=1) rfl)).1
 replace S:St W N F u39 F [box b6 #[iv x.f0,iv x.f1,iv x.f2,iv x.f3,.slice (pb b11) ((x.f4.set (y).toNat (⟨(nth qA.z x.f4 y).f0,(nth qA.z x.f4 y).f1,(nth qA.z x.f4 y).f2,z.f4,(nth qA.z x.f4 y).f4,(nth qA.z x.f4 y).f5⟩:qA)).length) c0_4,.slice A0_5 x.f5.length c0_5,.slice A0_6 x.f6.length c0_6] 26,row qA.k 104 (.slice (pb b11) ((x.f4.set (y).toNat (⟨(nth qA.z x.f4 y).f0,(nth qA.z x.f4 y).f1,(nth qA.z x.f4 y).f2,z.f4,(nth qA.z x.f4 y).f4,(nth qA.z x.f4 y).f5⟩:qA)).length) c0_4) (x.f4.set (y).toNat (⟨(nth qA.z x.f4 y).f0,(nth qA.z x.f4 y).f1,(nth qA.z x.f4 y).f2,z.f4,(nth qA.z x.f4 y).f4,(nth qA.z x.f4 y).f5⟩:qA)),box b4 #[iv z.f0,iv z.f1,iv z.f2,iv z.f3,iv z.f4,iv z.f5,.slice A2_6 z.f6.length c2_6] 40,box b2 #[iv x.f0,iv x.f1,iv x.f2,iv x.f3,.slice (pb b11) ((x.f4.set (y).toNat (⟨(nth qA.z x.f4 y).f0,(nth qA.z x.f4 y).f1,(nth qA.z x.f4 y).f2,z.f4,(nth qA.z x.f4 y).f4,(nth qA.z x.f4 y).f5⟩:qA)).length) c0_4,.slice A0_5 x.f5.length c0_5,.slice A0_6 x.f6.length c0_6] 26]:=by rw [← hn40]; exact S
 have hb6:=S.ba 0
 replace S:=S.pm [1] 4
 rw [hN]at S
 obtain rfl:=si H
 exact rtm E (.b hb6 ag26 sz26 (.t .nil)) ⟨_,rfl,_,_,_,_,_,_,_,rfl,S,g0_5,g0_6⟩
 refine sq fun K25 hK25=>pl0 (plc E (.bn 0 0 7 (S.ba 2) .nil) (fun a E=>pls E S [iv x.f0,iv x.f1,iv x.f2,iv x.f3,.slice (pb b11) x.f4.length c0_4,.slice A0_5 x.f5.length c0_5,.slice A0_6 x.f6.length c0_6] fun u26 hb6 S a E=>plc E (.r 2 1 .nil) (fun a E=>pld (hK25 _ _ (wp_ret (qBZ (qBa (qBZ ?_))))))))
 replace S:=S.pm [] 3
 rw [hN]at S
 obtain rfl:=si H
 exact rtm E (.b hb6 ag26 sz26 (.t .nil)) ⟨_,rfl,_,_,_,_,_,_,_,rfl,S,g0_5,g0_6⟩
 refine sq fun K41 hK41=>?_
 have J48:∀ kq46,kq46≤k→∀(G:NV)(y44:Bool)(a:Act)(w':World),Env 98 G a→At G [(1,iv y),(3,.pointer (pb b2)),(5,.pointer (pb b4)),(6,.pointer (pb b6)),(8,.pointer (some ((⟨b11,0,none⟩:Addr).add (y.toNat * 6)))),(15,iv z.f0),(37,.bool y44)]→St W N F w' F [box b6 #[iv 0,iv 0,iv 0,iv 0,.slice none 0 0,.slice none 0 0,.slice none 0 0] 26,box b4 #[iv z.f0,iv z.f1,iv z.f2,iv z.f3,iv z.f4,iv z.f5,.slice A2_6 z.f6.length c2_6] 40,box b2 #[iv x.f0,iv x.f1,iv x.f2,iv x.f3,.slice (pb b11) x.f4.length c0_4,.slice A0_5 x.f5.length c0_5,.slice A0_6 x.f6.length c0_6] 26,row qA.k 104 (.slice (pb b11) x.f4.length c0_4) x.f4]→qAN.j45 kq46 x y z y44=some r→K41 a w':=by
  intro kq46 hkq G y44 a u49 E A S H
  obtain _ | k47:=kq46
  exact zz H
  rw [qAN.j45_s]at H
  obtain ⟨J,E⟩:=E.at A
  refine hK41 _ _ (E.ib 37 H (fun c50 E H=>?_) fun c50 E H=>?_)
  refine sq fun K51 hK51=>?_
  refine drawn 10 ⟨[7,8],[7],fun q=>q=b11⟩ mixed rfl (by kernel_rfl) (fun hst=>?_)
  replace S:=S.drew
  have ne52:¬ (b2=b11):=by intro h; exact S.ne_row (i:=2) (j:=3) rfl rfl (by decide) h
  have hb2:=S.ba 2
  have hb4:=S.ba 1
  refine mny 3 hst E (.bnX 0 0 7 hb2 ne52<|.r 1 4<|.b 5 0 hb4<|.r 6 1<|.nil) (fun a E=>?_)
  replace S:=S.front 3 rfl
  obtain ⟨cs53,rfl,hc54⟩:=qBe (S.row_at (i:=0) rfl) qA.z y c9.1 c9.2
  rcases sp H with ⟨c56,H⟩ | ⟨c56,H⟩
  refine on1 7 E (.cl en180 (qBW.same (z.f0 == 3) _ _ (hc54 4 _ rfl) c56)) ?_
  rintro _ _ a ⟨rfl,rfl⟩ E
  refine ⟨.of (Agr.refl _),?_⟩
  replace S:=S.front 1 rfl
  refine on1 8 E (.sto S [iv x.f0,iv x.f1,iv x.f2,iv x.f3,.slice (pb b11) x.f4.length c0_4,.slice A0_5 x.f5.length c0_5,.slice A0_6 x.f6.length c0_6]) ?_
  rintro _ u57 a ⟨rfl,hb6,S,hz⟩ E
  refine ⟨.d,?_⟩
  refine mny 0 hst E (.r 9 1 .nil) (fun a E=>?_)
  refine dn ?_
  refine hK51 _ _ (wp_ret (qBa (qBZ ?_)))
  replace S:=S.pm [1] 4
  rw [hN]at S
  obtain rfl:=si H
  exact rtm E (.b hb6 ag26 sz26 (.t .nil)) ⟨_,rfl,_,_,_,_,_,_,_,rfl,S,g0_5,g0_6⟩
  refine on1 7 E (.cl en180 (qBW.turn (n:=x.f4.length) (i:=y) S (⟨(nth qA.z x.f4 y).f0,(nth qA.z x.f4 y).f1,(nth qA.z x.f4 y).f2,(nth qA.z x.f4 y).f3,(z.f0 == 3),(nth qA.z x.f4 y).f5⟩:qA) 4 c9 [iv ((nth qA.z x.f4 y).f0),iv ((nth qA.z x.f4 y).f1),iv ((nth qA.z x.f4 y).f2),iv ((nth qA.z x.f4 y).f3),.bool ((nth qA.z x.f4 y).f4),.bool ((nth qA.z x.f4 y).f5)] hc54 ((nth qA.z x.f4 y).f4) (z.f0 == 3) [iv ((nth qA.z x.f4 y).f0),iv ((nth qA.z x.f4 y).f1),iv ((nth qA.z x.f4 y).f2),iv ((nth qA.z x.f4 y).f3),.bool (z.f0 == 3),.bool ((nth qA.z x.f4 y).f5)] rfl rfl c56)) ?_
  rintro _ u55 a ⟨rfl,S,hX⟩ E
  refine ⟨.c hX,?_⟩
  replace S:=S.front 1 rfl
  refine on1 8 E (.sto S [iv x.f0,iv x.f1,iv x.f2,iv x.f3,.slice (pb b11) x.f4.length c0_4,.slice A0_5 x.f5.length c0_5,.slice A0_6 x.f6.length c0_6]) ?_
  rintro _ u58 a ⟨rfl,hb6,S,hz⟩ E
  refine ⟨.d,?_⟩
  refine mny 0 hst E (.r 9 1 .nil) (fun a E=>?_)
  refine dn ?_
  refine hK51 _ _ (wp_ret (qBa (qBZ ?_)))
  have hn59:=(qBd (S.row_at (i:=1) rfl)).1
  replace S:St W N F u58 F [box b6 #[iv x.f0,iv x.f1,iv x.f2,iv x.f3,.slice (pb b11) ((x.f4.set (y).toNat (⟨(nth qA.z x.f4 y).f0,(nth qA.z x.f4 y).f1,(nth qA.z x.f4 y).f2,(nth qA.z x.f4 y).f3,(z.f0 == 3),(nth qA.z x.f4 y).f5⟩:qA)).length) c0_4,.slice A0_5 x.f5.length c0_5,.slice A0_6 x.f6.length c0_6] 26,row qA.k 104 (.slice (pb b11) ((x.f4.set (y).toNat (⟨(nth qA.z x.f4 y).f0,(nth qA.z x.f4 y).f1,(nth qA.z x.f4 y).f2,(nth qA.z x.f4 y).f3,(z.f0 == 3),(nth qA.z x.f4 y).f5⟩:qA)).length) c0_4) (x.f4.set (y).toNat (⟨(nth qA.z x.f4 y).f0,(nth qA.z x.f4 y).f1,(nth qA.z x.f4 y).f2,(nth qA.z x.f4 y).f3,(z.f0 == 3),(nth qA.z x.f4 y).f5⟩:qA)),box b4 #[iv z.f0,iv z.f1,iv z.f2,iv z.f3,iv z.f4,iv z.f5,.slice A2_6 z.f6.length c2_6] 40,box b2 #[iv x.f0,iv x.f1,iv x.f2,iv x.f3,.slice (pb b11) ((x.f4.set (y).toNat (⟨(nth qA.z x.f4 y).f0,(nth qA.z x.f4 y).f1,(nth qA.z x.f4 y).f2,(nth qA.z x.f4 y).f3,(z.f0 == 3),(nth qA.z x.f4 y).f5⟩:qA)).length) c0_4,.slice A0_5 x.f5.length c0_5,.slice A0_6 x.f6.length c0_6] 26]:=by rw [← hn59]; exact S
  have hb6:=S.ba 0
  replace S:=S.pm [1] 4
  rw [hN]at S
  obtain rfl:=si H
  exact rtm E (.b hb6 ag26 sz26 (.t .nil)) ⟨_,rfl,_,_,_,_,_,_,_,rfl,S,g0_5,g0_6⟩
  refine sq fun K60 hK60=>?_
  have J67:∀ kq65,kq65≤k47→∀(G:NV)(y63:Bool)(a:Act)(w':World),Env 98 G a→At G [(1,iv y),(3,.pointer (pb b2)),(5,.pointer (pb b4)),(6,.pointer (pb b6)),(8,.pointer (some ((⟨b11,0,none⟩:Addr).add (y.toNat * 6)))),(48,.bool y63)]→St W N F w' F [box b6 #[iv 0,iv 0,iv 0,iv 0,.slice none 0 0,.slice none 0 0,.slice none 0 0] 26,box b4 #[iv z.f0,iv z.f1,iv z.f2,iv z.f3,iv z.f4,iv z.f5,.slice A2_6 z.f6.length c2_6] 40,box b2 #[iv x.f0,iv x.f1,iv x.f2,iv x.f3,.slice (pb b11) x.f4.length c0_4,.slice A0_5 x.f5.length c0_5,.slice A0_6 x.f6.length c0_6] 26,row qA.k 104 (.slice (pb b11) x.f4.length c0_4) x.f4]→qAN.j64 kq65 x y z y63=some r→K60 a w':=by
   intro kq65 hkq G y63 a u68 E A S H
   obtain _ | k66:=kq65
   exact zz H
   rw [qAN.j64_s]at H
   obtain ⟨J,E⟩:=E.at A
   refine hK60 _ _ (E.ib 48 H (fun c69 E H=>?_) fun c69 E H=>?_)
   refine sq fun K70 hK70=>?_
   refine drawn 10 ⟨[7,8],[7],fun q=>q=b11⟩ mixed rfl (by kernel_rfl) (fun hst=>?_)
   replace S:=S.drew
   have ne71:¬ (b2=b11):=by intro h; exact S.ne_row (i:=2) (j:=3) rfl rfl (by decide) h
   have hb2:=S.ba 2
   have hb4:=S.ba 1
   refine mny 3 hst E (.bnX 0 0 7 hb2 ne71<|.r 1 4<|.b 5 0 hb4<|.r 6 1<|.nil) (fun a E=>?_)
   replace S:=S.front 3 rfl
   obtain ⟨cs72,rfl,hc73⟩:=qBe (S.row_at (i:=0) rfl) qA.z y c9.1 c9.2
   rcases sp H with ⟨c75,H⟩ | ⟨c75,H⟩
   refine on1 7 E (.cl en180 (qBW.same (z.f0 == 6) _ _ (hc73 5 _ rfl) c75)) ?_
   rintro _ _ a ⟨rfl,rfl⟩ E
   refine ⟨.of (Agr.refl _),?_⟩
   replace S:=S.front 1 rfl
   refine on1 8 E (.sto S [iv x.f0,iv x.f1,iv x.f2,iv x.f3,.slice (pb b11) x.f4.length c0_4,.slice A0_5 x.f5.length c0_5,.slice A0_6 x.f6.length c0_6]) ?_
   rintro _ u76 a ⟨rfl,hb6,S,hz⟩ E
   refine ⟨.d,?_⟩
   refine mny 0 hst E (.r 9 1 .nil) (fun a E=>?_)
   refine dn ?_
   refine hK70 _ _ (wp_ret (qBa (qBZ ?_)))
   replace S:=S.pm [1] 4
   rw [hN]at S
   obtain rfl:=si H
   exact rtm E (.b hb6 ag26 sz26 (.t .nil)) ⟨_,rfl,_,_,_,_,_,_,_,rfl,S,g0_5,g0_6⟩
   refine on1 7 E (.cl en180 (qBW.turn (n:=x.f4.length) (i:=y) S (⟨(nth qA.z x.f4 y).f0,(nth qA.z x.f4 y).f1,(nth qA.z x.f4 y).f2,(nth qA.z x.f4 y).f3,(nth qA.z x.f4 y).f4,(z.f0 == 6)⟩:qA) 5 c9 [iv ((nth qA.z x.f4 y).f0),iv ((nth qA.z x.f4 y).f1),iv ((nth qA.z x.f4 y).f2),iv ((nth qA.z x.f4 y).f3),.bool ((nth qA.z x.f4 y).f4),.bool ((nth qA.z x.f4 y).f5)] hc73 ((nth qA.z x.f4 y).f5) (z.f0 == 6) [iv ((nth qA.z x.f4 y).f0),iv ((nth qA.z x.f4 y).f1),iv ((nth qA.z x.f4 y).f2),iv ((nth qA.z x.f4 y).f3),.bool ((nth qA.z x.f4 y).f4),.bool (z.f0 == 6)] rfl rfl c75)) ?_
   rintro _ u74 a ⟨rfl,S,hX⟩ E
   refine ⟨.c hX,?_⟩
   replace S:=S.front 1 rfl
   refine on1 8 E (.sto S [iv x.f0,iv x.f1,iv x.f2,iv x.f3,.slice (pb b11) x.f4.length c0_4,.slice A0_5 x.f5.length c0_5,.slice A0_6 x.f6.length c0_6]) ?_
   rintro _ u77 a ⟨rfl,hb6,S,hz⟩ E
   refine ⟨.d,?_⟩
   refine mny 0 hst E (.r 9 1 .nil) (fun a E=>?_)
   refine dn ?_
   refine hK70 _ _ (wp_ret (qBa (qBZ ?_)))
   have hn78:=(qBd (S.row_at (i:=1) rfl)).1
   replace S:St W N F u77 F [box b6 #[iv x.f0,iv x.f1,iv x.f2,iv x.f3,.slice (pb b11) ((x.f4.set (y).toNat (⟨(nth qA.z x.f4 y).f0,(nth qA.z x.f4 y).f1,(nth qA.z x.f4 y).f2,(nth qA.z x.f4 y).f3,(nth qA.z x.f4 y).f4,(z.f0 == 6)⟩:qA)).length) c0_4,.slice A0_5 x.f5.length c0_5,.slice A0_6 x.f6.length c0_6] 26,row qA.k 104 (.slice (pb b11) ((x.f4.set (y).toNat (⟨(nth qA.z x.f4 y).f0,(nth qA.z x.f4 y).f1,(nth qA.z x.f4 y).f2,(nth qA.z x.f4 y).f3,(nth qA.z x.f4 y).f4,(z.f0 == 6)⟩:qA)).length) c0_4) (x.f4.set (y).toNat (⟨(nth qA.z x.f4 y).f0,(nth qA.z x.f4 y).f1,(nth qA.z x.f4 y).f2,(nth qA.z x.f4 y).f3,(nth qA.z x.f4 y).f4,(z.f0 == 6)⟩:qA)),box b4 #[iv z.f0,iv z.f1,iv z.f2,iv z.f3,iv z.f4,iv z.f5,.slice A2_6 z.f6.length c2_6] 40,box b2 #[iv x.f0,iv x.f1,iv x.f2,iv x.f3,.slice (pb b11) ((x.f4.set (y).toNat (⟨(nth qA.z x.f4 y).f0,(nth qA.z x.f4 y).f1,(nth qA.z x.f4 y).f2,(nth qA.z x.f4 y).f3,(nth qA.z x.f4 y).f4,(z.f0 == 6)⟩:qA)).length) c0_4,.slice A0_5 x.f5.length c0_5,.slice A0_6 x.f6.length c0_6] 26]:=by rw [← hn78]; exact S
   have hb6:=S.ba 0
   replace S:=S.pm [1] 4
   rw [hN]at S
   obtain rfl:=si H
   exact rtm E (.b hb6 ag26 sz26 (.t .nil)) ⟨_,rfl,_,_,_,_,_,_,_,rfl,S,g0_5,g0_6⟩
   refine wp_skip ?_
   refine qBb ?_
   refine hK15 _ _ (sq fun K79 hK79=>pl0 ?_)
   have hb2:=S.ba 2
   refine plc E (.r 0 1<|.b 1 5 hb2<|.r 2 1<|.nil) (fun a E=>?_)
   obtain ⟨t81,h82,H⟩:=bd H
   refine plq E S en181 (qk.calls k66 x.f5 z _ _ _ _ _ _ _ _ (Sub.refl _) (g0_5.mono S.own.sub) (g2_6.mono S.own.sub) (S.ba 1) h82) fun u80 S a E=>plc E (.r 4 1 .nil) (fun a E=>pld (hK79 _ _ (sq fun K83 hK83=>sq fun K84 hK84=>?_)))
   have J106:∀ kq104,kq104≤k66→∀(G:NV)(y102:Bool)(a:Act)(w':World),Env 98 G a→At G [(1,iv y),(3,.pointer (pb b2)),(6,.pointer (pb b6)),(88,.bool y102)]→St W N F w' F [box b6 #[iv 0,iv 0,iv 0,iv 0,.slice none 0 0,.slice none 0 0,.slice none 0 0] 26,box b4 #[iv z.f0,iv z.f1,iv z.f2,iv z.f3,iv z.f4,iv z.f5,.slice A2_6 z.f6.length c2_6] 40,box b2 #[iv x.f0,iv x.f1,iv x.f2,iv x.f3,.slice (pb b11) x.f4.length c0_4,.slice A0_5 x.f5.length c0_5,.slice A0_6 x.f6.length c0_6] 26,row qA.k 104 (.slice (pb b11) x.f4.length c0_4) x.f4]→qAN.j103 kq104 x y y102=some r→K84 a w':=by
    intro kq104 hkq G y102 a u107 E A S H
    obtain _ | k105:=kq104
    exact zz H
    rw [qAN.j103_s]at H
    obtain ⟨J,E⟩:=E.at A
    refine hK84 _ _ (E.ib 88 H (fun c108 E H=>?_) fun c108 E H=>?_)
    refine sq fun K109 hK109=>pl0 (plc E (.bn 0 0 7 (S.ba 2) .nil) (fun a E=>pls E S [iv x.f0,iv x.f1,iv x.f2,iv x.f3,.slice (pb b11) x.f4.length c0_4,.slice A0_5 x.f5.length c0_5,.slice A0_6 x.f6.length c0_6] fun u110 hb6 S a E=>plc E (.r 2 1 .nil) (fun a E=>pld (hK109 _ _ (wp_ret (qBZ ?_))))))
    replace S:=S.pm [] 3
    rw [hN]at S
    obtain rfl:=si H
    exact rtm E (.b hb6 ag26 sz26 (.t .nil)) ⟨_,rfl,_,_,_,_,_,_,_,rfl,S,g0_5,g0_6⟩
    refine wp_skip (hK83 _ _ (sq fun K111 hK111=>pl0 (plc E (.r 0 1<|.b 1 4 (S.ba 2)<|.r 2 3<|.nil) (fun a E=>?_))))
    replace S:=S.front 3 rfl
    obtain ⟨t113,h114,H⟩:=bd H
    refine ple E (.cl en184 (qAI.calls x.f4 y (w64 (y+1)) _ _ _ _ _ (Own.left (X:=[row qA.k 104 (.slice (pb b11) x.f4.length c0_4) x.f4]) S.own) h114)) ?_
    rintro _ u112 a ⟨F115,A116,c117,rfl,hC⟩ E
    have hs:=hC.sub
    replace S:=S.called (X:=[row qA.k 104 (.slice (pb b11) x.f4.length c0_4) x.f4]) hC
    replace g2_6:=g2_6.mono hs
    replace g0_5:=g0_5.mono hs
    replace g0_6:=g0_6.mono hs
    refine plc E (.r 6 1 .nil) (fun a E=>?_)
    replace S:=S.front 3 rfl
    refine pls E S [iv x.f0,iv x.f1,iv x.f2,iv x.f3,.slice A116 t113.length c117,.slice A0_5 x.f5.length c0_5,.slice A0_6 x.f6.length c0_6] fun u120 hb2 S a E=>pld (hK111 _ _ (sq fun K121 hK121=>pl0 (plc E (.bn 0 0 7 hb2 .nil) (fun a E=>?_))))
    replace S:=S.front 2 rfl
    refine pls E S [iv x.f0,iv x.f1,iv x.f2,iv x.f3,.slice A116 t113.length c117,.slice A0_5 x.f5.length c0_5,.slice A0_6 x.f6.length c0_6] fun u122 hb6 S a E=>plc E (.r 2 1 .nil) (fun a E=>pld (hK121 _ _ (wp_ret ?_)))
    replace S:=S.pm [2] 4
    rw [hN]at S
    obtain rfl:=si H
    exact rtm E (.b hb6 ag26 sz26 (.t .nil)) ⟨_,rfl,_,_,_,_,_,_,_,rfl,S,g0_5,g0_6⟩
   refine pl0 ?_
   obtain ⟨cs85,rfl,hc86⟩:=qBe (S.row_at (i:=3) rfl) qA.z y c9.1 c9.2
   refine plc E (.r 0 3<|.c 3 (hc86 4 _ rfl)<|.r 4 1<|.nil) (fun a E=>E.fb 67 H (fun c87 E H=>?_) fun c87 E H=>?_)
   refine plc E (.r 5 21 .nil) (fun a E=>pld ?_)
   exact J106 _ (by omega) _ true _ _ E .of S H
   obtain ⟨cs88,rfl,hc89⟩:=qBe (S.row_at (i:=3) rfl) qA.z y c9.1 c9.2
   refine plc E (.r 5 3<|.c 8 (hc89 5 _ rfl)<|.r 9 1<|.nil) (fun a E=>E.fb 72 H (fun c90 E H=>?_) fun c90 E H=>?_)
   obtain ⟨cs91,rfl,hc92⟩:=qBe (S.row_at (i:=3) rfl) qA.z y c9.1 c9.2
   refine plc E (.r 10 3<|.c 13 (hc92 3 _ rfl)<|.r 14 4<|.nil) (fun a E=>E.fk 80 H (fun c93 E H=>?_) fun c93 E H=>?_)
   refine plc E (.r 18 8 .nil) (fun a E=>pld ?_)
   exact J106 _ (by omega) _ true _ _ E .of S H
   refine plc E (.r 18 3 .nil) (fun a E=>E.fb 83 H (fun c94 E H=>?_) fun c94 E H=>?_)
   refine plc E (.r 21 5 .nil) (fun a E=>pld ?_)
   exact J106 _ (by omega) _ true _ _ E .of S H
   refine plc E (.bn 21 0 7 (S.ba 2)<|.r 22 1<|.b 23 1 (S.ba 1)<|.nil) (fun a E=>?_)
   obtain ⟨t96,h97,H⟩:=bd H
   refine plq E S en183 (qAv.calls k66 x z.f1 _ _ _ _ _ _ _ _ _ (Sub.refl _) (S.rd_at (i:=3) rfl) (g0_5.mono S.own.sub) (g0_6.mono S.own.sub) h97) fun u95 S a E=>plc E (.r 25 1 .nil) (fun a E=>pld ?_)
   exact J106 _ (by omega) _ t96 _ _ E .of S H
   refine plc E (.r 10 11 .nil) (fun a E=>E.fb 83 H (fun c98 E H=>?_) fun c98 E H=>?_)
   refine plc E (.r 21 5 .nil) (fun a E=>pld ?_)
   exact J106 _ (by omega) _ true _ _ E .of S H
   refine plc E (.bn 21 0 7 (S.ba 2)<|.r 22 1<|.b 23 1 (S.ba 1)<|.nil) (fun a E=>?_)
   obtain ⟨t100,h101,H⟩:=bd H
   refine plq E S en183 (qAv.calls k66 x z.f1 _ _ _ _ _ _ _ _ _ (Sub.refl _) (S.rd_at (i:=3) rfl) (g0_5.mono S.own.sub) (g0_6.mono S.own.sub) h101) fun u99 S a E=>plc E (.r 25 1 .nil) (fun a E=>pld ?_)
   exact J106 _ (by omega) _ t100 _ _ E .of S H
  refine rr E fun a E=>(E.ik 48 H (fun c62 E H=>?_) fun c62 E H=>?_)
  refine wp_skip ?_
  exact J67 _ (by omega) _ true _ _ E .of S H
  refine pl0 (plc E (.r 0 2 .nil) (fun a E=>pld ?_))
  exact J67 _ (by omega) _ (z.f0 == 6) _ _ E .of S H
 refine rr E fun a E=>(E.ik 37 H (fun c43 E H=>?_) fun c43 E H=>?_)
 refine wp_skip ?_
 exact J48 _ (by omega) _ true _ _ E .of S H
 refine pl0 (plc E (.r 0 2 .nil) (fun a E=>pld ?_))
 exact J48 _ (by omega) _ (z.f0 == 4) _ _ E .of S H
def qAy.f(k:Nat)(x:qG)(y:qU):Option (qG × Int):=if y.f0=1 then ((qBS.f k x y).bind fun t18=>(some (t18.1,t18.2))) else (if y.f0=8 then ((qAO.f k x y).bind fun t42=>(some (t42.1,t42.2))) else (if y.f0=9 then (some (x,0)) else (if y.f0=10 then ((qBM.f x y).bind fun t76=>(some (t76.1,t76.2))) else ((qBT.f k x y.f1).bind fun t94=>(if t94.2=true then ((qAN.f k x t94.1 y).bind fun t113=>(some (t113.1,t113.2))) else (some (x,5)))))))
def qAy.Post(x:qG)(y:qU)(A0_4:OA)(c0_4:Nat)(A0_5:OA)(c0_5:Nat)(A0_6:OA)(c0_6:Nat)(A1_6:OA)(c1_6:Nat)(W F:World)(r:qG × Int)(v:Value)(w':World):Prop:=∃(F':World)(RA0_4:OA)(rc0_4:Nat)(RA0_5:OA)(rc0_5:Nat)(RA0_6:OA)(rc0_6:Nat),v = .tuple #[.agg #[iv r.1.f0,iv r.1.f1,iv r.1.f2,iv r.1.f3,.slice RA0_4 r.1.f4.length rc0_4,.slice RA0_5 r.1.f5.length rc0_5,.slice RA0_6 r.1.f6.length rc0_6],iv r.2]∧St W (mine W [row qA.k 104 (.slice A0_4 x.f4.length c0_4) x.f4,row qE.k 97 (.slice A0_5 x.f5.length c0_5) x.f5,row qD.k 49 (.slice A0_6 x.f6.length c0_6) x.f6]) F w' F' []∧Rd qA.k F' RA0_4 rc0_4 r.1.f4∧Rd qE.k F' RA0_5 rc0_5 r.1.f5∧Rd qD.k F' RA0_6 rc0_6 r.1.f6
theorem qAy.calls(k:Nat)(x:qG)(y:qU)(A0_4:OA)(c0_4:Nat)(A0_5:OA)(c0_5:Nat)(A0_6:OA)(c0_6:Nat)(A1_6:OA)(c1_6:Nat)(r:qG × Int)(W F:World)(hown:Own W F [row qA.k 104 (.slice A0_4 x.f4.length c0_4) x.f4,row qE.k 97 (.slice A0_5 x.f5.length c0_5) x.f5,row qD.k 49 (.slice A0_6 x.f6.length c0_6) x.f6])(g1_6:Rd ki F A1_6 c1_6 y.f6)(H:qAy.f k x y=some r):
    Cr 78 #[.agg #[iv x.f0,iv x.f1,iv x.f2,iv x.f3,.slice A0_4 x.f4.length c0_4,.slice A0_5 x.f5.length c0_5,.slice A0_6 x.f6.length c0_6],.agg #[iv y.f0,iv y.f1,iv y.f2,iv y.f3,iv y.f4,iv y.f5,.slice A1_6 y.f6.length c1_6]] W (qAy.Post x y A0_4 c0_4 A0_5 c0_5 A0_6 c0_6 A1_6 c1_6 W F r):=by
 have S:=St.start hown
 obtain ⟨N,hN⟩:∃ N,N=mine W [row qA.k 104 (.slice A0_4 x.f4.length c0_4) x.f4,row qE.k 97 (.slice A0_5 x.f5.length c0_5) x.f5,row qD.k 49 (.slice A0_6 x.f6.length c0_6) x.f6]:=⟨_,rfl⟩
 rw [← hN]at S
 unfold qAy.f at H
 refine ent 50 rfl rfl rfl (fun a E=>?_)
 refine sq fun K1 hK1=>pl0 (plx (t:=26) E S [iv x.f0,iv x.f1,iv x.f2,iv x.f3,.slice A0_4 x.f4.length c0_4,.slice A0_5 x.f5.length c0_5,.slice A0_6 x.f6.length c0_6] fun b2 u3 hb2 S a E=>plx (t:=40) E S [iv y.f0,iv y.f1,iv y.f2,iv y.f3,iv y.f4,iv y.f5,.slice A1_6 y.f6.length c1_6] fun b4 u5 hb4 S a E=>pla (t:=26) E S [iv 0,iv 0,iv 0,iv 0,.slice none 0 0,.slice none 0 0,.slice none 0 0] fun b6 u7 hb6 S a E=>plc E (.r 3 1 .nil) (fun a E=>pld (hK1 _ _ (sq fun K8 hK8=>sq fun K9 hK9=>pl0 ?_))))
 have hb4:=S.ba 1
 refine plc E (.r 0 1<|.b 1 0 hb4<|.nil) (fun a E=>pld (hK9 _ _ (wp_block (rr E fun a E=>(E.ik 10 H (fun c11 E H=>?_) fun c11 E H=>?_)))))
 refine sq fun K12 hK12=>pl0 (plc E (.bn 0 0 7 (S.ba 2)<|.bn 1 0 7 hb4<|.nil) (fun a E=>?_))
 replace S:=S.front 4 rfl
 obtain ⟨F13,hs,g14,S⟩:=S.give
 replace g1_6:=g1_6.mono hs
 replace S:=S.front 4 rfl
 obtain ⟨F15,hs,g16,S⟩:=S.give
 replace g14:=g14.mono hs
 replace g1_6:=g1_6.mono hs
 replace S:=S.front 3 rfl
 obtain ⟨t18,h19,H⟩:=bd H
 refine ple E (.cl en132 (qBS.calls k x y _ _ _ _ _ _ _ _ _ _ _ (Own.left (X:=[row qA.k 104 (.slice A0_4 x.f4.length c0_4) x.f4]) S.own) g14 g16 g1_6 h19)) ?_
 rintro _ u17 a ⟨F20,A21,c22,A25,c26,A28,c29,rfl,hC,g27,g30⟩ E
 have hs:=hC.sub
 replace S:=S.called (X:=[row qA.k 104 (.slice A0_4 x.f4.length c0_4) x.f4]) hC
 replace g14:=g14.mono hs
 replace g16:=g16.mono hs
 replace g1_6:=g1_6.mono hs
 refine plc E (.r 3 2 .nil) (fun a E=>?_)
 replace S:=S.front 1 rfl
 refine pls E S [iv t18.1.f0,iv t18.1.f1,iv t18.1.f2,iv t18.1.f3,.slice A21 t18.1.f4.length c22,.slice A25 t18.1.f5.length c26,.slice A28 t18.1.f6.length c29] fun u31 hb6 S a E=>plc E (.r 6 1 .nil) (fun a E=>pld (hK12 _ _ (wp_ret (qBa (qBZ ?_)))))
 replace S:=S.front 1 rfl
 obtain ⟨F32,hs,g33,S⟩:=S.give
 replace g14:=g14.mono hs
 replace g16:=g16.mono hs
 replace g1_6:=g1_6.mono hs
 replace g27:=g27.mono hs
 replace g30:=g30.mono hs
 replace S:=S.pm [] 3
 rw [hN]at S
 obtain rfl:=si H
 exact rtm E (.b hb6 ag26 sz26 (.t .nil)) ⟨_,rfl,_,_,_,_,_,_,_,rfl,S,g33,g27,g30⟩
 refine rr E fun a E=>(E.ik 17 H (fun c35 E H=>?_) fun c35 E H=>?_)
 refine sq fun K36 hK36=>pl0 (plc E (.bn 0 0 7 (S.ba 2)<|.bn 1 0 7 hb4<|.nil) (fun a E=>?_))
 replace S:=S.front 3 rfl
 obtain ⟨F37,hs,g38,S⟩:=S.give
 replace g1_6:=g1_6.mono hs
 replace S:=S.front 4 rfl
 obtain ⟨F39,hs,g40,S⟩:=S.give
 replace g38:=g38.mono hs
 replace g1_6:=g1_6.mono hs
 replace S:=S.front 3 rfl
 obtain ⟨t42,h43,H⟩:=bd H
 refine ple E (.cl en133 (qAO.calls k x y _ _ _ _ _ _ _ _ _ _ _ (Own.left (X:=[row qE.k 97 (.slice A0_5 x.f5.length c0_5) x.f5]) S.own) g38 g40 g1_6 h43)) ?_
 rintro _ u41 a ⟨F44,A45,c46,A48,c49,A52,c53,rfl,hC,g47,g54⟩ E
 have hs:=hC.sub
 replace S:=S.called (X:=[row qE.k 97 (.slice A0_5 x.f5.length c0_5) x.f5]) hC
 replace g38:=g38.mono hs
 replace g40:=g40.mono hs
 replace g1_6:=g1_6.mono hs
 refine plc E (.r 3 2 .nil) (fun a E=>?_)
 replace S:=S.front 1 rfl
 refine pls E S [iv t42.1.f0,iv t42.1.f1,iv t42.1.f2,iv t42.1.f3,.slice A45 t42.1.f4.length c46,.slice A48 t42.1.f5.length c49,.slice A52 t42.1.f6.length c53] fun u55 hb6 S a E=>plc E (.r 6 1 .nil) (fun a E=>pld (hK36 _ _ (wp_ret (qBa (qBZ ?_)))))
 replace S:=S.front 1 rfl
 obtain ⟨F56,hs,g57,S⟩:=S.give
 replace g38:=g38.mono hs
 replace g40:=g40.mono hs
 replace g1_6:=g1_6.mono hs
 replace g47:=g47.mono hs
 replace g54:=g54.mono hs
 replace S:=S.pm [] 3
 rw [hN]at S
 obtain rfl:=si H
 exact rtm E (.b hb6 ag26 sz26 (.t .nil)) ⟨_,rfl,_,_,_,_,_,_,_,rfl,S,g47,g57,g54⟩
 refine rr E fun a E=>(E.ik 24 H (fun c59 E H=>?_) fun c59 E H=>?_)
 refine sq fun K60 hK60=>pl0 (plc E (.bn 0 0 7 (S.ba 2) .nil) (fun a E=>pls E S [iv x.f0,iv x.f1,iv x.f2,iv x.f3,.slice A0_4 x.f4.length c0_4,.slice A0_5 x.f5.length c0_5,.slice A0_6 x.f6.length c0_6] fun u61 hb6 S a E=>plc E (.r 2 1 .nil) (fun a E=>pld (hK60 _ _ (wp_ret (qBa (qBZ ?_)))))))
 replace S:=S.front 3 rfl
 obtain ⟨F62,hs,g63,S⟩:=S.give
 replace g1_6:=g1_6.mono hs
 replace S:=S.front 3 rfl
 obtain ⟨F64,hs,g65,S⟩:=S.give
 replace g63:=g63.mono hs
 replace g1_6:=g1_6.mono hs
 replace S:=S.front 3 rfl
 obtain ⟨F66,hs,g67,S⟩:=S.give
 replace g63:=g63.mono hs
 replace g65:=g65.mono hs
 replace g1_6:=g1_6.mono hs
 replace S:=S.pm [] 3
 rw [hN]at S
 obtain rfl:=si H
 exact rtm E (.b hb6 ag26 sz26 (.t .nil)) ⟨_,rfl,_,_,_,_,_,_,_,rfl,S,g63,g65,g67⟩
 refine rr E fun a E=>(E.ik 27 H (fun c69 E H=>?_) fun c69 E H=>?_)
 refine sq fun K70 hK70=>pl0 (plc E (.bn 0 0 7 (S.ba 2)<|.bn 1 0 7 hb4<|.nil) (fun a E=>?_))
 replace S:=S.front 3 rfl
 obtain ⟨F71,hs,g72,S⟩:=S.give
 replace g1_6:=g1_6.mono hs
 replace S:=S.front 3 rfl
 obtain ⟨F73,hs,g74,S⟩:=S.give
 replace g72:=g72.mono hs
 replace g1_6:=g1_6.mono hs
 replace S:=S.front 3 rfl
 obtain ⟨t76,h77,H⟩:=bd H
 refine ple E (.cl en134 (qBM.calls x y _ _ _ _ _ _ _ _ _ _ _ (Own.left (X:=[row qD.k 49 (.slice A0_6 x.f6.length c0_6) x.f6]) S.own) g72 g74 g1_6 h77)) ?_
 rintro _ u75 a ⟨F78,A79,c80,A82,c83,A85,c86,rfl,hC,g81,g84⟩ E
 have hs:=hC.sub
 replace S:=S.called (X:=[row qD.k 49 (.slice A0_6 x.f6.length c0_6) x.f6]) hC
 replace g72:=g72.mono hs
 replace g74:=g74.mono hs
 replace g1_6:=g1_6.mono hs
 refine plc E (.r 3 2 .nil) (fun a E=>?_)
 replace S:=S.front 1 rfl
 refine pls E S [iv t76.1.f0,iv t76.1.f1,iv t76.1.f2,iv t76.1.f3,.slice A79 t76.1.f4.length c80,.slice A82 t76.1.f5.length c83,.slice A85 t76.1.f6.length c86] fun u89 hb6 S a E=>plc E (.r 6 1 .nil) (fun a E=>pld (hK70 _ _ (wp_ret (qBa (qBZ ?_)))))
 replace S:=S.front 1 rfl
 obtain ⟨F90,hs,g91,S⟩:=S.give
 replace g72:=g72.mono hs
 replace g74:=g74.mono hs
 replace g1_6:=g1_6.mono hs
 replace g81:=g81.mono hs
 replace g84:=g84.mono hs
 replace S:=S.pm [] 3
 rw [hN]at S
 obtain rfl:=si H
 exact rtm E (.b hb6 ag26 sz26 (.t .nil)) ⟨_,rfl,_,_,_,_,_,_,_,rfl,S,g81,g84,g91⟩
 refine wp_skip ?_
 refine qBb ?_
 refine hK8 _ _ (sq fun K92 hK92=>pl0 ?_)
 have hb2:=S.ba 2
 refine plc E (.bn 0 0 7 hb2<|.r 1 1<|.b 2 1 hb4<|.nil) (fun a E=>?_)
 obtain ⟨t94,h95,H⟩:=bd H
 refine plq E S en135 (qBT.calls k x y.f1 _ _ _ _ _ _ _ _ _ (Sub.refl _) (S.rd_at (i:=3) rfl) (S.rd_at (i:=4) rfl) (S.rd_at (i:=5) rfl) h95) fun u93 S a E=>plc E (.r 4 5 .nil) (fun a E=>pld (hK92 _ _ (sq fun K96 hK96=>rr E fun a E=>(E.ibn 42 H (fun c98 E H=>?_) fun c98 E H=>?_))))
 refine wp_skip (hK96 _ _ (sq fun K107 hK107=>pl0 (plc E (.bn 0 0 7 (S.ba 2)<|.r 1 1<|.bn 2 0 7 (S.ba 1)<|.nil) (fun a E=>?_))))
 replace S:=S.front 4 rfl
 obtain ⟨F108,hs,g109,S⟩:=S.give
 replace g1_6:=g1_6.mono hs
 replace S:=S.front 4 rfl
 obtain ⟨F110,hs,g111,S⟩:=S.give
 replace g109:=g109.mono hs
 replace g1_6:=g1_6.mono hs
 replace S:=S.front 3 rfl
 obtain ⟨t113,h114,H⟩:=bd H
 refine ple E (.cl en136 (qAN.calls k x t94.1 y _ _ _ _ _ _ _ _ _ _ _ (Own.left (X:=[row qA.k 104 (.slice A0_4 x.f4.length c0_4) x.f4]) S.own) g109 g111 g1_6 h114)) ?_
 rintro _ u112 a ⟨F115,A116,c117,A120,c121,A123,c124,rfl,hC,g122,g125⟩ E
 have hs:=hC.sub
 replace S:=S.called (X:=[row qA.k 104 (.slice A0_4 x.f4.length c0_4) x.f4]) hC
 replace g109:=g109.mono hs
 replace g111:=g111.mono hs
 replace g1_6:=g1_6.mono hs
 refine plc E (.r 4 2 .nil) (fun a E=>?_)
 replace S:=S.front 1 rfl
 refine pls E S [iv t113.1.f0,iv t113.1.f1,iv t113.1.f2,iv t113.1.f3,.slice A116 t113.1.f4.length c117,.slice A120 t113.1.f5.length c121,.slice A123 t113.1.f6.length c124] fun u126 hb6 S a E=>plc E (.r 7 1 .nil) (fun a E=>pld (hK107 _ _ (wp_ret ?_)))
 replace S:=S.front 1 rfl
 obtain ⟨F127,hs,g128,S⟩:=S.give
 replace g109:=g109.mono hs
 replace g111:=g111.mono hs
 replace g1_6:=g1_6.mono hs
 replace g122:=g122.mono hs
 replace g125:=g125.mono hs
 replace S:=S.pm [] 3
 rw [hN]at S
 obtain rfl:=si H
 exact rtm E (.b hb6 ag26 sz26 (.t .nil)) ⟨_,rfl,_,_,_,_,_,_,_,rfl,S,g128,g122,g125⟩
 refine sq fun K99 hK99=>pl0 (plc E (.bn 0 0 7 (S.ba 2) .nil) (fun a E=>pls E S [iv x.f0,iv x.f1,iv x.f2,iv x.f3,.slice A0_4 x.f4.length c0_4,.slice A0_5 x.f5.length c0_5,.slice A0_6 x.f6.length c0_6] fun u100 hb6 S a E=>plc E (.r 2 1 .nil) (fun a E=>pld (hK99 _ _ (wp_ret (qBZ ?_))))))
 replace S:=S.front 3 rfl
 obtain ⟨F101,hs,g102,S⟩:=S.give
 replace g1_6:=g1_6.mono hs
 replace S:=S.front 3 rfl
 obtain ⟨F103,hs,g104,S⟩:=S.give
 replace g102:=g102.mono hs
 replace g1_6:=g1_6.mono hs
 replace S:=S.front 3 rfl
 obtain ⟨F105,hs,g106,S⟩:=S.give
 replace g102:=g102.mono hs
 replace g104:=g104.mono hs
 replace g1_6:=g1_6.mono hs
 replace S:=S.pm [] 3
 rw [hN]at S
 obtain rfl:=si H
 exact rtm E (.b hb6 ag26 sz26 (.t .nil)) ⟨_,rfl,_,_,_,_,_,_,_,rfl,S,g102,g104,g106⟩
theorem qGH:Et 186:=eo Tryz.func186
set_option maxHeartbeats 1000000 in
theorem qFR(F:Fence)(n:Nat)(h5:F.fn 138)(hro:F.round=none)(a:Option Addr)(len cap:Nat)(w:World):
  CallsIn F n Tryz.prog 138 #[.slice a len cap] w fun e w'=>e = .returned (.func (.func 186) #[] #[.pointer (some ⟨w.heap.size,0,none⟩)])∧w'=w.alloc (.cells #[.slice a len cap] 36):=by
 refine callsIn_of_wp Tryz.func138 rfl h5 ?_ hro
 simp only [Tryz.ntmps138,List.size_toArray,List.length_cons,List.length_nil,Nat.reduceAdd,Nat.reduceSub,Array.replicate_succ,Array.replicate_zero,List.push_toArray,List.append_toArray,List.nil_append,List.cons_append]
 gi_wp2
 go_ret
 exact ⟨rfl,rfl⟩
theorem qBQ.calls(x0_:List Int)(A0_0:Option Addr)(c0_0:Nat)(W F:World)(hown:Sub F W):
  Calls Tryz.prog 138 #[.slice A0_0 x0_.length c0_0] W fun e w'=>∃ v,e = .returned v∧∃ p,v = .func (.func 186) #[] #[.pointer (some ⟨p,0,none⟩)]∧St W (mine W []) F w' F [box p #[.slice A0_0 x0_.length c0_0] 36]:=by
 refine (callsIn_wide.1 (qFR Fence.wide 1 trivial rfl A0_0 x0_.length c0_0 W)).mono ?_
 rintro e w' ⟨rfl,rfl⟩
 exact ⟨_,rfl,_,rfl,(sT hown).box _ _⟩
def upto{α : Type}(f:Nat→α)(k:Nat):List α:=(List.range k).map f
theorem qFS{α : Type}(f:Nat→α)(k:Nat):upto f (k+1)=upto f k++[f k]:=by simp [upto,List.range_succ]
theorem qEB{α : Type}(f:Nat→α)(k:Nat):(upto f k).length=k:=by simp [upto]
theorem qGI(zs:List Int):upto (fun j=>zs[j]?.getD 0) zs.length=zs:=by
 apply List.ext_getElem
 ·simp [upto]
 ·intro i h1 h2
  simp [upto,h2]
section
attribute [local go_sem] Oper.semAt_some
set_option maxRecDepth 100000 in
set_option maxHeartbeats 2000000 in
theorem qEi (F:Fence) (n:Nat) (h7:F.fn 186) (hro:F.round=none) (hn:1≤n) (l Bs n₀ b off cap:Nat) (zs:List Int) (hreach:zs.length * 8≤140737488351232) (hb:b<n₀) (J:List Int→World→Prop)
  (hY:∀ pre x W,J pre W→pre.length<zs.length→YieldAt F (n - 1) Tryz.prog l #[.int .i64 x] W fun e W'=>e = .returned (.bool true)∧J (pre++[x]) W'∧Below n₀ W W')
  (W:World) (hBs:W.cell? ⟨Bs,0,none⟩=some (.slice (some ⟨b,off,none⟩) zs.length cap)) (hc:∀ j,j<zs.length→W.cell? ⟨b,off+j,none⟩=some (.int .i64 (zs[j]?.getD 0))) (h0:J [] W) :
  CallsIn F n Tryz.prog 186 #[.func (.yield l) #[] #[],.pointer (some ⟨Bs,0,none⟩)] W fun e W'=>(∃ v,e = .returned v)∧J zs W':=by
 obtain ⟨len,hlen⟩:∃ len,Hid (zs.length=len):=⟨_,rfl⟩
 rw [hlen.out]at hreach hBs hc hY
 refine callsIn_of_wp Tryz.func186 rfl h7 ?_ hro
 simp only [Tryz.ntmps186,List.size_toArray,List.length_cons,List.length_nil,Nat.reduceAdd,Nat.reduceSub,Array.replicate_succ,Array.replicate_zero,List.push_toArray,List.append_toArray,List.nil_append,List.cons_append]
 gi_wp2
 gi_loopw [7] (fun i wr=>∃ k:Nat,k≤len∧i = .int .i64 k∧J (upto (fun j=>zs[j]?.getD 0) k) wr∧Below n₀ W wr)
  (fun i _=>len - (Sl.intOf' i).toNat)
 case atStart=>exact ⟨0,Nat.zero_le _,rfl,h0,Below.refl _ _⟩
 case round =>
  obtain ⟨k,hk,rfl,hJs,hnx⟩:=hrel
  have hcx:k<len→wr.cell? ⟨b,off+k,none⟩=some (.int .i64 (zs[k]?.getD 0)):=fun h=>(hnx.cell (p:=⟨b,off+k,none⟩) hb).trans (hc k h)
  by_cases hlt:k<len
  ·obtain ⟨fn,tmps,assign,body,hy,hR⟩:=hY _ (zs[k]?.getD 0) wr hJs (by rw [qEB]; exact hlt)
   have hcx':=hcx hlt
   gi_wp2
   refine hR.mono ?_
   rintro e W3 ⟨rfl,hJ3,hk3⟩
   gi_wp2
   go_roundw
   case rel=>exact ⟨k+1,by omega,by simp,by rw [qFS]; exact hJ3,hnx.trans hk3⟩
   case measure=>simp [Sl.intOf']; omega
  ·obtain rfl:k=len:=by omega
   gi_wp2
   go_end0
   refine ⟨⟨_,rfl⟩,?_⟩
   rw [← hlen.out,qGI]at hJs
   exact hJs
set_option maxRecDepth 100000 in
set_option maxHeartbeats 1000000 in
theorem qCw(F:Fence)(n:Nat)(h7:F.fn 186)(hro:F.round=none)(l Bs:Nat)(A:Option Addr)(cap:Nat)(J:List Int→World→Prop)(W:World)(hBs:W.cell? ⟨Bs,0,none⟩=some (.slice A 0 cap))(h0:J [] W):
  CallsIn F n Tryz.prog 186 #[.func (.yield l) #[] #[],.pointer (some ⟨Bs,0,none⟩)] W fun e W'=>(∃ v,e = .returned v)∧J [] W':=by
 refine callsIn_of_wp Tryz.func186 rfl h7 ?_ hro
 simp only [Tryz.ntmps186,List.size_toArray,List.length_cons,List.length_nil,Nat.reduceAdd,Nat.reduceSub,Array.replicate_succ,Array.replicate_zero,List.push_toArray,List.append_toArray,List.nil_append,List.cons_append]
 gi_wp2
 gi_loopw [7] (fun i wr=>i = .int .i64 0∧J [] wr) (fun _ _=>0)
 case atStart=>exact ⟨rfl,h0⟩
 case round =>
  obtain ⟨rfl,hJs⟩:=hrel
  gi_wp2
  go_end0
  exact ⟨⟨_,rfl⟩,hJs⟩
end
theorem qDh(n:Nat)(hn:1≤n){A:Option Addr}{c p:Nat}{xs:List Int}{F W:World}(hs:Sub F W)(hr:Rd (Kn.int .i64) F A c xs)(hp:F.heap[p]? = some (.cells #[.slice A xs.length c] 36 (0,0)))(hreach:xs.length * 8≤140737488351232):GivesD Fence.wide n Tryz.prog 186 #[.pointer (some ⟨p,0,none⟩)] xs W:=by
 intro l J W1 hW hY h0
 have hpW:=hs _ _ _ _ hp
 have hB:W.cell? ⟨p,0,none⟩=some (.slice A xs.length c):=by simp [World.cell?,hpW]
 have hB1:=(hW.cell (p:=⟨p,0,none⟩) (qBl hpW)).trans hB
 rcases Nat.eq_zero_or_pos xs.length with h | h
 ·obtain rfl:xs=[]:=List.eq_nil_of_length_eq_zero h
  exact qCw Fence.wide n trivial rfl l p A c J W1 hB1 h0
 ·obtain ⟨ad,rfl,hc⟩:=hr.2.2 h
  have hcell:∀ j (hj:j<xs.length),W.cell? (ad.add (j * 1+0))=some (.int .i64 xs[j]):=fun j hj=>by
   obtain ⟨cs,hK,hcs⟩:=hc j xs[j] (List.getElem?_eq_getElem hj)
   have e:cs=[.int .i64 xs[j]]:=hK
   exact hs.cell (hcs 0 _ (by rw [e]; rfl))
  have ha:=qDN (hcell 0 h)
  have e0:ad.add (0 * 1+0)=ad:=rfl
  rw [e0]at ha
  obtain ⟨b,off,s⟩:=ad
  obtain rfl:s=none:=congrArg Addr.spot ha.1
  refine qEi Fence.wide n trivial rfl hn l p W.heap.size b off c xs hreach ha.2 J hY W1 hB1 (fun j hj=>?_) h0
  have hj1:=hcell j hj
  have e1:(⟨b,off,none⟩:Addr).add (j * 1+0)=⟨b,off+j,none⟩:=by
   unfold Addr.add
   rw [Nat.mul_one,Nat.add_zero]
   split
   ·rename_i h; rw [h]; rfl
   ·rfl
  rw [e1]at hj1
  rw [(hW.cell (p:=⟨b,off+j,none⟩) ha.2).trans hj1,List.getElem?_eq_getElem hj]
  rfl
def qu.f(x0c0_:List Int):Option (List Int):=if x0c0_.length≤1000000 then some x0c0_ else none
def qu.Post(W F:World)(r:List Int)(v:Value)(w':World):Prop:=∃(F':World)(RA0_0:Option Addr)(rc0_0:Nat),v = .slice RA0_0 r.length rc0_0∧St W (mine W []) F w' F' [row (Kn.int .i64) 3 (.slice RA0_0 r.length rc0_0) r]
theorem qu.calls(x0c0_:List Int)(p0c0_:Nat)(A0c0_0:Option Addr)(c0c0_0:Nat)(r:List Int)(W F:World)(hown:Sub F W)(g0c0_0:Rd (Kn.int .i64) F A0c0_0 c0c0_0 x0c0_)(hp0c0_:F.heap[p0c0_]? = some (.cells #[.slice A0c0_0 x0c0_.length c0c0_0] 36 (0,0)))(H:qu.f x0c0_=some r):
  Calls Tryz.prog 185 #[.func (.func 186) #[] #[.pointer (some ⟨p0c0_,0,none⟩)]] W fun e w'=>∃ v,e = .returned v∧qu.Post W F r v w':=by
 have hS:=sT hown
 unfold qu.f at H
 split at H
 ·rename_i hmax
  injection H with H
  subst H
  refine (callsIn_wide.1 (collectD Tryz.collectI Fence.wide 5 trivial trivial rfl (by omega) 186 #[.pointer (some ⟨p0c0_,0,none⟩)] trivial qGH x0c0_ (Nat.le_trans hmax (by decide)) (by omega) W (qDh 3 (by omega) hown g0c0_0 hp0c0_ (by omega)))).mono ?_
  rintro e w' ⟨v,rfl,hr,hb,hd⟩
  have h1:=collected hS hr hb hd
  rcases hr.2 with ⟨rfl,h0⟩ | ⟨g,cap,cur,rfl,_⟩
  ·refine ⟨_,rfl,F,none,0,by rw [h0],?_⟩
   rw [h0]
   exact h1
  ·exact ⟨_,rfl,F,some ⟨g,0,none⟩,cap,rfl,h1⟩
 ·cases H
def qAd.f(x0_:List Int):Option (List Int):=sortI x0_
def qAd.Post(x0_:List Int)(A0_0:Option Addr)(c0_0:Nat)(W F:World)(r:List Int)(v:Value)(w':World):Prop:=∃(F':World),v = .tuple #[]∧St W (mine W [row ki 3 (.slice A0_0 x0_.length c0_0) x0_]) F w' F' [row ki 3 (.slice A0_0 x0_.length c0_0) r]
theorem qAd.calls(x0_:List Int)(A0_0:Option Addr)(c0_0:Nat)(r:List Int)(W F:World)(hown:Own W F [row ki 3 (.slice A0_0 x0_.length c0_0) x0_])(H:qAd.f x0_=some r):
  Calls Tryz.prog 110 #[.slice A0_0 x0_.length c0_0] W fun e w'=>∃ v,e = .returned v∧qAd.Post x0_ A0_0 c0_0 W F r v w':=qDz Tryz.sortI hown H
def qp.f(x0c0_:List Int):Option (List Int):=(qu.f x0c0_).bind fun t4=>((qAd.f t4).bind fun t13=>(some t13))
def qp.Post(W F:World)(r:List Int)(v:Value)(w':World):Prop:=∃(F':World)(RA0_0:OA)(rc0_0:Nat),v = .slice RA0_0 r.length rc0_0∧Sm W F w' F' [row ki 3 (.slice RA0_0 r.length rc0_0) r]
theorem qp.calls(x0c0_:List Int)(p0c0_:Nat)(A0c0_0:OA)(c0c0_0:Nat)(r:List Int)(W F:World)(hown:Sub F W)(g0c0_0:Rd ki F A0c0_0 c0c0_0 x0c0_)(hp0c0_:F.heap[p0c0_]? = some (.cells #[.slice A0c0_0 x0c0_.length c0c0_0] 36 (0,0)))(H:qp.f x0c0_=some r):
    Cr 137 #[.func (.func 186) #[] #[.pointer (pb p0c0_)]] W (qp.Post W F r):=by
 have S:=sT hown
 unfold qp.f at H
 refine ent 9 rfl rfl rfl (fun a E=>?_)
 refine rr E fun a E=>(sq fun K2 hK2=>pl0 (plc E (.r 0 1 .nil) (fun a E=>?_)))
 obtain ⟨t4,h5,H⟩:=bd H
 refine ple E (.cl en185 (qu.calls x0c0_ _ _ _ _ _ _ S.own.sub g0c0_0 hp0c0_ h5)) ?_
 rintro _ u3 a ⟨F6,A7,c8,rfl,hC⟩ E
 have hs:=hC.sub
 replace S:=S.called (X:=[]) hC
 replace g0c0_0:=g0c0_0.mono hs
 replace hp0c0_:=hs _ _ _ _ hp0c0_
 refine plc E (.r 2 1 .nil) (fun a E=>pld (hK2 _ _ (sq fun K11 hK11=>pl0 (plc E (.r 0 1 .nil) (fun a E=>?_)))))
 obtain ⟨t13,h14,H⟩:=bd H
 refine ple E (.cl en110 (qAd.calls t4 _ _ _ _ _ (Own.left (X:=[row ki 3 (.slice A7 t4.length c8) t4]) S.own) h14)) ?_
 rintro _ u12 a ⟨F15,rfl,hC⟩ E
 have hs:=hC.sub
 replace S:=S.called (X:=[row ki 3 (.slice A7 t4.length c8) t4]) hC
 replace g0c0_0:=g0c0_0.mono hs
 replace hp0c0_:=hs _ _ _ _ hp0c0_
 refine pld (hK11 _ _ (rr E fun a E=>(wp_ret ?_)))
 have hn17:=(qBd (S.row_at (i:=0) rfl)).1
 replace E:=E.set (d:=2) (v:=.slice A7 t13.length c8) (Eq.trans (b:=.slice A7 t4.length c8) (by kernel_rfl) (by rw [← hn17]))
 replace S:Sm W F u12 F15 [row ki 3 (.slice A7 t13.length c8) t13]:=by rw [← hn17]; exact S
 obtain rfl:=si H
 exact rt1 E ⟨_,rfl,_,_,_,rfl,S⟩
def qAc.f(k:Nat)(x:qF)(xf0_:qF):Option Bool:=(ql.f k x.f1 xf0_.f1).bind fun t6=>(some t6)
def qAc.Post(W F:World)(r:Bool)(v:Value)(w':World):Prop:=∃(F':World),v = .bool r∧Sm W F w' F' []
theorem qAc.calls(k:Nat)(x:qF)(xf0_:qF)(A0_1:OA)(c0_1:Nat)(pf0_:Nat)(Af0_1:OA)(cf0_1:Nat)(r:Bool)(W F:World)(hown:Sub F W)(g0_1:Rd ki F A0_1 c0_1 x.f1)(gf0_1:Rd ki F Af0_1 cf0_1 xf0_.f1)(hpf0_:F.heap[pf0_]? = some (.cells #[iv xf0_.f0,.slice Af0_1 xf0_.f1.length cf0_1] 51 (0,0)))(H:qAc.f k x xf0_=some r):
    Cr 140 #[.agg #[iv x.f0,.slice A0_1 x.f1.length c0_1],.pointer (pb pf0_)] W (qAc.Post W F r):=by
 have S:=sT hown
 unfold qAc.f at H
 refine ent 9 rfl rfl rfl (fun a E=>?_)
 refine sq fun K1 hK1=>pl0 (plx (t:=51) E S [iv x.f0,.slice A0_1 x.f1.length c0_1] fun b2 u3 hb2 S a E=>plc E (.r 1 1 .nil) (fun a E=>pld (hK1 _ _ (sq fun K4 hK4=>pl0 (plc E (.r 0 1<|.b 1 1 hb2<|.r 2 1<|.b 3 1 (S.own.sub _ _ _ _ hpf0_)<|.nil) (fun a E=>?_))))))
 obtain ⟨t6,h7,H⟩:=bd H
 refine plq E S en90 (ql.calls k x.f1 xf0_.f1 _ _ _ _ _ _ _ S.own.sub g0_1 gf0_1 h7) fun u5 S a E=>plc E (.r 5 1 .nil) (fun a E=>pld (hK4 _ _ (wp_ret ?_)))
 replace S:=S.tail
 obtain rfl:=si H
 exact rt1 E ⟨_,rfl,_,rfl,S⟩
def qX.l5:Nat→List qF→qF→Int→Option Int
 | 0,_,_,_=>none
 | k+1,x,x1c0_,x4=>if x4<(x.length:Int) then (if 0≤x4∧x4<(x.length:Int) then ((qAc.f k (nth qF.z x x4) x1c0_).bind fun t24=>(if t24=true then (some x4) else (qX.l5 k x x1c0_ (w64 (x4+1))))) else (none)) else (some (-1))
theorem qX.l5_s k x x1c0_ x4:type_of% (qX.l5.eq_2 x x1c0_ x4 k):=qX.l5.eq_2 x x1c0_ x4 k
def qX.f(k:Nat)(x:List qF)(x1c0_:qF):Option Int:=qX.l5 k x x1c0_ 0
def qX.Post(W F:World)(r:Int)(v:Value)(w':World):Prop:=∃(F':World),v=iv r∧Sm W F w' F' []
theorem qX.calls(k:Nat)(x:List qF)(x1c0_:qF)(A0_0:OA)(c0_0:Nat)(p1c0_:Nat)(A1c0_1:OA)(c1c0_1:Nat)(r:Int)(W F:World)(hown:Sub F W)(g0_0:Rd qF.k F A0_0 c0_0 x)(g1c0_1:Rd ki F A1c0_1 c1c0_1 x1c0_.f1)(hp1c0_:F.heap[p1c0_]? = some (.cells #[iv x1c0_.f0,.slice A1c0_1 x1c0_.f1.length c1c0_1] 51 (0,0)))(H:qX.f k x x1c0_=some r):
    Cr 163 #[.slice A0_0 x.length c0_0,.func (.func 140) #[] #[.pointer (pb p1c0_)]] W (qX.Post W F r):=by
 have S:=sT hown
 unfold qX.f at H
 refine ent 19 rfl rfl rfl (fun a E=>?_)
 refine rr E fun a E=>(sq fun K2 hK2=>rr E fun a E=>(wp_block ?_))
 refine wp_loop_ghost (fun kq6 a w'=>∃(G:NV)(x4:Int),kq6≤k∧Env 19 G a∧At G [(0,.slice A0_0 x.length c0_0),(1,.func (.func 140) #[] #[.pointer (pb p1c0_)]),(7,iv (x.length:Int)),(8,iv x4)]∧Sm W F w' F []∧qX.l5 kq6 x x1c0_ x4=some r) k ⟨_,0,Nat.le_refl _,E,.of,S,H⟩ ?_
 rintro kq6 a u8 ⟨G,x4,hkq,E,A,S,H⟩
 obtain _ | k7:=kq6
 exact zz H
 rw [qX.l5_s]at H
 obtain ⟨J,E⟩:=E.at A
 refine rr E fun a E=>(sq fun K10 hK10=>E.ik 9 H (fun c11 E H=>?_) fun c11 E H=>?_)
 refine wp_skip (hK10 _ _ (sq fun K12 hK12=>wp_block (rr E fun a E=>(sq fun K14 hK14=>pl0 ?_))))
 obtain ⟨c15,H⟩:=gd H
 have hE_:=E
 obtain ⟨ad16,rfl⟩:=g0_0.addr c15.1 c15.2
 replace E:=hE_
 obtain ⟨cs18,⟨A20,c21,rfl,g22⟩,hc19⟩:=g0_0.el qF.z x4 c15.1 c15.2
 refine plc E (.r 0 3<|.x 3 c15<|.cs 4 (S.fcs hc19)<|.nil) (fun a E=>?_)
 obtain ⟨t24,h25,H⟩:=bd H
 refine plq E S en140 (qAc.calls k7 (nth qF.z x x4) x1c0_ _ _ _ _ _ _ _ _ S.own.sub g22 g1c0_1 hp1c0_ h25) fun u23 S a E=>pld (hK14 _ _ (E.ib 16 H (fun c26 E H=>?_) fun c26 E H=>?_))
 refine rr E fun a E=>(wp_ret (qBa (qBZ (qBZ (qBa (qBZ ?_))))))
 obtain rfl:=si H
 exact rt1 E ⟨_,rfl,_,rfl,S⟩
 refine wp_skip ?_
 refine qBb ?_
 refine hK12 _ _ (pl0 (plc E (.r 0 2 .nil) (fun a E=>pld ?_)))
 exact qBc ⟨k7,by omega,_,(w64 (x4+1)),by omega,E,.of,S,H⟩
 refine wp_exit ?_
 refine hK2 _ _ (rr E fun a E=>(wp_ret ?_))
 obtain rfl:=si H
 exact rt1 E ⟨_,rfl,_,rfl,S⟩
def qP.l15:Nat→List qF→qF→List qF→Int→Int→Option (List qF)
 | 0,_,_,_,_,_=>none
 | k+1,x,x1c0_,l12,x13,x14=>if x14<(x.length:Int) then (if 0≤x14∧x14<(x.length:Int) then ((qAc.f k (nth qF.z l12 x14) x1c0_).bind fun t39=>(if t39=true then (qP.l15 k x x1c0_ l12 x13 (w64 (x14+1))) else (if 0≤x13∧x13<(x.length:Int) then (qP.l15 k x x1c0_ (l12.set (x13).toNat (nth qF.z l12 x14)) (w64 (x13+1)) (w64 (x14+1))) else (none)))) else (none)) else (if 0≤x13∧x13≤(x.length:Int) then (some (cutl (l12.take (x13).toNat++List.replicate (x.length - (x13).toNat) qF.z) 0 x13)) else (none))
theorem qP.l15_s k x x1c0_ l12 x13 x14:type_of% (qP.l15.eq_2 x x1c0_ l12 x13 x14 k):=qP.l15.eq_2 x x1c0_ l12 x13 x14 k
def qP.f(k:Nat)(x:List qF)(x1c0_:qF):Option (List qF):=(qX.f k x x1c0_).bind fun t4=>(if t4=(-1) then (some x) else (qP.l15 k x x1c0_ x t4 (w64 (t4+1))))
def qP.Post(x:List qF)(x1c0_:qF)(A0_0:OA)(c0_0:Nat)(p1c0_:Nat)(A1c0_1:OA)(c1c0_1:Nat)(W F:World)(r:List qF)(v:Value)(w':World):Prop:=∃(F':World)(RA0_0:OA)(rc0_0:Nat),v = .slice RA0_0 r.length rc0_0∧St W (mine W [row qF.k 51 (.slice A0_0 x.length c0_0) x]) F w' F' [row qF.k 51 (.slice RA0_0 r.length rc0_0) r]
theorem qP.calls(k:Nat)(x:List qF)(x1c0_:qF)(A0_0:OA)(c0_0:Nat)(p1c0_:Nat)(A1c0_1:OA)(c1c0_1:Nat)(r:List qF)(W F:World)(hown:Own W F [row qF.k 51 (.slice A0_0 x.length c0_0) x])(g1c0_1:Rd ki F A1c0_1 c1c0_1 x1c0_.f1)(hp1c0_:F.heap[p1c0_]? = some (.cells #[iv x1c0_.f0,.slice A1c0_1 x1c0_.f1.length c1c0_1] 51 (0,0)))(H:qP.f k x x1c0_=some r):
    Cr 139 #[.slice A0_0 x.length c0_0,.func (.func 140) #[] #[.pointer (pb p1c0_)]] W (qP.Post x x1c0_ A0_0 c0_0 p1c0_ A1c0_1 c1c0_1 W F r):=by
 have S:=St.start hown
 obtain ⟨N,hN⟩:∃ N,N=mine W [row qF.k 51 (.slice A0_0 x.length c0_0) x]:=⟨_,rfl⟩
 rw [← hN]at S
 unfold qP.f at H
 refine ent 42 rfl rfl rfl (fun a E=>?_)
 refine rr E fun a E=>(sq fun K2 hK2=>pl0 (plc E (.r 0 2 .nil) (fun a E=>?_)))
 obtain ⟨t4,h5,H⟩:=bd H
 refine plq E S en163 (qX.calls k x x1c0_ _ _ _ _ _ _ _ _ (Sub.refl _) (S.rd_at (i:=0) rfl) (g1c0_1.mono S.own.sub) (S.own.sub _ _ _ _ hp1c0_) h5) fun u3 S a E=>plc E (.r 3 1 .nil) (fun a E=>pld (hK2 _ _ (sq fun K6 hK6=>rr E fun a E=>(E.ik 12 H (fun c8 E H=>?_) fun c8 E H=>?_))))
 refine rr E fun a E=>(wp_ret (qBZ ?_))
 rw [hN]at S
 obtain rfl:=si H
 exact rt1 E ⟨_,rfl,_,_,_,rfl,S⟩
 refine wp_skip (hK6 _ _ (sq fun K10 hK10=>rr E fun a E=>(wp_block ?_)))
 refine wp_loop_ghost (fun kq16 a w'=>∃(G:NV)(l12:List qF)(x13:Int)(x14:Int),kq16≤k∧Env 42 G a∧At G [(0,.slice A0_0 x.length c0_0),(1,.func (.func 140) #[] #[.pointer (pb p1c0_)]),(5,iv x13),(6,iv x14)]∧St W N F w' F [row qF.k 51 (.slice A0_0 x.length c0_0) l12]∧qP.l15 kq16 x x1c0_ l12 x13 x14=some r) k ⟨_,x,t4,(w64 (t4+1)),Nat.le_refl _,E,.of,S,H⟩ ?_
 rintro kq16 a u18 ⟨G,l12,x13,x14,hkq,E,A,S,H⟩
 obtain _ | k17:=kq16
 exact zz H
 rw [qP.l15_s]at H
 obtain ⟨J,E⟩:=E.at A
 refine sq fun K19 hK19=>rr E fun a E=>(E.ik 19 H (fun c21 E H=>?_) fun c21 E H=>?_)
 refine wp_skip (hK19 _ _ (sq fun K22 hK22=>wp_block (sq fun K23 hK23=>pl0 ?_)))
 obtain ⟨c24,H⟩:=gd H
 have hr25:=S.ra 0
 have c26:0≤x14∧x14<(l12.length:Int):=by rw [← (qBd hr25).1]; exact c24
 have hE_:=E
 obtain ⟨b27,rfl⟩:=qBf hr25 c26.1 c26.2
 replace E:=hE_
 have hr_:=S.ra 0
 obtain ⟨cs29,⟨A31,c32,rfl,g33⟩,hc30⟩:=qBe hr_ qF.z x14 c26.1 c26.2
 refine plc E (.r 0 2<|.x 2 c24<|.cs 3 hc30<|.nil) (fun a E=>pla (t:=51) E S [iv 0,.slice none 0 0] fun b34 u35 hb34 S a E=>pls E S [iv ((nth qF.z l12 x14).f0),.slice A31 (((nth qF.z l12 x14).f1).length) c32] fun u36 hb34 S a E=>pld (hK23 _ _ (sq fun K37 hK37=>pl0 (plc E (.r 0 1<|.bn 1 0 2 hb34<|.nil) (fun a E=>?_)))))
 obtain ⟨t39,h40,H⟩:=bd H
 refine plq E S en140 (qAc.calls k17 (nth qF.z l12 x14) x1c0_ _ _ _ _ _ _ _ _ S.own.sub g33 g1c0_1 hp1c0_ h40) fun u38 S a E=>plc E (.r 3 1 .nil) (fun a E=>pld (hK37 _ _ (E.ibn 29 H (fun c41 E H=>?_) fun c41 E H=>?_)))
 refine wp_skip ?_
 refine qBb ?_
 refine hK22 _ _ (pl0 (plc E (.r 0 3 .nil) (fun a E=>pld ?_)))
 replace S:=S.tail
 exact qBc ⟨k17,by omega,_,l12,x13,(w64 (x14+1)),by omega,E,.of,S,H⟩
 refine sq fun K42 hK42=>pl0 ?_
 have hb34:=S.ba 0
 obtain ⟨c43,H⟩:=gd H
 have hr44:=S.ra 1
 have c45:0≤x13∧x13<(l12.length:Int):=by rw [← (qBd hr44).1]; exact c43
 have hr_:=S.ra 1
 obtain ⟨cs47,⟨A49,c50,rfl,g51⟩,hc48⟩:=qBe hr_ qF.z x13 c45.1 c45.2
 refine plc E (.r 0 2<|.bn 2 0 2 hb34<|.x 3 c43<|.nil) (fun a E=>?_)
 replace S:=S.front 1 rfl
 obtain ⟨cs56,⟨A53,c54,rfl,g55⟩,hc57⟩:=qBe (S.row_at (i:=0) rfl) qF.z x13 c45.1 c45.2
 refine ple E (.set (d:=qF.k) (n:=x.length) (i:=x13) (nth qF.z l12 x14) (0) (ea0 _ _) S c45 [iv ((nth qF.z l12 x13).f0),.slice A53 (((nth qF.z l12 x13).f1).length) c54] hc57 [iv ((nth qF.z l12 x14).f0),.slice A31 (((nth qF.z l12 x14).f1).length) c32] ⟨_,_,rfl,g33⟩) ?_
 rintro _ u52 a ⟨rfl,S,hz⟩ E
 refine pld (hK42 _ _ (pl0 (plc E (.r 0 3 .nil) (fun a E=>pld ?_))))
 refine qBb ?_
 refine hK22 _ _ (pl0 (plc E (.r 0 3 .nil) (fun a E=>pld ?_)))
 replace S:=S.pm [0] 2
 exact qBc ⟨k17,by omega,_,(l12.set (x13).toNat (nth qF.z l12 x14)),(w64 (x13+1)),(w64 (x14+1)),by omega,E,.of,S,H⟩
 refine wp_exit ?_
 refine hK10 _ _ (sq fun K58 hK58=>pl0 ?_)
 obtain ⟨c59,H⟩:=gd H
 obtain ⟨A60,c61,hA62,hv63⟩:=y_suf (P:=Tryz.prog) (k:=.i64) (S.row_at (i:=0) rfl) c59
 refine plc E (.r 0 2<|.y 2 (hv63 (by kernel_rfl))<|.nil) (fun a E=>ple E (.clr (d:=qF.k) (n:=x.length) (c':=c61) (lo:=x13) 32 qF.z S c59 hA62 (by rw [zr51]; exact ⟨none,0,rfl,Rd.nil _ _⟩)) ?_)
 rintro _ u64 a ⟨rfl,S,hz⟩ E
 refine pld (hK58 _ _ (sq fun K65 hK65=>pl0 ?_))
 have hv66:=S.ra 0
 replace S:=S.shrink c59
 refine plc E (.r 0 2<|.y 2 (y_pre (k:=.i64) hv66 c59)<|.r 3 1<|.nil) (fun a E=>pld (hK65 _ _ (wp_ret ?_)))
 rw [hN]at S
 obtain rfl:=si H
 exact rt1 E ⟨_,rfl,_,_,_,rfl,S⟩
mutual
def qAQ.l20:Nat→qG→qG→List qD→List qD→Int→Option (List qD)
 | 0,_,_,_,_,_=>none
 | k+1,x,y,t8,l17,x18=>if x18<(t8.length:Int) then (if 0≤x18∧x18<(t8.length:Int) then ((qBL.f k x x18).bind fun t44=>((qBO.f k x t44).bind fun t52=>((qBL.f k y x18).bind fun t62=>((qBO.f k y t62).bind fun t70=>((ql.f k t52 t70).bind fun t78=>(if t78=true then (qAQ.l20 k x y t8 l17 (w64 (x18+1))) else (if (t52.length:Int)≥x.f2 then ((qp.f t52).bind fun t91=>((qAY.f k ((nth qD.z l17 x18).f1)).bind fun t110=>((qP.f k t110 (⟨(nth qD.z l17 x18).f0,t91⟩:qF)).bind fun t122=>(if ((t122.length:Int)+((1:Nat):Int)) * 32≤140737488355328 then (qAQ.j144 k x y t8 l17 x18 (t122++[(⟨(nth qD.z l17 x18).f0,t91⟩:qF)])) else (none))))) else (qAQ.j144 k x y t8 l17 x18 ((nth qD.z l17 x18).f1))))))))) else (none)) else (some l17)
def qAQ.j144:Nat→qG→qG→List qD→List qD→Int→List qF→Option (List qD)
 | 0,_,_,_,_,_,_=>none
 | k+1,x,y,t8,l17,x18,l141=>qAQ.l20 k x y t8 (l17.set (x18).toNat (⟨(w64 (x.f0+1)),l141⟩:qD)) (w64 (x18+1))
end
theorem qAQ.l20_s k x y t8 l17 x18:type_of% (qAQ.l20.eq_2 x y t8 l17 x18 k):=qAQ.l20.eq_2 x y t8 l17 x18 k
theorem qAQ.j144_s k x y t8 l17 x18 l141:type_of% (qAQ.j144.eq_2 x y t8 l17 x18 l141 k):=qAQ.j144.eq_2 x y t8 l17 x18 l141 k
def qAQ.f(k:Nat)(x:qG)(y:qG):Option (List qD):=(qy.f y.f6).bind fun t8=>(qAQ.l20 k x y t8 t8 0)
def qAQ.Post(W F:World)(r:List qD)(v:Value)(w':World):Prop:=∃(F':World)(RA0_0:OA)(rc0_0:Nat),v = .slice RA0_0 r.length rc0_0∧Sm W F w' F' [row qD.k 49 (.slice RA0_0 r.length rc0_0) r]
theorem qAQ.calls(k:Nat)(x:qG)(y:qG)(A0_4:OA)(c0_4:Nat)(A0_5:OA)(c0_5:Nat)(A0_6:OA)(c0_6:Nat)(A1_4:OA)(c1_4:Nat)(A1_5:OA)(c1_5:Nat)(A1_6:OA)(c1_6:Nat)(r:List qD)(W F:World)(hown:Sub F W)(g0_4:Rd qA.k F A0_4 c0_4 x.f4)(g0_5:Rd qE.k F A0_5 c0_5 x.f5)(g0_6:Rd qD.k F A0_6 c0_6 x.f6)(g1_4:Rd qA.k F A1_4 c1_4 y.f4)(g1_5:Rd qE.k F A1_5 c1_5 y.f5)(g1_6:Rd qD.k F A1_6 c1_6 y.f6)(H:qAQ.f k x y=some r):
    Cr 79 #[.agg #[iv x.f0,iv x.f1,iv x.f2,iv x.f3,.slice A0_4 x.f4.length c0_4,.slice A0_5 x.f5.length c0_5,.slice A0_6 x.f6.length c0_6],.agg #[iv y.f0,iv y.f1,iv y.f2,iv y.f3,.slice A1_4 y.f4.length c1_4,.slice A1_5 y.f5.length c1_5,.slice A1_6 y.f6.length c1_6]] W (qAQ.Post W F r):=by
 have S:=sT hown
 unfold qAQ.f at H
 refine ent 65 rfl rfl rfl (fun a E=>?_)
 refine sq fun K1 hK1=>pl0 (plx (t:=26) E S [iv x.f0,iv x.f1,iv x.f2,iv x.f3,.slice A0_4 x.f4.length c0_4,.slice A0_5 x.f5.length c0_5,.slice A0_6 x.f6.length c0_6] fun b2 u3 hb2 S a E=>plx (t:=26) E S [iv y.f0,iv y.f1,iv y.f2,iv y.f3,.slice A1_4 y.f4.length c1_4,.slice A1_5 y.f5.length c1_5,.slice A1_6 y.f6.length c1_6] fun b4 u5 hb4 S a E=>plc E (.r 2 1 .nil) (fun a E=>pld (hK1 _ _ (sq fun K6 hK6=>pl0 (plc E (.r 0 1<|.b 1 6 hb4<|.nil) (fun a E=>?_))))))
 obtain ⟨t8,h9,H⟩:=bd H
 refine ple E (.cl en130 (qy.calls y.f6 _ _ _ _ _ S.own.sub g1_6 h9)) ?_
 rintro _ u7 a ⟨F10,A11,c12,rfl,hC⟩ E
 have hs:=hC.sub
 replace S:=S.called (X:=[]) hC
 replace g0_4:=g0_4.mono hs
 replace g0_5:=g0_5.mono hs
 replace g0_6:=g0_6.mono hs
 replace g1_4:=g1_4.mono hs
 replace g1_5:=g1_5.mono hs
 replace g1_6:=g1_6.mono hs
 refine plc E (.r 3 1 .nil) (fun a E=>pld (hK6 _ _ (sq fun K15 hK15=>rr E fun a E=>(wp_block ?_))))
 replace S:=S.pm [1,2,0] 3
 refine wp_loop_ghost (fun kq21 a w'=>∃(G:NV)(l17:List qD)(x18:Int)(F19:World),kq21≤k∧Env 65 G a∧At G [(2,.pointer (pb b2)),(3,.pointer (pb b4)),(5,.slice A11 t8.length c12),(13,.slice A11 t8.length c12),(14,iv (t8.length:Int)),(15,iv x18)]∧Sm W F w' F19 [box b4 #[iv y.f0,iv y.f1,iv y.f2,iv y.f3,.slice A1_4 y.f4.length c1_4,.slice A1_5 y.f5.length c1_5,.slice A1_6 y.f6.length c1_6] 26,box b2 #[iv x.f0,iv x.f1,iv x.f2,iv x.f3,.slice A0_4 x.f4.length c0_4,.slice A0_5 x.f5.length c0_5,.slice A0_6 x.f6.length c0_6] 26,row qD.k 49 (.slice A11 t8.length c12) l17]∧Rd qA.k F19 A1_4 c1_4 y.f4∧Rd qE.k F19 A1_5 c1_5 y.f5∧Rd qD.k F19 A1_6 c1_6 y.f6∧Rd qA.k F19 A0_4 c0_4 x.f4∧Rd qE.k F19 A0_5 c0_5 x.f5∧Rd qD.k F19 A0_6 c0_6 x.f6∧qAQ.l20 kq21 x y t8 l17 x18=some r) k ⟨_,t8,0,F10,Nat.le_refl _,E,.of,S,g1_4,g1_5,g1_6,g0_4,g0_5,g0_6,H⟩ ?_
 rintro kq21 a u23 ⟨G,l17,x18,F19,hkq,E,A,S,g1_4,g1_5,g1_6,g0_4,g0_5,g0_6,H⟩
 obtain _ | k22:=kq21
 exact zz H
 rw [qAQ.l20_s]at H
 obtain ⟨J,E⟩:=E.at A
 refine rr E fun a E=>(sq fun K25 hK25=>E.ik 16 H (fun c26 E H=>?_) fun c26 E H=>?_)
 refine wp_skip (hK25 _ _ (sq fun K27 hK27=>wp_block (sq fun K28 hK28=>pl0 ?_)))
 obtain ⟨c29,H⟩:=gd H
 have hr30:=S.ra 2
 have c31:0≤x18∧x18<(l17.length:Int):=by rw [← (qBd hr30).1]; exact c29
 have hE_:=E
 obtain ⟨b32,rfl⟩:=qBf hr30 c31.1 c31.2
 replace E:=hE_
 have hr_:=S.ra 2
 obtain ⟨cs34,⟨A36,c37,rfl,g38⟩,hc35⟩:=qBe hr_ qD.z x18 c31.1 c31.2
 refine plc E (.r 0 1<|.x 1 c29<|.cs 2 hc35<|.nil) (fun a E=>pla (t:=49) E S [iv 0,.slice none 0 0] fun b39 u40 hb39 S a E=>plc E (.r 4 1 .nil) (fun a E=>pls E S [iv ((nth qD.z l17 x18).f0),.slice A36 (((nth qD.z l17 x18).f1).length) c37] fun u41 hb39 S a E=>pld (hK28 _ _ (sq fun K42 hK42=>?_))))
 refine drawn 6 ⟨[4],[],fun q=>False⟩ mixed rfl (by kernel_rfl) (fun hst=>?_)
 replace S:=S.drew
 have hb2:=S.ba 2
 refine mny 3 hst E (.bn 0 0 7 hb2<|.bn 1 0 7 hb2<|.r 2 1<|.nil) (fun a E=>?_)
 obtain ⟨t44,h45,H⟩:=bd H
 refine on1 3 E (.cl en71 (qBL.calls k22 x x18 _ _ _ _ _ _ _ _ _ S.own.sub g0_4 g0_5 g0_6 h45)) ?_
 rintro _ u43 a ⟨F46,A47,c48,rfl,hC⟩ E
 refine ⟨.of hC.agr,?_⟩
 have hs:=hC.sub
 replace S:=S.called (X:=[]) hC
 replace g38:=g38.mono hs
 replace g0_4:=g0_4.mono hs
 replace g0_5:=g0_5.mono hs
 replace g0_6:=g0_6.mono hs
 replace g1_4:=g1_4.mono hs
 replace g1_5:=g1_5.mono hs
 replace g1_6:=g1_6.mono hs
 obtain ⟨t52,h53,H⟩:=bd H
 refine on1 4 E (.cl en74 (qBO.calls k22 x t44 _ _ _ _ _ _ _ _ _ _ _ (Own.left (X:=[row ki 3 (.slice A47 t44.length c48) t44]) S.own) g0_4 g0_5 g0_6 h53)) ?_
 rintro _ u51 a ⟨F54,A55,c56,rfl,hC⟩ E
 refine ⟨.d,?_⟩
 have hs:=hC.sub
 replace S:=S.called (X:=[row ki 3 (.slice A47 t44.length c48) t44]) hC
 replace g38:=g38.mono hs
 replace g0_4:=g0_4.mono hs
 replace g0_5:=g0_5.mono hs
 replace g0_6:=g0_6.mono hs
 replace g1_4:=g1_4.mono hs
 replace g1_5:=g1_5.mono hs
 replace g1_6:=g1_6.mono hs
 refine mny 0 hst E (.r 5 1 .nil) (fun a E=>?_)
 refine dn ?_
 refine hK42 _ _ (sq fun K59 hK59=>sq fun K60 hK60=>?_)
 refine drawn 7 ⟨[5],[],fun q=>False⟩ mixed rfl (by kernel_rfl) (fun hst=>?_)
 replace S:=S.drew
 have hb4:=S.ba 2
 refine mny 3 hst E (.r 0 1<|.bn 1 0 7 hb4<|.bn 2 0 7 hb4<|.r 3 1<|.nil) (fun a E=>?_)
 obtain ⟨t62,h63,H⟩:=bd H
 refine on1 4 E (.cl en71 (qBL.calls k22 y x18 _ _ _ _ _ _ _ _ _ S.own.sub g1_4 g1_5 g1_6 h63)) ?_
 rintro _ u61 a ⟨F64,A65,c66,rfl,hC⟩ E
 refine ⟨.of hC.agr,?_⟩
 have hs:=hC.sub
 replace S:=S.called (X:=[]) hC
 replace g38:=g38.mono hs
 replace g0_4:=g0_4.mono hs
 replace g0_5:=g0_5.mono hs
 replace g0_6:=g0_6.mono hs
 replace g1_4:=g1_4.mono hs
 replace g1_5:=g1_5.mono hs
 replace g1_6:=g1_6.mono hs
 obtain ⟨t70,h71,H⟩:=bd H
 refine on1 5 E (.cl en74 (qBO.calls k22 y t62 _ _ _ _ _ _ _ _ _ _ _ (Own.left (X:=[row ki 3 (.slice A65 t62.length c66) t62]) S.own) g1_4 g1_5 g1_6 h71)) ?_
 rintro _ u69 a ⟨F72,A73,c74,rfl,hC⟩ E
 refine ⟨.d,?_⟩
 have hs:=hC.sub
 replace S:=S.called (X:=[row ki 3 (.slice A65 t62.length c66) t62]) hC
 replace g38:=g38.mono hs
 replace g0_4:=g0_4.mono hs
 replace g0_5:=g0_5.mono hs
 replace g0_6:=g0_6.mono hs
 replace g1_4:=g1_4.mono hs
 replace g1_5:=g1_5.mono hs
 replace g1_6:=g1_6.mono hs
 obtain ⟨t78,h79,H⟩:=bd H
 refine on1 6 E (.cl en90 (ql.calls k22 t52 t70 _ _ _ _ _ _ _ (Sub.refl _) (S.rd_at (i:=1) rfl) (S.rd_at (i:=0) rfl) h79)) ?_
 rintro _ u77 a ⟨_,rfl,hC⟩ E
 refine ⟨.of hC.agr,?_⟩
 replace S:=S.lent hC
 refine dn ?_
 refine hK60 _ _ (E.ib 31 H (fun c80 E H=>?_) fun c80 E H=>?_)
 refine wp_exit ?_
 refine hK27 _ _ (pl0 (plc E (.r 0 2 .nil) (fun a E=>pld ?_)))
 replace S:=S.pm [] 3
 exact qBc ⟨k22,by omega,_,l17,(w64 (x18+1)),F72,by omega,E,.of,S,g1_4,g1_5,g1_6,g0_4,g0_5,g0_6,H⟩
 refine wp_skip (hK59 _ _ (sq fun K81 hK81=>?_))
 have J147:∀ kq145,kq145≤k22→∀(G:NV)(A139:OA)(c140:Nat)(l141:List qF)(F143:World)(a:Act)(w':World),Env 65 G a→At G [(2,.pointer (pb b2)),(3,.pointer (pb b4)),(5,.slice (pb b32) t8.length c12),(6,iv x18),(7,.pointer (pb b39)),(13,.slice (pb b32) t8.length c12),(14,iv (t8.length:Int)),(15,iv x18)]→Sm W F w' F143 [box b39 #[iv ((nth qD.z l17 x18).f0),.slice A139 l141.length c140] 49,box b4 #[iv y.f0,iv y.f1,iv y.f2,iv y.f3,.slice A1_4 y.f4.length c1_4,.slice A1_5 y.f5.length c1_5,.slice A1_6 y.f6.length c1_6] 26,box b2 #[iv x.f0,iv x.f1,iv x.f2,iv x.f3,.slice A0_4 x.f4.length c0_4,.slice A0_5 x.f5.length c0_5,.slice A0_6 x.f6.length c0_6] 26,row qD.k 49 (.slice (pb b32) t8.length c12) l17]→Rd qF.k F143 A139 c140 l141→Rd qA.k F143 A1_4 c1_4 y.f4→Rd qE.k F143 A1_5 c1_5 y.f5→Rd qD.k F143 A1_6 c1_6 y.f6→Rd qA.k F143 A0_4 c0_4 x.f4→Rd qE.k F143 A0_5 c0_5 x.f5→Rd qD.k F143 A0_6 c0_6 x.f6→qAQ.j144 kq145 x y t8 l17 x18 l141=some r→K81 a w':=by
  intro kq145 hkq G A139 c140 l141 F143 a u148 E A S g142 g1_4 g1_5 g1_6 g0_4 g0_5 g0_6 H
  obtain _ | k146:=kq145
  exact zz H
  rw [qAQ.j144_s]at H
  obtain ⟨J,E⟩:=E.at A
  refine hK81 _ _ (sq fun K149 hK149=>pl0 (plc E (.r 0 1<|.b 1 0 (S.ba 2)<|.r 2 2<|.nil) (fun a E=>pls E S [iv (w64 (x.f0+1)),.slice A139 l141.length c140] fun u150 hb39 S a E=>pld (hK149 _ _ (pl0 ?_)))))
  have hr151:=S.ra 3
  have c152:0≤x18∧x18<(l17.length:Int):=by rw [← (qBd hr151).1]; exact c29
  have hr_:=S.ra 3
  obtain ⟨cs154,⟨A156,c157,rfl,g158⟩,hc155⟩:=qBe hr_ qD.z x18 c152.1 c152.2
  refine plc E (.r 0 2<|.bn 2 0 2 hb39<|.x 3 c29<|.nil) (fun a E=>?_)
  replace S:=S.front 3 rfl
  obtain ⟨cs163,⟨A160,c161,rfl,g162⟩,hc164⟩:=qBe (S.row_at (i:=0) rfl) qD.z x18 c152.1 c152.2
  refine ple E (.set (d:=qD.k) (n:=t8.length) (i:=x18) (⟨(w64 (x.f0+1)),l141⟩:qD) (0) (ea0 _ _) S c152 [iv ((nth qD.z l17 x18).f0),.slice A160 (((nth qD.z l17 x18).f1).length) c161] hc164 [iv (w64 (x.f0+1)),.slice A139 l141.length c140] ⟨_,_,rfl,g142⟩) ?_
  rintro _ u159 a ⟨rfl,S,hz⟩ E
  refine pld ?_
  refine qBb ?_
  refine hK27 _ _ (pl0 (plc E (.r 0 2 .nil) (fun a E=>pld ?_)))
  replace S:=S.pm [2,3,0] 4
  exact qBc ⟨k146,by omega,_,(l17.set (x18).toNat (⟨(w64 (x.f0+1)),l141⟩:qD)),(w64 (x18+1)),F143,by omega,E,.of,S,g1_4,g1_5,g1_6,g0_4,g0_5,g0_6,H⟩
 refine rg E (.r 0 3<|.b 3 2 (S.ba 4)<|.r 4 1<|.nil) fun a E=>(E.ik 36 H (fun c83 E H=>?_) fun c83 E H=>?_)
 refine sq fun K84 hK84=>?_
 refine drawn 8 ⟨[7],[],fun q=>False⟩ mixed rfl (by kernel_rfl) (fun hst=>?_)
 replace S:=S.drew
 have hb39:=S.ba 2
 refine mny 5 hst E (.r 0 1<|.b 1 0 hb39<|.r 2 1<|.nil) (fun a E=>?_)
 obtain ⟨t91,h92,H⟩:=bd H
 refine meet2 (fun a w'=>∃(G:NV)(b89:Nat)(A97:OA)(c98:Nat)(F105:World),Env 65 G a∧At G [(2,.pointer (pb b2)),(3,.pointer (pb b4)),(5,.slice (pb b32) t8.length c12),(6,iv x18),(7,.pointer (pb b39)),(9,.pointer (pb b89)),(13,.slice (pb b32) t8.length c12),(14,iv (t8.length:Int)),(15,iv x18),(42,.agg #[iv ((nth qD.z l17 x18).f0),.slice A97 t91.length c98])]∧Sm W F w' F105 [box b89 #[iv 0,.slice none 0 0] 51,box b39 #[iv ((nth qD.z l17 x18).f0),.slice A36 (((nth qD.z l17 x18).f1).length) c37] 49,box b4 #[iv y.f0,iv y.f1,iv y.f2,iv y.f3,.slice A1_4 y.f4.length c1_4,.slice A1_5 y.f5.length c1_5,.slice A1_6 y.f6.length c1_6] 26,box b2 #[iv x.f0,iv x.f1,iv x.f2,iv x.f3,.slice A0_4 x.f4.length c0_4,.slice A0_5 x.f5.length c0_5,.slice A0_6 x.f6.length c0_6] 26,row ki 3 (.slice A97 t91.length c98) t91,row qD.k 49 (.slice (pb b32) t8.length c12) l17]∧Rd qF.k F105 A36 c37 ((nth qD.z l17 x18).f1)∧Rd qA.k F105 A1_4 c1_4 y.f4∧Rd qE.k F105 A1_5 c1_5 y.f5∧Rd qD.k F105 A1_6 c1_6 y.f6∧Rd qA.k F105 A0_4 c0_4 x.f4∧Rd qE.k F105 A0_5 c0_5 x.f5∧Rd qD.k F105 A0_6 c0_6 x.f6) 1 127 ?_ (fun hJb=>?_)
 rintro a u106 ⟨G,b89,A97,c98,F105,E,A,S,g38,g1_4,g1_5,g1_6,g0_4,g0_5,g0_6⟩
 obtain ⟨J,E⟩:=E.at A
 refine on1 7 E (.sto S [iv ((nth qD.z l17 x18).f0),.slice A97 t91.length c98]) ?_
 rintro _ u107 a ⟨rfl,hb89,S,hz⟩ E
 refine ⟨.d,?_⟩
 refine dn ?_
 refine hK84 _ _ (sq fun K108 hK108=>pl0 (plc E (.r 0 1<|.b 1 1 (S.ba 1)<|.nil) (fun a E=>?_)))
 obtain ⟨t110,h111,H⟩:=bd H
 refine ple E (.cl en131 (qAY.calls k22 ((nth qD.z l17 x18).f1) _ _ _ _ _ S.own.sub g38 h111)) ?_
 rintro _ u109 a ⟨F112,A113,c114,rfl,hC⟩ E
 have hs:=hC.sub
 replace S:=S.called (X:=[]) hC
 replace g38:=g38.mono hs
 replace g1_4:=g1_4.mono hs
 replace g1_5:=g1_5.mono hs
 replace g1_6:=g1_6.mono hs
 replace g0_4:=g0_4.mono hs
 replace g0_5:=g0_5.mono hs
 replace g0_6:=g0_6.mono hs
 refine plc E (.r 3 1 .nil) (fun a E=>?_)
 replace S:=S.front 5 rfl
 obtain ⟨F117,hs,g118,S⟩:=S.give
 replace g38:=g38.mono hs
 replace g1_4:=g1_4.mono hs
 replace g1_5:=g1_5.mono hs
 replace g1_6:=g1_6.mono hs
 replace g0_4:=g0_4.mono hs
 replace g0_5:=g0_5.mono hs
 replace g0_6:=g0_6.mono hs
 replace S:=S.front 1 rfl
 obtain ⟨F119,hs,g120,S⟩:=S.giveb
 replace g118:=g118.mono hs
 replace g38:=g38.mono hs
 replace g1_4:=g1_4.mono hs
 replace g1_5:=g1_5.mono hs
 replace g1_6:=g1_6.mono hs
 replace g0_4:=g0_4.mono hs
 replace g0_5:=g0_5.mono hs
 replace g0_6:=g0_6.mono hs
 obtain ⟨t122,h123,H⟩:=bd H
 refine ple E (.cl en139 (qP.calls k22 t110 (⟨(nth qD.z l17 x18).f0,t91⟩:qF) _ _ _ _ _ _ _ _ (Own.left (X:=[row qF.k 51 (.slice A113 t110.length c114) t110]) S.own) g118 g120 h123)) ?_
 rintro _ u121 a ⟨F124,A125,c126,rfl,hC⟩ E
 have hs:=hC.sub
 replace S:=S.called (X:=[row qF.k 51 (.slice A113 t110.length c114) t110]) hC
 replace g118:=g118.mono hs
 replace g38:=g38.mono hs
 replace g1_4:=g1_4.mono hs
 replace g1_5:=g1_5.mono hs
 replace g1_6:=g1_6.mono hs
 replace g0_4:=g0_4.mono hs
 replace g0_5:=g0_5.mono hs
 replace g0_6:=g0_6.mono hs
 replace g120:=hs _ _ _ _ g120
 refine plc E (.r 5 1 .nil) (fun a E=>?_)
 replace S:=S.front 1 rfl
 refine pls E S [iv ((nth qD.z l17 x18).f0),.slice A125 t122.length c126] fun u129 hb39 S a E=>pld (hK108 _ _ (pl0 (plc E (.r 0 1<|.b 1 1 hb39<|.bn 2 0 2 (S.own.sub _ _ _ _ g120)<|.nil) (fun a E=>ple E (.lit (d:=qF.k) (e:=51) S [(⟨(nth qD.z l17 x18).f0,t91⟩:qF)] (.cons ⟨_,_,rfl,g118⟩ .nil)) ?_))))
 rintro _ u130 a ⟨A131,c132,rfl,S,hg⟩ E
 obtain ⟨c134,H⟩:=gd H
 replace S:=S.front 2 rfl
 refine ple E (.ap (d:=qF.k) 32 S (qBn (S.row_at (i:=1) rfl)) c134 c132) ?_
 rintro _ u137 a ⟨A135,c136,rfl,S,hz⟩ E
 refine plc E (.r 5 1 .nil) (fun a E=>?_)
 replace S:=S.front 2 rfl
 refine pls E S [iv ((nth qD.z l17 x18).f0),.slice A135 ((t122++[(⟨(nth qD.z l17 x18).f0,t91⟩:qF)]).length) c136] fun u138 hb39 S a E=>pld ?_
 replace S:=S.front 1 rfl
 obtain ⟨F165,hs,g166,S⟩:=S.give
 replace g118:=g118.mono hs
 replace g38:=g38.mono hs
 replace g1_4:=g1_4.mono hs
 replace g1_5:=g1_5.mono hs
 replace g1_6:=g1_6.mono hs
 replace g0_4:=g0_4.mono hs
 replace g0_5:=g0_5.mono hs
 replace g0_6:=g0_6.mono hs
 replace g120:=hs _ _ _ _ g120
 replace S:=S.pm [0] 2
 exact J147 _ (by omega) _ A135 c136 (t122++[(⟨(nth qD.z l17 x18).f0,t91⟩:qF)]) F165 _ _ E .of S g166 g1_4 g1_5 g1_6 g0_4 g0_5 g0_6 H
 refine meet2 (fun a w'=>∃(G:NV)(b89:Nat)(b87:Nat)(F102:World),Env 65 G a∧At G [(2,.pointer (pb b2)),(3,.pointer (pb b4)),(5,.slice (pb b32) t8.length c12),(6,iv x18),(7,.pointer (pb b39)),(9,.pointer (pb b89)),(13,.slice (pb b32) t8.length c12),(14,iv (t8.length:Int)),(15,iv x18),(38,iv ((nth qD.z l17 x18).f0)),(40,.func (.func 186) #[] #[.pointer (pb b87)])]∧Sm W F w' F102 [box b89 #[iv 0,.slice none 0 0] 51,box b87 #[.slice A55 t52.length c56] 36,box b39 #[iv ((nth qD.z l17 x18).f0),.slice A36 (((nth qD.z l17 x18).f1).length) c37] 49,box b4 #[iv y.f0,iv y.f1,iv y.f2,iv y.f3,.slice A1_4 y.f4.length c1_4,.slice A1_5 y.f5.length c1_5,.slice A1_6 y.f6.length c1_6] 26,box b2 #[iv x.f0,iv x.f1,iv x.f2,iv x.f3,.slice A0_4 x.f4.length c0_4,.slice A0_5 x.f5.length c0_5,.slice A0_6 x.f6.length c0_6] 26,row qD.k 49 (.slice (pb b32) t8.length c12) l17]∧Rd ki F102 A55 c56 t52∧Rd qF.k F102 A36 c37 ((nth qD.z l17 x18).f1)∧Rd qA.k F102 A1_4 c1_4 y.f4∧Rd qE.k F102 A1_5 c1_5 y.f5∧Rd qD.k F102 A1_6 c1_6 y.f6∧Rd qA.k F102 A0_4 c0_4 x.f4∧Rd qE.k F102 A0_5 c0_5 x.f5∧Rd qD.k F102 A0_6 c0_6 x.f6) 3 79 ?_ (fun hJ=>?_)
 rintro a u103 ⟨G,b89,b87,F102,E,A,S,g86,g38,g1_4,g1_5,g1_6,g0_4,g0_5,g0_6⟩
 obtain ⟨J,E⟩:=E.at A
 replace S:=S.front 1 rfl
 obtain ⟨F93,hs,g94,S⟩:=S.giveb
 replace g86:=g86.mono hs
 replace g38:=g38.mono hs
 replace g1_4:=g1_4.mono hs
 replace g1_5:=g1_5.mono hs
 replace g1_6:=g1_6.mono hs
 replace g0_4:=g0_4.mono hs
 replace g0_5:=g0_5.mono hs
 replace g0_6:=g0_6.mono hs
 refine on1 4 E (.cl en137 (qp.calls t52 _ _ _ _ _ _ S.own.sub g86 g94 h92)) ?_
 rintro _ u95 a ⟨F96,A97,c98,rfl,hC⟩ E
 refine ⟨.of hC.agr,?_⟩
 have hs:=hC.sub
 replace S:=S.called (X:=[]) hC
 replace g38:=g38.mono hs
 replace g1_4:=g1_4.mono hs
 replace g1_5:=g1_5.mono hs
 replace g1_6:=g1_6.mono hs
 replace g0_4:=g0_4.mono hs
 replace g0_5:=g0_5.mono hs
 replace g0_6:=g0_6.mono hs
 replace g86:=g86.mono hs
 replace g94:=hs _ _ _ _ g94
 refine mny 1 hst E (.r 5 1 .nil) (fun a E=>?_)
 replace S:=S.pm [1,2,3,4,0] 5
 exact hJb _ _ ⟨_,b89,A97,c98,F96,E,.of,S,g38,g1_4,g1_5,g1_6,g0_4,g0_5,g0_6⟩
 refine pk2 3 6 ?_ ?_
 replace S:=S.front 1 rfl
 obtain ⟨F85,hs,g86,S⟩:=S.give
 replace g38:=g38.mono hs
 replace g0_4:=g0_4.mono hs
 replace g0_5:=g0_5.mono hs
 replace g0_6:=g0_6.mono hs
 replace g1_4:=g1_4.mono hs
 replace g1_5:=g1_5.mono hs
 replace g1_6:=g1_6.mono hs
 refine pk1 3 E (.cl en138 (qBQ.calls t52 A55 c56 _ _ S.own.sub)) ?_
 rintro _ u88 a ⟨b87,rfl,hC⟩ E
 refine ⟨.of hC.agr,?_⟩
 replace S:=S.called (X:=[]) hC
 refine pk2 6 4 ?_ ?_
 refine pk1 6 E (.al (t:=51) S [iv 0,.slice none 0 0]) ?_
 rintro _ u90 a ⟨b89,rfl,hb89,S,hg⟩ E
 refine ⟨.of hg,?_⟩
 replace S:=S.pm [0,1] 3
 exact hJ _ _ ⟨_,b89,b87,F85,E,.of,S,g86,g38,g1_4,g1_5,g1_6,g0_4,g0_5,g0_6⟩
 obtain ⟨F93,hs,g94,S⟩:=S.giveb
 replace g86:=g86.mono hs
 replace g38:=g38.mono hs
 replace g0_4:=g0_4.mono hs
 replace g0_5:=g0_5.mono hs
 replace g0_6:=g0_6.mono hs
 replace g1_4:=g1_4.mono hs
 replace g1_5:=g1_5.mono hs
 replace g1_6:=g1_6.mono hs
 refine pk1 4 E (.cl en137 (qp.calls t52 _ _ _ _ _ _ S.own.sub g86 g94 h92)) ?_
 rintro _ u95 a ⟨F96,A97,c98,rfl,hC⟩ E
 refine ⟨.of hC.agr,?_⟩
 have hs:=hC.sub
 replace S:=S.called (X:=[]) hC
 replace g86:=g86.mono hs
 replace g38:=g38.mono hs
 replace g0_4:=g0_4.mono hs
 replace g0_5:=g0_5.mono hs
 replace g0_6:=g0_6.mono hs
 replace g1_4:=g1_4.mono hs
 replace g1_5:=g1_5.mono hs
 replace g1_6:=g1_6.mono hs
 replace g94:=hs _ _ _ _ g94
 refine mny 2 hst E (.r 5 1 .nil) (fun a E=>?_)
 refine on1 6 E (.al (t:=51) S [iv 0,.slice none 0 0]) ?_
 rintro _ u90 a ⟨b89,rfl,hb89,S,hg⟩ E
 refine ⟨.of hg,?_⟩
 replace S:=S.pm [0,3,4,5,1] 6
 exact hJb _ _ ⟨_,b89,A97,c98,F96,E,.of,S,g38,g1_4,g1_5,g1_6,g0_4,g0_5,g0_6⟩
 refine pk1 6 E (.al (t:=51) S [iv 0,.slice none 0 0]) ?_
 rintro _ u90 a ⟨b89,rfl,hb89,S,hg⟩ E
 refine ⟨.of hg,?_⟩
 replace S:=S.front 2 rfl
 obtain ⟨F85,hs,g86,S⟩:=S.give
 replace g38:=g38.mono hs
 replace g0_4:=g0_4.mono hs
 replace g0_5:=g0_5.mono hs
 replace g0_6:=g0_6.mono hs
 replace g1_4:=g1_4.mono hs
 replace g1_5:=g1_5.mono hs
 replace g1_6:=g1_6.mono hs
 refine on1 3 E (.cl en138 (qBQ.calls t52 A55 c56 _ _ S.own.sub)) ?_
 rintro _ u88 a ⟨b87,rfl,hC⟩ E
 refine ⟨.of hC.agr,?_⟩
 replace S:=S.called (X:=[]) hC
 replace S:=S.pm [1,0] 3
 exact hJ _ _ ⟨_,b89,b87,F85,E,.of,S,g86,g38,g1_4,g1_5,g1_6,g0_4,g0_5,g0_6⟩
 refine wp_skip ?_
 replace S:=S.pm [] 2
 exact J147 _ (by omega) _ A36 c37 ((nth qD.z l17 x18).f1) F72 _ _ E .of S g38 g1_4 g1_5 g1_6 g0_4 g0_5 g0_6 H
 refine wp_exit ?_
 refine hK15 _ _ (rr E fun a E=>(wp_ret ?_))
 have hn168:=(qBd (S.row_at (i:=2) rfl)).1
 replace E:=E.set (d:=4) (v:=.slice A11 l17.length c12) (Eq.trans (b:=.slice A11 t8.length c12) (by kernel_rfl) (by rw [← hn168]))
 replace S:Sm W F u23 F19 [box b4 #[iv y.f0,iv y.f1,iv y.f2,iv y.f3,.slice A1_4 y.f4.length c1_4,.slice A1_5 y.f5.length c1_5,.slice A1_6 y.f6.length c1_6] 26,box b2 #[iv x.f0,iv x.f1,iv x.f2,iv x.f3,.slice A0_4 x.f4.length c0_4,.slice A0_5 x.f5.length c0_5,.slice A0_6 x.f6.length c0_6] 26,row qD.k 49 (.slice A11 l17.length c12) l17]:=by rw [← hn168]; exact S
 replace S:=S.pm [] 2
 obtain rfl:=si H
 exact rt1 E ⟨_,rfl,_,_,_,rfl,S⟩
def qAW.j21:Nat→qG→qU→Bool→Option (qG × Int)
 | 0,_,_,_=>none
 | k+1,x,y,y20=>if y20=true then ((qAV.f k x).bind fun t29=>(some (t29,1))) else (if x.f0=2147483647 then ((qAV.f k x).bind fun t53=>(some (t53,6))) else ((qAV.f k x).bind fun t77=>((qAy.f k t77 y).bind fun t95=>(if t95.2=0 then ((qAQ.f k x t95.1).bind fun t142=>(some ((⟨(w64 (t95.1.f0+1)),t95.1.f1,t95.1.f2,t95.1.f3,t95.1.f4,t95.1.f5,t142⟩:qG),0))) else ((qAV.f k x).bind fun t120=>(some (t120,t95.2)))))))
theorem qAW.j21_s k x y y20:type_of% (qAW.j21.eq_2 x y y20 k):=qAW.j21.eq_2 x y y20 k
def qAW.f(k:Nat)(x:qG)(y:qU):Option (qG × Int):=(qt.f k x).bind fun t11=>(if t11=0 then (if y.f0<1 then (qAW.j21 k x y true) else (if y.f0≥11 then (qAW.j21 k x y true) else ((qBP.f y).bind fun t18=>(qAW.j21 k x y (!t18))))) else (some ((⟨0,0,0,0,[],[],[]⟩:qG),1)))
def qAW.Post(W F:World)(r:qG × Int)(v:Value)(w':World):Prop:=∃(F':World)(RA0_4:OA)(rc0_4:Nat)(RA0_5:OA)(rc0_5:Nat)(RA0_6:OA)(rc0_6:Nat),v = .tuple #[.agg #[iv r.1.f0,iv r.1.f1,iv r.1.f2,iv r.1.f3,.slice RA0_4 r.1.f4.length rc0_4,.slice RA0_5 r.1.f5.length rc0_5,.slice RA0_6 r.1.f6.length rc0_6],iv r.2]∧Sm W F w' F' [row qD.k 49 (.slice RA0_6 r.1.f6.length rc0_6) r.1.f6]∧Rd qA.k F' RA0_4 rc0_4 r.1.f4∧Rd qE.k F' RA0_5 rc0_5 r.1.f5
theorem qAW.calls(k:Nat)(x:qG)(y:qU)(A0_4:OA)(c0_4:Nat)(A0_5:OA)(c0_5:Nat)(A0_6:OA)(c0_6:Nat)(A1_6:OA)(c1_6:Nat)(r:qG × Int)(W F:World)(hown:Sub F W)(g0_4:Rd qA.k F A0_4 c0_4 x.f4)(g0_5:Rd qE.k F A0_5 c0_5 x.f5)(g0_6:Rd qD.k F A0_6 c0_6 x.f6)(g1_6:Rd ki F A1_6 c1_6 y.f6)(H:qAW.f k x y=some r):
    Cr 26 #[.agg #[iv x.f0,iv x.f1,iv x.f2,iv x.f3,.slice A0_4 x.f4.length c0_4,.slice A0_5 x.f5.length c0_5,.slice A0_6 x.f6.length c0_6],.agg #[iv y.f0,iv y.f1,iv y.f2,iv y.f3,iv y.f4,iv y.f5,.slice A1_6 y.f6.length c1_6]] W (qAW.Post W F r):=by
 have S:=sT hown
 unfold qAW.f at H
 refine ent 56 rfl rfl rfl (fun a E=>?_)
 refine sq fun K1 hK1=>pl0 (plx (t:=26) E S [iv x.f0,iv x.f1,iv x.f2,iv x.f3,.slice A0_4 x.f4.length c0_4,.slice A0_5 x.f5.length c0_5,.slice A0_6 x.f6.length c0_6] fun b2 u3 hb2 S a E=>plx (t:=40) E S [iv y.f0,iv y.f1,iv y.f2,iv y.f3,iv y.f4,iv y.f5,.slice A1_6 y.f6.length c1_6] fun b4 u5 hb4 S a E=>pla (t:=26) E S [iv 0,iv 0,iv 0,iv 0,.slice none 0 0,.slice none 0 0,.slice none 0 0] fun b6 u7 hb6 S a E=>plc E (.r 3 1 .nil) (fun a E=>pld (hK1 _ _ (sq fun K8 hK8=>wp_block (sq fun K9 hK9=>pl0 ?_)))))
 have hb2:=S.ba 2
 refine plc E (.bn 0 0 7 hb2 .nil) (fun a E=>?_)
 obtain ⟨t11,h12,H⟩:=bd H
 refine plq E S en32 (qt.calls k x _ _ _ _ _ _ _ _ _ S.own.sub g0_4 g0_5 g0_6 h12) fun u10 S a E=>plc E (.r 2 2 .nil) (fun a E=>pld (hK9 _ _ (E.ikn 8 H (fun c13 E H=>?_) fun c13 E H=>?_)))
 refine sq fun K14 hK14=>?_
 have J24:∀ kq22,kq22≤k→∀(G:NV)(y20:Bool)(a:Act)(w':World),Env 56 G a→At G [(2,.pointer (pb b2)),(3,.pointer (pb b4)),(4,.pointer (pb b6)),(13,.bool y20)]→Sm W F w' F [box b6 #[iv 0,iv 0,iv 0,iv 0,.slice none 0 0,.slice none 0 0,.slice none 0 0] 26,box b4 #[iv y.f0,iv y.f1,iv y.f2,iv y.f3,iv y.f4,iv y.f5,.slice A1_6 y.f6.length c1_6] 40,box b2 #[iv x.f0,iv x.f1,iv x.f2,iv x.f3,.slice A0_4 x.f4.length c0_4,.slice A0_5 x.f5.length c0_5,.slice A0_6 x.f6.length c0_6] 26]→qAW.j21 kq22 x y y20=some r→K14 a w':=by
  intro kq22 hkq G y20 a u25 E A S H
  obtain _ | k23:=kq22
  exact zz H
  rw [qAW.j21_s]at H
  obtain ⟨J,E⟩:=E.at A
  refine hK14 _ _ (E.ib 13 H (fun c26 E H=>?_) fun c26 E H=>?_)
  refine sq fun K27 hK27=>pl0 (plc E (.bn 0 0 7 (S.ba 2) .nil) (fun a E=>?_))
  obtain ⟨t29,h30,H⟩:=bd H
  refine ple E (.cl en77 (qAV.calls k23 x _ _ _ _ _ _ _ _ _ S.own.sub g0_4 g0_5 g0_6 h30)) ?_
  rintro _ u28 a ⟨F31,A32,c33,A36,c37,A40,c41,rfl,hC⟩ E
  have hs:=hC.sub
  replace S:=S.called (X:=[]) hC
  replace g0_4:=g0_4.mono hs
  replace g0_5:=g0_5.mono hs
  replace g0_6:=g0_6.mono hs
  replace g1_6:=g1_6.mono hs
  replace S:=S.front 3 rfl
  refine pls E S [iv t29.f0,iv t29.f1,iv t29.f2,iv t29.f3,.slice A32 t29.f4.length c33,.slice A36 t29.f5.length c37,.slice A40 t29.f6.length c41] fun u44 hb6 S a E=>plc E (.r 3 1 .nil) (fun a E=>pld (hK27 _ _ (wp_ret (qBa (qBZ ?_)))))
  replace S:=S.front 1 rfl
  obtain ⟨F45,hs,g46,S⟩:=S.give
  replace g0_4:=g0_4.mono hs
  replace g0_5:=g0_5.mono hs
  replace g0_6:=g0_6.mono hs
  replace g1_6:=g1_6.mono hs
  replace S:=S.front 1 rfl
  obtain ⟨F47,hs,g48,S⟩:=S.give
  replace g0_4:=g0_4.mono hs
  replace g0_5:=g0_5.mono hs
  replace g0_6:=g0_6.mono hs
  replace g46:=g46.mono hs
  replace g1_6:=g1_6.mono hs
  replace S:=S.pm [1] 4
  obtain rfl:=si H
  exact rtm E (.b hb6 ag26 sz26 (.t .nil)) ⟨_,rfl,_,_,_,_,_,_,_,rfl,S,g46,g48⟩
  refine sq fun K49 hK49=>pl0 ?_
  have hb2:=S.ba 2
  refine plc E (.r 0 1<|.b 1 0 hb2<|.r 2 2<|.nil) (fun a E=>pld (hK49 _ _ (E.ik 29 H (fun c50 E H=>?_) fun c50 E H=>?_)))
  refine sq fun K51 hK51=>pl0 (plc E (.bn 0 0 7 hb2 .nil) (fun a E=>?_))
  obtain ⟨t53,h54,H⟩:=bd H
  refine ple E (.cl en77 (qAV.calls k23 x _ _ _ _ _ _ _ _ _ S.own.sub g0_4 g0_5 g0_6 h54)) ?_
  rintro _ u52 a ⟨F55,A56,c57,A60,c61,A64,c65,rfl,hC⟩ E
  have hs:=hC.sub
  replace S:=S.called (X:=[]) hC
  replace g0_4:=g0_4.mono hs
  replace g0_5:=g0_5.mono hs
  replace g0_6:=g0_6.mono hs
  replace g1_6:=g1_6.mono hs
  replace S:=S.front 3 rfl
  refine pls E S [iv t53.f0,iv t53.f1,iv t53.f2,iv t53.f3,.slice A56 t53.f4.length c57,.slice A60 t53.f5.length c61,.slice A64 t53.f6.length c65] fun u68 hb6 S a E=>plc E (.r 3 1 .nil) (fun a E=>pld (hK51 _ _ (wp_ret (qBa (qBZ ?_)))))
  replace S:=S.front 1 rfl
  obtain ⟨F69,hs,g70,S⟩:=S.give
  replace g0_4:=g0_4.mono hs
  replace g0_5:=g0_5.mono hs
  replace g0_6:=g0_6.mono hs
  replace g1_6:=g1_6.mono hs
  replace S:=S.front 1 rfl
  obtain ⟨F71,hs,g72,S⟩:=S.give
  replace g0_4:=g0_4.mono hs
  replace g0_5:=g0_5.mono hs
  replace g0_6:=g0_6.mono hs
  replace g70:=g70.mono hs
  replace g1_6:=g1_6.mono hs
  replace S:=S.pm [1] 4
  obtain rfl:=si H
  exact rtm E (.b hb6 ag26 sz26 (.t .nil)) ⟨_,rfl,_,_,_,_,_,_,_,rfl,S,g70,g72⟩
  refine wp_skip ?_
  refine qBb ?_
  refine hK8 _ _ (sq fun K76 hK76=>?_)
  refine drawn 10 ⟨[3,8],[],fun q=>False⟩ mixed rfl (by kernel_rfl) (fun hst=>?_)
  replace S:=S.drew
  have hb2:=S.ba 2
  have hb4:=S.ba 1
  refine mny 8 hst E (.bn 0 0 7 hb2<|.bn 2 0 7 hb4<|.nil) (fun a E=>?_)
  obtain ⟨t77,h78,H⟩:=bd H
  obtain ⟨t95,h96,H⟩:=bd H
  refine meet2 (fun a w'=>∃(G:NV)(b93:Nat)(A99:OA)(c100:Nat)(A102:OA)(c103:Nat)(A105:OA)(c106:Nat)(F112:World),Env 56 G a∧At G [(2,.pointer (pb b2)),(4,.pointer (pb b6)),(6,.pointer (pb b93)),(40,.agg #[iv t95.1.f0,iv t95.1.f1,iv t95.1.f2,iv t95.1.f3,.slice A99 t95.1.f4.length c100,.slice A102 t95.1.f5.length c103,.slice A105 t95.1.f6.length c106]),(41,iv t95.2)]∧Sm W F w' F112 [box b93 #[iv 0,iv 0,iv 0,iv 0,.slice none 0 0,.slice none 0 0,.slice none 0 0] 26,box b6 #[iv 0,iv 0,iv 0,iv 0,.slice none 0 0,.slice none 0 0,.slice none 0 0] 26,box b4 #[iv y.f0,iv y.f1,iv y.f2,iv y.f3,iv y.f4,iv y.f5,.slice A1_6 y.f6.length c1_6] 40,box b2 #[iv x.f0,iv x.f1,iv x.f2,iv x.f3,.slice A0_4 x.f4.length c0_4,.slice A0_5 x.f5.length c0_5,.slice A0_6 x.f6.length c0_6] 26]∧Rd qA.k F112 A99 c100 t95.1.f4∧Rd qE.k F112 A102 c103 t95.1.f5∧Rd qD.k F112 A105 c106 t95.1.f6∧Rd ki F112 A1_6 c1_6 y.f6∧Rd qA.k F112 A0_4 c0_4 x.f4∧Rd qE.k F112 A0_5 c0_5 x.f5∧Rd qD.k F112 A0_6 c0_6 x.f6) 2 255 ?_ (fun hJb=>?_)
  rintro a u113 ⟨G,b93,A99,c100,A102,c103,A105,c106,F112,E,A,S,g101,g104,g107,g1_6,g0_4,g0_5,g0_6⟩
  obtain ⟨J,E⟩:=E.at A
  refine on1 8 E (.sto S [iv t95.1.f0,iv t95.1.f1,iv t95.1.f2,iv t95.1.f3,.slice A99 t95.1.f4.length c100,.slice A102 t95.1.f5.length c103,.slice A105 t95.1.f6.length c106]) ?_
  rintro _ u114 a ⟨rfl,hb93,S,hz⟩ E
  refine ⟨.d,?_⟩
  refine mny 0 hst E (.r 9 1 .nil) (fun a E=>?_)
  refine dn ?_
  refine hK76 _ _ (sq fun K115 hK115=>rr E fun a E=>(E.ikn 43 H (fun c117 E H=>?_) fun c117 E H=>?_))
  refine wp_skip (hK115 _ _ (sq fun K140 hK140=>pl0 (plc E (.bn 0 0 7 (S.ba 3)<|.bn 1 0 7 hb93<|.nil) (fun a E=>?_))))
  obtain ⟨t142,h143,H⟩:=bd H
  refine ple E (.cl en79 (qAQ.calls k23 x t95.1 _ _ _ _ _ _ _ _ _ _ _ _ _ _ _ S.own.sub g0_4 g0_5 g0_6 g101 g104 g107 h143)) ?_
  rintro _ u141 a ⟨F144,A145,c146,rfl,hC⟩ E
  have hs:=hC.sub
  replace S:=S.called (X:=[]) hC
  replace g101:=g101.mono hs
  replace g104:=g104.mono hs
  replace g107:=g107.mono hs
  replace g0_4:=g0_4.mono hs
  replace g0_5:=g0_5.mono hs
  replace g0_6:=g0_6.mono hs
  replace g1_6:=g1_6.mono hs
  refine plc E (.r 3 1 .nil) (fun a E=>?_)
  replace S:=S.front 1 rfl
  refine pls E S [iv t95.1.f0,iv t95.1.f1,iv t95.1.f2,iv t95.1.f3,.slice A99 t95.1.f4.length c100,.slice A102 t95.1.f5.length c103,.slice A145 t142.length c146] fun u149 hb93 S a E=>pld (hK140 _ _ (sq fun K150 hK150=>pl0 (plc E (.r 0 1<|.b 1 0 hb93<|.r 2 2<|.nil) (fun a E=>pls E S [iv (w64 (t95.1.f0+1)),iv t95.1.f1,iv t95.1.f2,iv t95.1.f3,.slice A99 t95.1.f4.length c100,.slice A102 t95.1.f5.length c103,.slice A145 t142.length c146] fun u151 hb93 S a E=>pld (hK150 _ _ (sq fun K152 hK152=>pl0 (plc E (.bn 0 0 7 hb93 .nil) (fun a E=>?_))))))))
  replace S:=S.front 2 rfl
  refine pls E S [iv (w64 (t95.1.f0+1)),iv t95.1.f1,iv t95.1.f2,iv t95.1.f3,.slice A99 t95.1.f4.length c100,.slice A102 t95.1.f5.length c103,.slice A145 t142.length c146] fun u153 hb6 S a E=>plc E (.r 2 1 .nil) (fun a E=>pld (hK152 _ _ (wp_ret ?_)))
  replace S:=S.pm [2] 5
  obtain rfl:=si H
  exact rtm E (.b hb6 ag26 sz26 (.t .nil)) ⟨_,rfl,_,_,_,_,_,_,_,rfl,S,g101,g104⟩
  refine sq fun K118 hK118=>pl0 (plc E (.bn 0 0 7 (S.ba 3) .nil) (fun a E=>?_))
  obtain ⟨t120,h121,H⟩:=bd H
  refine ple E (.cl en77 (qAV.calls k23 x _ _ _ _ _ _ _ _ _ S.own.sub g0_4 g0_5 g0_6 h121)) ?_
  rintro _ u119 a ⟨F122,A123,c124,A127,c128,A131,c132,rfl,hC⟩ E
  have hs:=hC.sub
  replace S:=S.called (X:=[]) hC
  replace g101:=g101.mono hs
  replace g104:=g104.mono hs
  replace g107:=g107.mono hs
  replace g0_4:=g0_4.mono hs
  replace g0_5:=g0_5.mono hs
  replace g0_6:=g0_6.mono hs
  replace g1_6:=g1_6.mono hs
  refine plc E (.r 2 1 .nil) (fun a E=>?_)
  replace S:=S.front 4 rfl
  refine pls E S [iv t120.f0,iv t120.f1,iv t120.f2,iv t120.f3,.slice A123 t120.f4.length c124,.slice A127 t120.f5.length c128,.slice A131 t120.f6.length c132] fun u135 hb6 S a E=>plc E (.r 4 1 .nil) (fun a E=>pld (hK118 _ _ (wp_ret (qBZ ?_))))
  replace S:=S.front 1 rfl
  obtain ⟨F136,hs,g137,S⟩:=S.give
  replace g101:=g101.mono hs
  replace g104:=g104.mono hs
  replace g107:=g107.mono hs
  replace g0_4:=g0_4.mono hs
  replace g0_5:=g0_5.mono hs
  replace g0_6:=g0_6.mono hs
  replace g1_6:=g1_6.mono hs
  replace S:=S.front 1 rfl
  obtain ⟨F138,hs,g139,S⟩:=S.give
  replace g101:=g101.mono hs
  replace g104:=g104.mono hs
  replace g107:=g107.mono hs
  replace g0_4:=g0_4.mono hs
  replace g0_5:=g0_5.mono hs
  replace g0_6:=g0_6.mono hs
  replace g137:=g137.mono hs
  replace g1_6:=g1_6.mono hs
  replace S:=S.pm [1] 5
  obtain rfl:=si H
  exact rtm E (.b hb6 ag26 sz26 (.t .nil)) ⟨_,rfl,_,_,_,_,_,_,_,rfl,S,g137,g139⟩
  refine meet2 (fun a w'=>∃(G:NV)(b93:Nat)(A81:OA)(c82:Nat)(A85:OA)(c86:Nat)(A89:OA)(c90:Nat)(F109:World),Env 56 G a∧At G [(2,.pointer (pb b2)),(4,.pointer (pb b6)),(6,.pointer (pb b93)),(37,.agg #[iv t77.f0,iv t77.f1,iv t77.f2,iv t77.f3,.slice A81 t77.f4.length c82,.slice A85 t77.f5.length c86,.slice A89 t77.f6.length c90]),(38,.agg #[iv y.f0,iv y.f1,iv y.f2,iv y.f3,iv y.f4,iv y.f5,.slice A1_6 y.f6.length c1_6])]∧Sm W F w' F109 [box b93 #[iv 0,iv 0,iv 0,iv 0,.slice none 0 0,.slice none 0 0,.slice none 0 0] 26,box b6 #[iv 0,iv 0,iv 0,iv 0,.slice none 0 0,.slice none 0 0,.slice none 0 0] 26,box b4 #[iv y.f0,iv y.f1,iv y.f2,iv y.f3,iv y.f4,iv y.f5,.slice A1_6 y.f6.length c1_6] 40,box b2 #[iv x.f0,iv x.f1,iv x.f2,iv x.f3,.slice A0_4 x.f4.length c0_4,.slice A0_5 x.f5.length c0_5,.slice A0_6 x.f6.length c0_6] 26,row qA.k 104 (.slice A81 t77.f4.length c82) t77.f4,row qE.k 97 (.slice A85 t77.f5.length c86) t77.f5,row qD.k 49 (.slice A89 t77.f6.length c90) t77.f6]∧Rd ki F109 A1_6 c1_6 y.f6∧Rd qA.k F109 A0_4 c0_4 x.f4∧Rd qE.k F109 A0_5 c0_5 x.f5∧Rd qD.k F109 A0_6 c0_6 x.f6) 6 135 ?_ (fun hJ=>?_)
  rintro a u110 ⟨G,b93,A81,c82,A85,c86,A89,c90,F109,E,A,S,g1_6,g0_4,g0_5,g0_6⟩
  obtain ⟨J,E⟩:=E.at A
  replace S:=S.pm [4,5,6,0,1,2,3] 7
  refine on1 3 E (.cl en78 (qAy.calls k23 t77 y _ _ _ _ _ _ _ _ _ _ _ (Own.left (X:=[row qA.k 104 (.slice A81 t77.f4.length c82) t77.f4,row qE.k 97 (.slice A85 t77.f5.length c86) t77.f5,row qD.k 49 (.slice A89 t77.f6.length c90) t77.f6]) S.own) g1_6 h96)) ?_
  rintro _ u97 a ⟨F98,A99,c100,A102,c103,A105,c106,rfl,hC,g101,g104,g107⟩ E
  refine ⟨.d,?_⟩
  have hs:=hC.sub
  replace S:=S.called (X:=[row qA.k 104 (.slice A81 t77.f4.length c82) t77.f4,row qE.k 97 (.slice A85 t77.f5.length c86) t77.f5,row qD.k 49 (.slice A89 t77.f6.length c90) t77.f6]) hC
  replace g1_6:=g1_6.mono hs
  replace g0_4:=g0_4.mono hs
  replace g0_5:=g0_5.mono hs
  replace g0_6:=g0_6.mono hs
  refine mny 2 hst E (.r 4 3 .nil) (fun a E=>?_)
  exact hJb _ _ ⟨_,b93,A99,c100,A102,c103,A105,c106,F98,E,.of,S,g101,g104,g107,g1_6,g0_4,g0_5,g0_6⟩
  refine pk2 1 7 ?_ ?_
  refine pk1 1 E (.cl en77 (qAV.calls k23 x _ _ _ _ _ _ _ _ _ S.own.sub g0_4 g0_5 g0_6 h78)) ?_
  rintro _ u79 a ⟨F80,A81,c82,A85,c86,A89,c90,rfl,hC⟩ E
  refine ⟨.of hC.agr,?_⟩
  have hs:=hC.sub
  replace S:=S.called (X:=[]) hC
  replace g0_4:=g0_4.mono hs
  replace g0_5:=g0_5.mono hs
  replace g0_6:=g0_6.mono hs
  replace g1_6:=g1_6.mono hs
  refine pk2 7 3 ?_ ?_
  refine pk1 7 E (.al (t:=26) S [iv 0,iv 0,iv 0,iv 0,.slice none 0 0,.slice none 0 0,.slice none 0 0]) ?_
  rintro _ u94 a ⟨b93,rfl,hb93,S,hg⟩ E
  refine ⟨.of hg,?_⟩
  replace S:=S.pm [0,4,5,6,1,2,3] 7
  exact hJ _ _ ⟨_,b93,A81,c82,A85,c86,A89,c90,F80,E,.of,S,g1_6,g0_4,g0_5,g0_6⟩
  refine pk1 3 E (.cl en78 (qAy.calls k23 t77 y _ _ _ _ _ _ _ _ _ _ _ (Own.left (X:=[row qA.k 104 (.slice A81 t77.f4.length c82) t77.f4,row qE.k 97 (.slice A85 t77.f5.length c86) t77.f5,row qD.k 49 (.slice A89 t77.f6.length c90) t77.f6]) S.own) g1_6 h96)) ?_
  rintro _ u97 a ⟨F98,A99,c100,A102,c103,A105,c106,rfl,hC,g101,g104,g107⟩ E
  refine ⟨.d,?_⟩
  have hs:=hC.sub
  replace S:=S.called (X:=[row qA.k 104 (.slice A81 t77.f4.length c82) t77.f4,row qE.k 97 (.slice A85 t77.f5.length c86) t77.f5,row qD.k 49 (.slice A89 t77.f6.length c90) t77.f6]) hC
  replace g0_4:=g0_4.mono hs
  replace g0_5:=g0_5.mono hs
  replace g0_6:=g0_6.mono hs
  replace g1_6:=g1_6.mono hs
  refine mny 3 hst E (.r 4 3 .nil) (fun a E=>?_)
  refine on1 7 E (.al (t:=26) S [iv 0,iv 0,iv 0,iv 0,.slice none 0 0,.slice none 0 0,.slice none 0 0]) ?_
  rintro _ u94 a ⟨b93,rfl,hb93,S,hg⟩ E
  refine ⟨.of hg,?_⟩
  exact hJb _ _ ⟨_,b93,A99,c100,A102,c103,A105,c106,F98,E,.of,S,g101,g104,g107,g1_6,g0_4,g0_5,g0_6⟩
  refine pk1 7 E (.al (t:=26) S [iv 0,iv 0,iv 0,iv 0,.slice none 0 0,.slice none 0 0,.slice none 0 0]) ?_
  rintro _ u94 a ⟨b93,rfl,hb93,S,hg⟩ E
  refine ⟨.of hg,?_⟩
  refine on1 1 E (.cl en77 (qAV.calls k23 x _ _ _ _ _ _ _ _ _ S.own.sub g0_4 g0_5 g0_6 h78)) ?_
  rintro _ u79 a ⟨F80,A81,c82,A85,c86,A89,c90,rfl,hC⟩ E
  refine ⟨.of hC.agr,?_⟩
  have hs:=hC.sub
  replace S:=S.called (X:=[]) hC
  replace g0_4:=g0_4.mono hs
  replace g0_5:=g0_5.mono hs
  replace g0_6:=g0_6.mono hs
  replace g1_6:=g1_6.mono hs
  replace S:=S.pm [3,4,5,6,0,1,2] 7
  exact hJ _ _ ⟨_,b93,A81,c82,A85,c86,A89,c90,F80,E,.of,S,g1_6,g0_4,g0_5,g0_6⟩
 refine pl0 ?_
 have hb4:=S.ba 1
 refine plc E (.r 0 1<|.b 1 0 hb4<|.r 2 2<|.nil) (fun a E=>E.fk 17 H (fun c15 E H=>?_) fun c15 E H=>?_)
 refine plc E (.r 4 10 .nil) (fun a E=>pld ?_)
 exact J24 _ (by omega) _ true _ _ E .of S H
 refine plc E (.r 4 1<|.b 5 0 hb4<|.r 6 3<|.nil) (fun a E=>E.fk 22 H (fun c16 E H=>?_) fun c16 E H=>?_)
 refine plc E (.r 9 5 .nil) (fun a E=>pld ?_)
 exact J24 _ (by omega) _ true _ _ E .of S H
 refine plc E (.bn 9 0 7 hb4 .nil) (fun a E=>?_)
 obtain ⟨t18,h19,H⟩:=bd H
 refine plq E S en76 (qBP.calls y _ _ _ _ _ S.own.sub g1_6 h19) fun u17 S a E=>plc E (.r 11 3 .nil) (fun a E=>pld ?_)
 exact J24 _ (by omega) _ (!t18) _ _ E .of S H
 refine sq fun K73 hK73=>pl0 (plc E (.r 0 1 .nil) (fun a E=>pls E S [iv 0,iv 0,iv 0,iv 0,.slice none 0 0,.slice none 0 0,.slice none 0 0] fun u74 hb6 S a E=>plc E (.r 2 1 .nil) (fun a E=>pld (hK73 _ _ (wp_ret (qBa (qBZ ?_)))))))
 replace S:=S.nilrow qD.k 49
 replace S:=S.pm [0] 4
 obtain rfl:=si H
 exact rtm E (.b hb6 ag26 sz26 (.t .nil)) ⟨_,rfl,_,_,_,_,_,_,_,rfl,S,(Rd.nil _ _),(Rd.nil _ _)⟩
def qAT.f(k:Nat):Option Bool:=(qBU.f k 3 2 4).bind fun t4=>((qAW.f k t4.1 (⟨1,5,1,1,3,0,[]⟩:qU)).bind fun t24=>((qAW.f k t24.1 (⟨3,5,0,0,0,0,[]⟩:qU)).bind fun t42=>(if t4.2=0 then (if t24.2=0 then (if t42.2=0 then (if t42.1.f0=2 then ((qAl.f k t24.1 0).bind fun t64=>((qw.f k t64 [5]).bind fun t76=>(if t76=true then ((qAe.f k t24.1 0).bind fun t80=>(if (t80.length:Int)=0 then ((qAe.f k t42.1 0).bind fun t91=>((qw.f k t91 [5]).bind fun t103=>(some t103))) else (some false))) else (some false)))) else (some false)) else (some false)) else (some false)) else (some false))))
def qAT.Post(W F:World)(r:Bool)(v:Value)(w':World):Prop:=∃(F':World),v = .bool r∧Sm W F w' F' []
theorem qAT.calls(k:Nat)(r:Bool)(W F:World)(hown:Sub F W)(H:qAT.f k=some r):
    Cr 17 #[] W (qAT.Post W F r):=by
 have S:=sT hown
 unfold qAT.f at H
 refine ent 55 rfl rfl rfl (fun a E=>?_)
 refine rr E fun a E=>(sq fun K2 hK2=>pl0 ?_)
 obtain ⟨t4,h5,H⟩:=bd H
 refine ple E (.cl en15 (qBU.calls k 3 2 4 _ _ _ S.own.sub h5)) ?_
 rintro _ u3 a ⟨F6,A7,c8,A10,c11,A13,c14,rfl,hC,g9,g12⟩ E
 have hs:=hC.sub
 replace S:=S.called (X:=[]) hC
 refine plc E (.r 1 3 .nil) (fun a E=>pla (t:=26) E S [iv 0,iv 0,iv 0,iv 0,.slice none 0 0,.slice none 0 0,.slice none 0 0] fun b17 u18 hb17 S a E=>pls E S [iv t4.1.f0,iv t4.1.f1,iv t4.1.f2,iv t4.1.f3,.slice A7 t4.1.f4.length c8,.slice A10 t4.1.f5.length c11,.slice A13 t4.1.f6.length c14] fun u19 hb17 S a E=>plc E (.r 6 1 .nil) (fun a E=>pld (hK2 _ _ (sq fun K20 hK20=>pl0 (plc E (.bn 0 0 7 hb17<|.r 1 1<|.nil) (fun a E=>?_))))))
 replace S:=S.front 1 rfl
 obtain ⟨F21,hs,g22,S⟩:=S.give
 replace g9:=g9.mono hs
 replace g12:=g12.mono hs
 obtain ⟨t24,h25,H⟩:=bd H
 refine ple E (.cl en26 (qAW.calls k t4.1 (⟨1,5,1,1,3,0,[]⟩:qU) _ _ _ _ _ _ _ _ _ _ _ S.own.sub g9 g12 g22 (Rd.nil _ _) h25)) ?_
 rintro _ u23 a ⟨F26,A27,c28,A30,c31,A33,c34,rfl,hC,g29,g32⟩ E
 have hs:=hC.sub
 replace S:=S.called (X:=[]) hC
 replace g9:=g9.mono hs
 replace g12:=g12.mono hs
 replace g22:=g22.mono hs
 refine plc E (.r 3 3 .nil) (fun a E=>?_)
 replace S:=S.front 1 rfl
 refine pls E S [iv t24.1.f0,iv t24.1.f1,iv t24.1.f2,iv t24.1.f3,.slice A27 t24.1.f4.length c28,.slice A30 t24.1.f5.length c31,.slice A33 t24.1.f6.length c34] fun u37 hb17 S a E=>plc E (.r 7 1 .nil) (fun a E=>pld (hK20 _ _ (sq fun K38 hK38=>pl0 (plc E (.bn 0 0 7 hb17<|.r 1 1<|.nil) (fun a E=>?_)))))
 replace S:=S.front 1 rfl
 obtain ⟨F39,hs,g40,S⟩:=S.give
 replace g9:=g9.mono hs
 replace g12:=g12.mono hs
 replace g22:=g22.mono hs
 replace g29:=g29.mono hs
 replace g32:=g32.mono hs
 obtain ⟨t42,h43,H⟩:=bd H
 refine ple E (.cl en26 (qAW.calls k t24.1 (⟨3,5,0,0,0,0,[]⟩:qU) _ _ _ _ _ _ _ _ _ _ _ S.own.sub g29 g32 g40 (Rd.nil _ _) h43)) ?_
 rintro _ u41 a ⟨F44,A45,c46,A48,c49,A51,c52,rfl,hC,g47,g50⟩ E
 have hs:=hC.sub
 replace S:=S.called (X:=[]) hC
 replace g9:=g9.mono hs
 replace g12:=g12.mono hs
 replace g22:=g22.mono hs
 replace g29:=g29.mono hs
 replace g32:=g32.mono hs
 replace g40:=g40.mono hs
 refine plc E (.r 3 3 .nil) (fun a E=>pla (t:=26) E S [iv 0,iv 0,iv 0,iv 0,.slice none 0 0,.slice none 0 0,.slice none 0 0] fun b55 u56 hb55 S a E=>pls E S [iv t42.1.f0,iv t42.1.f1,iv t42.1.f2,iv t42.1.f3,.slice A45 t42.1.f4.length c46,.slice A48 t42.1.f5.length c49,.slice A51 t42.1.f6.length c52] fun u57 hb55 S a E=>plc E (.r 8 1 .nil) (fun a E=>pld (hK38 _ _ (sq fun K58 hK58=>pl0 (plc E (.r 0 3 .nil) (fun a E=>E.fk 24 H (fun c59 E H=>?_) fun c59 E H=>?_))))))
 refine plc E (.r 3 4 .nil) (fun a E=>E.fk 28 H (fun c60 E H=>?_) fun c60 E H=>?_)
 refine plc E (.r 7 4 .nil) (fun a E=>E.fk 32 H (fun c61 E H=>?_) fun c61 E H=>?_)
 refine plc E (.r 11 1<|.b 12 0 hb55<|.r 13 3<|.nil) (fun a E=>E.fk 37 H (fun c62 E H=>?_) fun c62 E H=>?_)
 have hb17:=S.ba 2
 refine plc E (.bn 16 0 7 hb17 .nil) (fun a E=>?_)
 obtain ⟨t64,h65,H⟩:=bd H
 refine ple E (.cl en22 (qAl.calls k t24.1 0 _ _ _ _ _ _ _ _ _ S.own.sub g29 g32 g40 h65)) ?_
 rintro _ u63 a ⟨F66,A67,c68,rfl,hC⟩ E
 have hs:=hC.sub
 replace S:=S.called (X:=[]) hC
 replace g9:=g9.mono hs
 replace g12:=g12.mono hs
 replace g22:=g22.mono hs
 replace g29:=g29.mono hs
 replace g32:=g32.mono hs
 replace g40:=g40.mono hs
 replace g47:=g47.mono hs
 replace g50:=g50.mono hs
 refine ple E (.lit (d:=ki) (e:=3) S [5] (.cons rfl .nil)) ?_
 rintro _ u71 a ⟨A72,c73,rfl,S,hg⟩ E
 obtain ⟨t76,h77,H⟩:=bd H
 refine plq E S en21 (qw.calls k t64 [5] _ _ _ _ _ _ _ (Sub.refl _) (S.rd_at (i:=1) rfl) (S.rd_at (i:=0) rfl) h77) fun u75 S a E=>plc E (.r 20 2 .nil) (fun a E=>E.fb 43 H (fun c78 E H=>?_) fun c78 E H=>?_)
 refine plc E (.bn 22 0 7 (S.ba 4) .nil) (fun a E=>?_)
 obtain ⟨t80,h81,H⟩:=bd H
 refine ple E (.cl en24 (qAe.calls k t24.1 0 _ _ _ _ _ _ _ _ _ S.own.sub g29 g32 g40 h81)) ?_
 rintro _ u79 a ⟨F82,A83,c84,rfl,hC⟩ E
 have hs:=hC.sub
 replace S:=S.called (X:=[]) hC
 replace g9:=g9.mono hs
 replace g12:=g12.mono hs
 replace g22:=g22.mono hs
 replace g29:=g29.mono hs
 replace g32:=g32.mono hs
 replace g40:=g40.mono hs
 replace g47:=g47.mono hs
 replace g50:=g50.mono hs
 refine plc E (.r 24 4 .nil) (fun a E=>E.fk 49 H (fun c87 E H=>?_) fun c87 E H=>?_)
 refine plc E (.bn 28 0 7 (S.ba 3) .nil) (fun a E=>?_)
 replace S:=S.front 4 rfl
 obtain ⟨F88,hs,g89,S⟩:=S.give
 replace g9:=g9.mono hs
 replace g12:=g12.mono hs
 replace g22:=g22.mono hs
 replace g29:=g29.mono hs
 replace g32:=g32.mono hs
 replace g40:=g40.mono hs
 replace g47:=g47.mono hs
 replace g50:=g50.mono hs
 obtain ⟨t91,h92,H⟩:=bd H
 refine ple E (.cl en24 (qAe.calls k t42.1 0 _ _ _ _ _ _ _ _ _ S.own.sub g47 g50 g89 h92)) ?_
 rintro _ u90 a ⟨F93,A94,c95,rfl,hC⟩ E
 have hs:=hC.sub
 replace S:=S.called (X:=[]) hC
 replace g9:=g9.mono hs
 replace g12:=g12.mono hs
 replace g22:=g22.mono hs
 replace g29:=g29.mono hs
 replace g32:=g32.mono hs
 replace g40:=g40.mono hs
 replace g47:=g47.mono hs
 replace g50:=g50.mono hs
 replace g89:=g89.mono hs
 refine ple E (.lit (d:=ki) (e:=3) S [5] (.cons rfl .nil)) ?_
 rintro _ u98 a ⟨A99,c100,rfl,S,hg⟩ E
 obtain ⟨t103,h104,H⟩:=bd H
 refine plq E S en21 (qw.calls k t91 [5] _ _ _ _ _ _ _ (Sub.refl _) (S.rd_at (i:=1) rfl) (S.rd_at (i:=0) rfl) h104) fun u102 S a E=>plc E (.r 32 2 .nil) (fun a E=>pld (hK58 _ _ (wp_ret ?_)))
 replace S:=S.pm [] 7
 obtain rfl:=si H
 exact rt1 E ⟨_,rfl,_,rfl,S⟩
 refine plc E (.r 28 6 .nil) (fun a E=>pld (hK58 _ _ (wp_ret ?_)))
 replace S:=S.pm [] 6
 obtain rfl:=si H
 exact rt1 E ⟨_,rfl,_,rfl,S⟩
 refine plc E (.r 22 12 .nil) (fun a E=>pld (hK58 _ _ (wp_ret ?_)))
 replace S:=S.pm [] 5
 obtain rfl:=si H
 exact rt1 E ⟨_,rfl,_,rfl,S⟩
 refine plc E (.r 16 18 .nil) (fun a E=>pld (hK58 _ _ (wp_ret ?_)))
 replace S:=S.pm [] 3
 obtain rfl:=si H
 exact rt1 E ⟨_,rfl,_,rfl,S⟩
 refine plc E (.r 11 23 .nil) (fun a E=>pld (hK58 _ _ (wp_ret ?_)))
 replace S:=S.pm [] 3
 obtain rfl:=si H
 exact rt1 E ⟨_,rfl,_,rfl,S⟩
 refine plc E (.r 7 27 .nil) (fun a E=>pld (hK58 _ _ (wp_ret ?_)))
 replace S:=S.pm [] 3
 obtain rfl:=si H
 exact rt1 E ⟨_,rfl,_,rfl,S⟩
 refine plc E (.r 3 31 .nil) (fun a E=>pld (hK58 _ _ (wp_ret ?_)))
 replace S:=S.pm [] 3
 obtain rfl:=si H
 exact rt1 E ⟨_,rfl,_,rfl,S⟩
end Go.Proofs.YtpohepinmjmbkaaGreat.MX
