import Derived.Test.YtpabbpebefdafaaPM2
namespace Go.Proofs.Ytpabbpebefdafaa.PM
open Go Go.RowKit Go.Proofs.Ytpabbpebefdafaa.Sl
set_option linter.unusedVariables false
set_option linter.unusedSimpArgs false
set_option maxHeartbeats 4000000
set_option maxRecDepth 100000
mutual
def qH.l21:Nat→qP→List Int→Int→Option (List Int)
 | 0,_,_,_=>none
 | k+1,x,l18,x19=>if x19<(x.f0.length:Int) then (qH.j29 k x l18 x19 (decide ((l18.length:Int)<5000))) else (qH.j29 k x l18 x19 false)
def qH.j29:Nat→qP→List Int→Int→Bool→Option (List Int)
 | 0,_,_,_,_=>none
 | k+1,x,l18,x19,y28=>if y28=true then (if 0≤x19∧x19<(x.f0.length:Int) then ((qr.f k (nth 0 x.f0 x19)).bind fun t42=>(if ((l18.length:Int)+(t42.length:Int)) * 1≤140737488355328 then (qH.l21 k x (l18++t42) (w64 (x19+1))) else (none))) else (none)) else ((qm.f k (x.f1.length:Int)).bind fun t55=>(if ((l18.length:Int)+(t55.length:Int)) * 1≤140737488355328 then (qH.l68 k x l18 t55) else (none)))
def qH.l68:Nat→qP→List Int→List Int→Option (List Int)
 | 0,_,_,_=>none
 | k+1,x,l18,t55=>if 0<(x.f1.length:Int) then (qH.j76 k x l18 t55 (decide (((l18++t55).length:Int)<5000))) else (qH.j76 k x l18 t55 false)
def qH.j76:Nat→qP→List Int→List Int→Bool→Option (List Int)
 | 0,_,_,_,_=>none
 | k+1,x,l18,t55,y75=>if y75=true then (if 0≤(0:Int)∧0<(x.f1.length:Int) then ((qm.f k ((nth ByteArray.empty x.f1 0).size:Int)).bind fun t91=>(if (((l18++t55).length:Int)+(t91.length:Int)) * 1≤140737488355328 then (if ((nth ByteArray.empty x.f1 0).size:Int)>5000 then (if 0≤(0:Int)∧(0:Int)≤(5000:Int)∧(5000:Int)≤((nth ByteArray.empty x.f1 0).size:Int) then (qH.j107 k (scut (nth ByteArray.empty x.f1 0) (0:Int) (5000:Int))) else (none)) else (qH.j107 k (nth ByteArray.empty x.f1 0))) else (none))) else (none)) else (some (l18++t55))
def qH.j107:Nat→ByteArray→Option (List Int)
 | 0,_=>none
 | k+1,s106=>none
end
theorem qH.l21_s k x l18 x19:type_of% (qH.l21.eq_2 x l18 x19 k):=qH.l21.eq_2 x l18 x19 k
theorem qH.j29_s k x l18 x19 y28:type_of% (qH.j29.eq_2 x l18 x19 y28 k):=qH.j29.eq_2 x l18 x19 y28 k
theorem qH.l68_s k x l18 t55:type_of% (qH.l68.eq_2 x l18 t55 k):=qH.l68.eq_2 x l18 t55 k
theorem qH.j76_s k x l18 t55 y75:type_of% (qH.j76.eq_2 x l18 t55 y75 k):=qH.j76.eq_2 x l18 t55 y75 k
theorem qH.j107_s k s106:type_of% (qH.j107.eq_2 s106 k):=qH.j107.eq_2 s106 k
def qH.f(k:Nat)(x:qP):Option (List Int):=(qm.f k (x.f0.length:Int)).bind fun t6=>(qH.l21 k x t6 0)
def qH.Post(W F:World)(r:List Int)(v:Value)(w':World):Prop:=∃(F':World)(RA0_0:OA)(rc0_0:Nat),v = .slice RA0_0 r.length rc0_0∧Sm W F w' F' [row (Kn.int .u8) 5 (.slice RA0_0 r.length rc0_0) r]
theorem qH.calls(k:Nat)(x:qP)(A0_0:OA)(c0_0:Nat)(A0_1:OA)(c0_1:Nat)(r:List Int)(W F:World)(hown:Sub F W)(g0_0:Rd ki F A0_0 c0_0 x.f0)(g0_1:Rd Kn.string F A0_1 c0_1 x.f1)(H:qH.f k x=some r):
    Cr 43 #[.agg #[.slice A0_0 x.f0.length c0_0,.slice A0_1 x.f1.length c0_1]] W (qH.Post W F r):=by
 have S:=sT hown
 unfold qH.f at H
 refine ent 68 rfl rfl rfl (fun a E=>?_)
 refine sq fun K1 hK1=>pl0 (plx (t:=69) E S [.slice A0_0 x.f0.length c0_0,.slice A0_1 x.f1.length c0_1] fun b2 u3 hb2 S a E=>plc E (.r 1 1 .nil) (fun a E=>pld (hK1 _ _ (sq fun K4 hK4=>pl0 (plc E (.r 0 1<|.b 1 0 hb2<|.r 2 1<|.nil) (fun a E=>?_))))))
 obtain ⟨t6,h7,H⟩:=bd H
 refine ple E (.cl en63 (qm.calls k (x.f0.length:Int) _ _ _ S.own.sub h7)) ?_
 rintro _ u5 a ⟨F8,A9,c10,rfl,hC⟩ E
 have hs:=hC.sub
 replace S:=S.called (X:=[]) hC
 replace g0_0:=g0_0.mono hs
 replace g0_1:=g0_1.mono hs
 refine plc E (.r 4 1 .nil) (fun a E=>pld (hK4 _ _ (sq fun K13 hK13=>rr E fun a E=>(wp_block ?_))))
 replace S:=S.front 1 rfl
 refine wp_loop_ghost (fun kq22 a w'=>∃(G:NV)(A16:OA)(c17:Nat)(l18:List Int)(x19:Int)(F20:World),kq22≤k∧Env 68 G a∧At G [(1,.pointer (pb b2)),(3,.slice A16 l18.length c17),(4,iv x19)]∧Sm W F w' F20 [box b2 #[.slice A0_0 x.f0.length c0_0,.slice A0_1 x.f1.length c0_1] 69,row (Kn.int .u8) 5 (.slice A16 l18.length c17) l18]∧Rd ki F20 A0_0 c0_0 x.f0∧Rd Kn.string F20 A0_1 c0_1 x.f1∧qH.l21 kq22 x l18 x19=some r) k ⟨_,A9,c10,t6,0,F8,Nat.le_refl _,E,.of,S,g0_0,g0_1,H⟩ ?_
 rintro kq22 a u24 ⟨G,A16,c17,l18,x19,F20,hkq,E,A,S,g0_0,g0_1,H⟩
 obtain _ | k23:=kq22
 exact zz H
 rw [qH.l21_s]at H
 obtain ⟨J,E⟩:=E.at A
 refine sq fun K25 hK25=>sq fun K26 hK26=>?_
 have J32:∀ kq30,kq30≤k23→∀(G:NV)(y28:Bool)(a:Act)(w':World),Env 68 G a→At G [(1,.pointer (pb b2)),(3,.slice A16 l18.length c17),(4,iv x19),(20,.bool y28)]→Sm W F w' F20 [box b2 #[.slice A0_0 x.f0.length c0_0,.slice A0_1 x.f1.length c0_1] 69,row (Kn.int .u8) 5 (.slice A16 l18.length c17) l18]→qH.j29 kq30 x l18 x19 y28=some r→K26 a w':=by
  intro kq30 hkq G y28 a u33 E A S H
  obtain _ | k31:=kq30
  exact zz H
  rw [qH.j29_s]at H
  obtain ⟨J,E⟩:=E.at A
  refine hK26 _ _ (E.ib 20 H (fun c34 E H=>?_) fun c34 E H=>?_)
  refine wp_skip (hK25 _ _ (sq fun K35 hK35=>wp_block (pl0 ?_)))
  have hb2:=S.ba 0
  obtain ⟨c36,H⟩:=gd H
  have hE_:=E
  obtain ⟨ad37,rfl⟩:=g0_0.addr c36.1 c36.2
  replace E:=hE_
  obtain ⟨cs39,rfl,hc40⟩:=g0_0.el 0 x19 c36.1 c36.2
  refine plc E (.r 0 2<|.b 2 0 hb2<|.r 3 1<|.x 4 c36<|.c 5 (S.fc hc40 0)<|.nil) (fun a E=>?_)
  obtain ⟨t42,h43,H⟩:=bd H
  refine ple E (.cl en64 (qr.calls k31 (nth 0 x.f0 x19) _ _ _ S.own.sub h43)) ?_
  rintro _ u41 a ⟨F44,A45,c46,rfl,hC⟩ E
  have hs:=hC.sub
  replace S:=S.called (X:=[]) hC
  replace g0_0:=g0_0.mono hs
  replace g0_1:=g0_1.mono hs
  obtain ⟨c49,H⟩:=gd H
  replace S:=S.front 2 rfl
  refine ple E (.ap (d:=(Kn.int .u8)) 1 S (qAN (S.row_at (i:=1) rfl)) c49 c46) ?_
  rintro _ u52 a ⟨A50,c51,rfl,S,hz⟩ E
  refine plc E (.r 8 1 .nil) (fun a E=>pld ?_)
  refine qAL ?_
  refine hK35 _ _ (pl0 (plc E (.r 0 3 .nil) (fun a E=>pld ?_)))
  replace S:=S.pm [2,0] 3
  exact qAM ⟨k31,by omega,_,A50,c51,(l18++t42),(w64 (x19+1)),F44,by omega,E,.of,S,g0_0,g0_1,H⟩
  refine wp_exit ?_
  refine hK13 _ _ (sq fun K53 hK53=>pl0 ?_)
  have hb2:=S.ba 0
  refine plc E (.r 0 2<|.b 2 1 hb2<|.r 3 1<|.nil) (fun a E=>?_)
  obtain ⟨t55,h56,H⟩:=bd H
  refine ple E (.cl en63 (qm.calls k31 (x.f1.length:Int) _ _ _ S.own.sub h56)) ?_
  rintro _ u54 a ⟨F57,A58,c59,rfl,hC⟩ E
  have hs:=hC.sub
  replace S:=S.called (X:=[]) hC
  replace g0_1:=g0_1.mono hs
  replace g0_0:=g0_0.mono hs
  obtain ⟨c62,H⟩:=gd H
  replace S:=S.front 2 rfl
  refine ple E (.ap (d:=(Kn.int .u8)) 1 S (qAN (S.row_at (i:=1) rfl)) c62 c59) ?_
  rintro _ u65 a ⟨A63,c64,rfl,S,hz⟩ E
  refine plc E (.r 6 1 .nil) (fun a E=>pld (hK53 _ _ (sq fun K66 hK66=>rr E fun a E=>(wp_block ?_))))
  replace S:=S.pm [2,0] 3
  refine wp_loop_ghost (fun kq69 a w'=>∃(G:NV),kq69≤k31∧Env 68 G a∧At G [(1,.pointer (pb b2)),(3,.slice A63 ((l18++t55).length) c64),(5,iv 0)]∧Sm W F w' F57 [box b2 #[.slice A0_0 x.f0.length c0_0,.slice A0_1 x.f1.length c0_1] 69,row (Kn.int .u8) 5 (.slice A63 ((l18++t55).length) c64) (l18++t55)]∧qH.l68 kq69 x l18 t55=some r) k31 ⟨_,Nat.le_refl _,E,.of,S,H⟩ ?_
  rintro kq69 a u71 ⟨G,hkq,E,A,S,H⟩
  obtain _ | k70:=kq69
  exact zz H
  rw [qH.l68_s]at H
  obtain ⟨J,E⟩:=E.at A
  refine sq fun K72 hK72=>sq fun K73 hK73=>?_
  have J79:∀ kq77,kq77≤k70→∀(G:NV)(y75:Bool)(a:Act)(w':World),Env 68 G a→At G [(1,.pointer (pb b2)),(3,.slice A63 ((l18++t55).length) c64),(5,iv 0),(46,.bool y75)]→Sm W F w' F57 [box b2 #[.slice A0_0 x.f0.length c0_0,.slice A0_1 x.f1.length c0_1] 69,row (Kn.int .u8) 5 (.slice A63 ((l18++t55).length) c64) (l18++t55)]→qH.j76 kq77 x l18 t55 y75=some r→K73 a w':=by
   intro kq77 hkq G y75 a u80 E A S H
   obtain _ | k78:=kq77
   exact zz H
   rw [qH.j76_s]at H
   obtain ⟨J,E⟩:=E.at A
   refine hK73 _ _ (E.ib 46 H (fun c81 E H=>?_) fun c81 E H=>?_)
   refine wp_skip (hK72 _ _ (sq fun K82 hK82=>wp_block (sq fun K83 hK83=>pl0 ?_)))
   have hb2:=S.ba 0
   obtain ⟨c84,H⟩:=gd H
   have hE_:=E
   obtain ⟨ad85,rfl⟩:=g0_1.addr c84.1 c84.2
   replace E:=hE_
   obtain ⟨cs87,rfl,hc88⟩:=g0_1.el ByteArray.empty 0 c84.1 c84.2
   refine plc E (.r 0 1<|.b 1 1 hb2<|.r 2 1<|.x 3 c84<|.c 4 (S.fc hc88 0)<|.r 5 1<|.nil) (fun a E=>pld (hK83 _ _ (sq fun K89 hK89=>pl0 (plc E (.r 0 3 .nil) (fun a E=>?_)))))
   obtain ⟨t91,h92,H⟩:=bd H
   refine ple E (.cl en63 (qm.calls k78 ((nth ByteArray.empty x.f1 0).size:Int) _ _ _ S.own.sub h92)) ?_
   rintro _ u90 a ⟨F93,A94,c95,rfl,hC⟩ E
   have hs:=hC.sub
   replace S:=S.called (X:=[]) hC
   replace g0_1:=g0_1.mono hs
   replace g0_0:=g0_0.mono hs
   obtain ⟨c98,H⟩:=gd H
   replace S:=S.front 2 rfl
   refine ple E (.ap (d:=(Kn.int .u8)) 1 S (qAN (S.row_at (i:=1) rfl)) c98 c95) ?_
   rintro _ u101 a ⟨A99,c100,rfl,S,hz⟩ E
   refine plc E (.r 5 1 .nil) (fun a E=>pld (hK89 _ _ (sq fun K102 hK102=>?_)))
   have J110:∀ kq108,kq108≤k78→∀(G:NV)(s106:ByteArray)(a:Act)(w':World),Env 68 G a→At G [(1,.pointer (pb b2)),(3,.slice A99 (((l18++t55)++t91).length) c100),(5,iv 0),(6,.string s106)]→Sm W F w' F93 [box b2 #[.slice A0_0 x.f0.length c0_0,.slice (some ad85) x.f1.length c0_1] 69,row (Kn.int .u8) 5 (.slice A99 (((l18++t55)++t91).length) c100) ((l18++t55)++t91)]→qH.j107 kq108 s106=some r→K102 a w':=by
    intro kq108 hkq G s106 a u111 E A S H
    obtain _ | k109:=kq108
    exact zz H
    rw [qH.j107_s]at H
    obtain ⟨J,E⟩:=E.at A
    refine hK102 _ _ (pl0 (plc E (.r 0 2 .nil) (fun a E=>?_)))
    exact zz H
   refine rr E fun a E=>(E.ik 61 H (fun c104 E H=>?_) fun c104 E H=>?_)
   refine pl0 ?_
   obtain ⟨c105,H⟩:=gd H
   refine plc E (.r 0 1<|.y 1 (qDj c105)<|.r 2 1<|.nil) (fun a E=>pld ?_)
   replace S:=S.pm [2,0] 3
   exact J110 _ (by omega) _ (scut (nth ByteArray.empty x.f1 0) (0:Int) (5000:Int)) _ _ E .of S H
   refine wp_skip ?_
   replace S:=S.pm [2,0] 3
   exact J110 _ (by omega) _ (nth ByteArray.empty x.f1 0) _ _ E .of S H
   refine wp_exit ?_
   refine hK66 _ _ (rr E fun a E=>(wp_ret ?_))
   replace S:=S.tail
   obtain rfl:=si H
   exact rt1 E ⟨_,rfl,_,_,_,rfl,S⟩
  refine pl0 (plc E (.r 0 2<|.b 2 1 (S.ba 0)<|.r 3 3<|.nil) (fun a E=>E.fk 42 H (fun c74 E H=>?_) fun c74 E H=>?_))
  refine plc E (.r 6 4 .nil) (fun a E=>pld ?_)
  exact J79 _ (by omega) _ (decide (((l18++t55).length:Int)<5000)) _ _ E .of S H
  refine plc E (.r 6 4 .nil) (fun a E=>pld ?_)
  exact J79 _ (by omega) _ false _ _ E .of S H
 refine pl0 (plc E (.r 0 2<|.b 2 0 (S.ba 0)<|.r 3 3<|.nil) (fun a E=>E.fk 16 H (fun c27 E H=>?_) fun c27 E H=>?_))
 refine plc E (.r 6 4 .nil) (fun a E=>pld ?_)
 exact J32 _ (by omega) _ (decide ((l18.length:Int)<5000)) _ _ E .of S H
 refine plc E (.r 6 4 .nil) (fun a E=>pld ?_)
 exact J32 _ (by omega) _ false _ _ E .of S H
def qw.f(k:Nat)(x:qP):Option Bool:=(qH.f k x).bind fun t6=>(some (decide ((t6.length:Int)≤4096)))
def qw.Post(W F:World)(r:Bool)(v:Value)(w':World):Prop:=∃(F':World),v = .bool r∧Sm W F w' F' []
theorem qw.calls(k:Nat)(x:qP)(A0_0:OA)(c0_0:Nat)(A0_1:OA)(c0_1:Nat)(r:Bool)(W F:World)(hown:Sub F W)(g0_0:Rd ki F A0_0 c0_0 x.f0)(g0_1:Rd Kn.string F A0_1 c0_1 x.f1)(H:qw.f k x=some r):
    Cr 21 #[.agg #[.slice A0_0 x.f0.length c0_0,.slice A0_1 x.f1.length c0_1]] W (qw.Post W F r):=by
 have S:=sT hown
 unfold qw.f at H
 refine ent 7 rfl rfl rfl (fun a E=>?_)
 refine sq fun K1 hK1=>pl0 (plx (t:=69) E S [.slice A0_0 x.f0.length c0_0,.slice A0_1 x.f1.length c0_1] fun b2 u3 hb2 S a E=>plc E (.r 1 1 .nil) (fun a E=>pld (hK1 _ _ (sq fun K4 hK4=>pl0 (plc E (.bn 0 0 2 hb2 .nil) (fun a E=>?_))))))
 obtain ⟨t6,h7,H⟩:=bd H
 refine ple E (.cl en43 (qH.calls k x _ _ _ _ _ _ _ S.own.sub g0_0 g0_1 h7)) ?_
 rintro _ u5 a ⟨F8,A9,c10,rfl,hC⟩ E
 have hs:=hC.sub
 replace S:=S.called (X:=[]) hC
 replace g0_0:=g0_0.mono hs
 replace g0_1:=g0_1.mono hs
 refine plc E (.r 2 3 .nil) (fun a E=>pld (hK4 _ _ (wp_ret ?_)))
 replace S:=S.pm [] 2
 obtain rfl:=si H
 exact rt1 E ⟨_,rfl,_,rfl,S⟩
def qU.f(x:qE):Option (Int × qE):=if (x.f0.length:Int)=0 then (some (0,(⟨x.f0,true⟩:qE))) else (if 0≤(0:Int)∧0<(x.f0.length:Int) then (if 0≤(1:Int)∧(1:Int)≤(x.f0.length:Int) then (some ((nth 0 x.f0 0),(⟨(cutl x.f0 (1:Int) (x.f0.length:Int)),x.f1⟩:qE))) else (none)) else (none))
def qU.Post(x:qE)(p0_:Nat)(A0_0:OA)(c0_0:Nat)(W F:World)(r:Int × qE)(v:Value)(w':World):Prop:=∃(F':World)(RA1_0:OA)(rc1_0:Nat),v=iv r.1∧St W (mine W [box p0_ #[.slice A0_0 x.f0.length c0_0,.bool x.f1] 106]) F w' F' [box p0_ #[.slice RA1_0 r.2.f0.length rc1_0,.bool r.2.f1] 106]∧Rd ki F' RA1_0 rc1_0 r.2.f0
theorem qU.calls(x:qE)(p0_:Nat)(A0_0:OA)(c0_0:Nat)(r:Int × qE)(W F:World)(hown:Own W F [box p0_ #[.slice A0_0 x.f0.length c0_0,.bool x.f1] 106])(g0_0:Rd ki F A0_0 c0_0 x.f0)(H:qU.f x=some r):
    Cr 44 #[.pointer (pb p0_)] W (qU.Post x p0_ A0_0 c0_0 W F r):=by
 have S:=St.start hown
 obtain ⟨N,hN⟩:∃ N,N=mine W [box p0_ #[.slice A0_0 x.f0.length c0_0,.bool x.f1] 106]:=⟨_,rfl⟩
 rw [← hN]at S
 unfold qU.f at H
 refine ent 28 rfl rfl rfl (fun a E=>?_)
 refine rr E fun a E=>(sq fun K2 hK2=>sq fun K3 hK3=>pl0 ?_)
 have hp0_:=S.ba 0
 refine plc E (.r 0 3<|.b 3 0 hp0_<|.r 4 2<|.nil) (fun a E=>pld (hK3 _ _ (E.ik 9 H (fun c4 E H=>?_) fun c4 E H=>?_)))
 refine sq fun K5 hK5=>pl0 (plc E (.r 0 3 .nil) (fun a E=>pls E S [.slice A0_0 x.f0.length c0_0,.bool true] fun u6 hp0_ S a E=>pld (hK5 _ _ (rr E fun a E=>(wp_ret (qAH ?_))))))
 rw [hN]at S
 obtain rfl:=si H
 exact rt1 E ⟨_,rfl,_,_,_,rfl,S,g0_0⟩
 refine wp_skip (hK2 _ _ (sq fun K8 hK8=>pl0 ?_))
 obtain ⟨c9,H⟩:=gd H
 have hE_:=E
 obtain ⟨ad10,rfl⟩:=g0_0.addr c9.1 c9.2
 replace E:=hE_
 obtain ⟨cs12,rfl,hc13⟩:=g0_0.el 0 0 c9.1 c9.2
 refine plc E (.r 0 3<|.b 3 0 hp0_<|.x 4 c9<|.c 5 (S.fc hc13 0)<|.r 6 1<|.nil) (fun a E=>pld (hK8 _ _ (sq fun K14 hK14=>pl0 ?_)))
 obtain ⟨c15,H⟩:=gd H
 obtain ⟨A16,c17,g18,hv19⟩:=qBM (P:=Try.prog) g0_0 ⟨c15.1,c15.2,Int.le_refl _⟩ sz3
 refine plc E (.r 0 4<|.b 4 0 hp0_<|.y 5 (hv19 (by kernel_rfl))<|.r 6 2<|.nil) (fun a E=>pls E S [.slice A16 ((cutl x.f0 (1:Int) (x.f0.length:Int)).length) c17,.bool x.f1] fun u20 hp0_ S a E=>pld (hK14 _ _ (rr E fun a E=>(wp_ret ?_))))
 rw [hN]at S
 obtain rfl:=si H
 exact rt1 E ⟨_,rfl,_,_,_,rfl,S,g18⟩
def qZ.j15:Nat→Int × qE→Bool→Option (Int × qE)
 | 0,_,_=>none
 | k+1,t4,y14=>if y14=true then (some (0,(⟨t4.2.f0,true⟩:qE))) else (some (t4.1,t4.2))
theorem qZ.j15_s k t4 y14:type_of% (qZ.j15.eq_2 t4 y14 k):=qZ.j15.eq_2 t4 y14 k
def qZ.f(k:Nat)(x:qE)(y:Int):Option (Int × qE):=(qU.f x).bind fun t4=>(if t4.1<0 then (qZ.j15 k t4 true) else (if y≠0 then (qZ.j15 k t4 (decide (t4.1>(w64 ((t4.2.f0.length:Int).tdiv y))))) else (none)))
def qZ.Post(x:qE)(y:Int)(p0_:Nat)(A0_0:OA)(c0_0:Nat)(W F:World)(r:Int × qE)(v:Value)(w':World):Prop:=∃(F':World)(RA1_0:OA)(rc1_0:Nat),v=iv r.1∧St W (mine W [box p0_ #[.slice A0_0 x.f0.length c0_0,.bool x.f1] 106]) F w' F' [box p0_ #[.slice RA1_0 r.2.f0.length rc1_0,.bool r.2.f1] 106]∧Rd ki F' RA1_0 rc1_0 r.2.f0
theorem qZ.calls(k:Nat)(x:qE)(y:Int)(p0_:Nat)(A0_0:OA)(c0_0:Nat)(r:Int × qE)(W F:World)(hown:Own W F [box p0_ #[.slice A0_0 x.f0.length c0_0,.bool x.f1] 106])(g0_0:Rd ki F A0_0 c0_0 x.f0)(H:qZ.f k x y=some r):
    Cr 45 #[.pointer (pb p0_),iv y] W (qZ.Post x y p0_ A0_0 c0_0 W F r):=by
 have S:=St.start hown
 obtain ⟨N,hN⟩:∃ N,N=mine W [box p0_ #[.slice A0_0 x.f0.length c0_0,.bool x.f1] 106]:=⟨_,rfl⟩
 rw [← hN]at S
 unfold qZ.f at H
 refine ent 25 rfl rfl rfl (fun a E=>?_)
 refine rr E fun a E=>(sq fun K2 hK2=>pl0 (plc E (.r 0 1 .nil) (fun a E=>?_)))
 obtain ⟨t4,h5,H⟩:=bd H
 refine ple E (.cl en44 (qU.calls x _ _ _ _ _ _ (Own.left (X:=[box p0_ #[.slice A0_0 x.f0.length c0_0,.bool x.f1] 106]) S.own) g0_0 h5)) ?_
 rintro _ u3 a ⟨F6,A7,c8,rfl,hC,g9⟩ E
 have hs:=hC.sub
 replace S:=S.called (X:=[box p0_ #[.slice A0_0 x.f0.length c0_0,.bool x.f1] 106]) hC
 replace g0_0:=g0_0.mono hs
 refine plc E (.r 2 1 .nil) (fun a E=>pld (hK2 _ _ (sq fun K10 hK10=>sq fun K11 hK11=>?_)))
 have J18:∀ kq16,kq16≤k→∀(G:NV)(y14:Bool)(a:Act)(w':World),Env 25 G a→At G [(0,.pointer (pb p0_)),(5,iv t4.1),(20,.bool y14)]→St W N F w' F6 [box p0_ #[.slice A7 t4.2.f0.length c8,.bool t4.2.f1] 106]→qZ.j15 kq16 t4 y14=some r→K11 a w':=by
  intro kq16 hkq G y14 a u19 E A S H
  obtain _ | k17:=kq16
  exact zz H
  rw [qZ.j15_s]at H
  obtain ⟨J,E⟩:=E.at A
  refine hK11 _ _ (E.ib 20 H (fun c20 E H=>?_) fun c20 E H=>?_)
  refine sq fun K21 hK21=>pl0 (plc E (.r 0 3 .nil) (fun a E=>pls E S [.slice A7 t4.2.f0.length c8,.bool true] fun u22 hp0_ S a E=>pld (hK21 _ _ (rr E fun a E=>(wp_ret (qAH ?_))))))
  rw [hN]at S
  obtain rfl:=si H
  exact rt1 E ⟨_,rfl,_,_,_,rfl,S,g9⟩
  refine wp_skip (hK10 _ _ (rr E fun a E=>(wp_ret ?_)))
  rw [hN]at S
  obtain rfl:=si H
  exact rt1 E ⟨_,rfl,_,_,_,rfl,S,g9⟩
 refine pl0 (plc E (.r 0 3 .nil) (fun a E=>E.fk 10 H (fun c12 E H=>?_) fun c12 E H=>?_))
 refine plc E (.r 3 10 .nil) (fun a E=>pld ?_)
 exact J18 _ (by omega) _ true _ _ E .of S H
 have hp0_:=S.ba 0
 obtain ⟨c13,H⟩:=gd H
 refine plc E (.r 3 4<|.b 7 0 hp0_<|.r 8 2<|.y 10 (y_quo 3 .i64 (t4.2.f0.length:Int) c13)<|.r 11 2<|.nil) (fun a E=>pld ?_)
 exact J18 _ (by omega) _ (decide (t4.1>(w64 ((t4.2.f0.length:Int).tdiv y)))) _ _ E .of S H
def qt.f(x:qE):Option (Bool × qE):=(qU.f x).bind fun t4=>(if t4.2.f1=true then (some ((t4.1 == 1),(⟨t4.2.f0,true⟩:qE))) else (if t4.1<0 then (some ((t4.1 == 1),(⟨t4.2.f0,true⟩:qE))) else (some ((t4.1 == 1),(⟨t4.2.f0,(decide (t4.1>1))⟩:qE)))))
def qt.Post(x:qE)(p0_:Nat)(A0_0:OA)(c0_0:Nat)(W F:World)(r:Bool × qE)(v:Value)(w':World):Prop:=∃(F':World)(RA1_0:OA)(rc1_0:Nat),v = .bool r.1∧St W (mine W [box p0_ #[.slice A0_0 x.f0.length c0_0,.bool x.f1] 106]) F w' F' [box p0_ #[.slice RA1_0 r.2.f0.length rc1_0,.bool r.2.f1] 106]∧Rd ki F' RA1_0 rc1_0 r.2.f0
theorem qt.calls(x:qE)(p0_:Nat)(A0_0:OA)(c0_0:Nat)(r:Bool × qE)(W F:World)(hown:Own W F [box p0_ #[.slice A0_0 x.f0.length c0_0,.bool x.f1] 106])(g0_0:Rd ki F A0_0 c0_0 x.f0)(H:qt.f x=some r):
    Cr 46 #[.pointer (pb p0_)] W (qt.Post x p0_ A0_0 c0_0 W F r):=by
 have S:=St.start hown
 obtain ⟨N,hN⟩:∃ N,N=mine W [box p0_ #[.slice A0_0 x.f0.length c0_0,.bool x.f1] 106]:=⟨_,rfl⟩
 rw [← hN]at S
 unfold qt.f at H
 refine ent 23 rfl rfl rfl (fun a E=>?_)
 refine rr E fun a E=>(sq fun K2 hK2=>pl0 (plc E (.r 0 1 .nil) (fun a E=>?_)))
 obtain ⟨t4,h5,H⟩:=bd H
 refine ple E (.cl en44 (qU.calls x _ _ _ _ _ _ (Own.left (X:=[box p0_ #[.slice A0_0 x.f0.length c0_0,.bool x.f1] 106]) S.own) g0_0 h5)) ?_
 rintro _ u3 a ⟨F6,A7,c8,rfl,hC,g9⟩ E
 have hs:=hC.sub
 replace S:=S.called (X:=[box p0_ #[.slice A0_0 x.f0.length c0_0,.bool x.f1] 106]) hC
 replace g0_0:=g0_0.mono hs
 refine plc E (.r 2 1 .nil) (fun a E=>pld (hK2 _ _ (sq fun K10 hK10=>pl0 ?_)))
 have hp0_:=S.ba 0
 refine plc E (.r 0 4<|.b 4 1 hp0_<|.r 5 1<|.nil) (fun a E=>E.fb 11 H (fun c11 E H=>?_) fun c11 E H=>?_)
 refine plc E (.r 6 9 .nil) (fun a E=>pls E S [.slice A7 t4.2.f0.length c8,.bool true] fun u12 hp0_ S a E=>pld (hK10 _ _ (rr E fun a E=>(wp_ret ?_))))
 rw [hN]at S
 obtain rfl:=si H
 exact rt1 E ⟨_,rfl,_,_,_,rfl,S,g9⟩
 refine plc E (.r 6 4 .nil) (fun a E=>E.fk 15 H (fun c13 E H=>?_) fun c13 E H=>?_)
 refine plc E (.r 10 5 .nil) (fun a E=>pls E S [.slice A7 t4.2.f0.length c8,.bool true] fun u14 hp0_ S a E=>pld (hK10 _ _ (rr E fun a E=>(wp_ret ?_))))
 rw [hN]at S
 obtain rfl:=si H
 exact rt1 E ⟨_,rfl,_,_,_,rfl,S,g9⟩
 refine plc E (.r 10 5 .nil) (fun a E=>pls E S [.slice A7 t4.2.f0.length c8,.bool (decide (t4.1>1))] fun u15 hp0_ S a E=>pld (hK10 _ _ (rr E fun a E=>(wp_ret ?_))))
 rw [hN]at S
 obtain rfl:=si H
 exact rt1 E ⟨_,rfl,_,_,_,rfl,S,g9⟩
def qs.f(x:List Int):Option (List Int):=if ((([]:List Int).length:Int)+(x.length:Int)) * 8≤140737488355328 then (some (([]:List Int)++x)) else (none)
def qs.Post(W F:World)(r:List Int)(v:Value)(w':World):Prop:=∃(F':World)(RA0_0:OA)(rc0_0:Nat),v = .slice RA0_0 r.length rc0_0∧Sm W F w' F' [row ki 3 (.slice RA0_0 r.length rc0_0) r]
theorem qs.calls(x:List Int)(A0_0:OA)(c0_0:Nat)(r:List Int)(W F:World)(hown:Sub F W)(g0_0:Rd ki F A0_0 c0_0 x)(H:qs.f x=some r):
    Cr 29 #[.slice A0_0 x.length c0_0] W (qs.Post W F r):=by
 have S:=sT hown
 unfold qs.f at H
 refine ent 8 rfl rfl rfl (fun a E=>?_)
 rcases A0_0 with _ | ad1
 have hnil:=g0_0.none_nil
 replace H:(some [])=some r:=by simpa [hnil] using H
 refine rr E fun a E=>(sq fun K3 hK3=>rr E fun a E=>(ct E (rr E fun a E=>(wp_ret (qAH ?_)))))
 replace S:=S.nilrow ki 3
 obtain rfl:=si H
 exact rt1 E ⟨_,rfl,_,_,_,rfl,S⟩
 refine rr E fun a E=>(sq fun K8 hK8=>rr E fun a E=>(cf E (wp_skip (hK8 _ _ (sq fun K10 hK10=>pl0 (ple E (.lit (d:=ki) (e:=3) S ([]:List Int) (.nil)) ?_))))))
 rintro _ u11 a ⟨A12,c13,rfl,S,hg⟩ E
 refine plc E (.r 1 1 .nil) (fun a E=>?_)
 obtain ⟨c15,H⟩:=gd H
 refine ple E (.ap (d:=ki) 8 S (g0_0.src S.own.sub) c15 c0_0) ?_
 rintro _ u18 a ⟨A16,c17,rfl,S,hz⟩ E
 refine plc E (.r 3 1 .nil) (fun a E=>pld (hK10 _ _ (wp_ret ?_)))
 obtain rfl:=si H
 exact rt1 E ⟨_,rfl,_,_,_,rfl,S⟩
def qu.f(k:Nat)(x:qE):Option ((List Int) × qE):=(qZ.f k x 1).bind fun t4=>(if 0≤t4.1∧t4.1≤(t4.2.f0.length:Int) then ((qs.f (cutl t4.2.f0 0 t4.1)).bind fun t17=>(some (t17,(⟨(cutl t4.2.f0 t4.1 (t4.2.f0.length:Int)),t4.2.f1⟩:qE)))) else (none))
def qu.Post(x:qE)(p0_:Nat)(A0_0:OA)(c0_0:Nat)(W F:World)(r:(List Int) × qE)(v:Value)(w':World):Prop:=∃(F':World)(RA0_0:OA)(rc0_0:Nat)(RA1_0:OA)(rc1_0:Nat),v = .slice RA0_0 r.1.length rc0_0∧St W (mine W [box p0_ #[.slice A0_0 x.f0.length c0_0,.bool x.f1] 106]) F w' F' [box p0_ #[.slice RA1_0 r.2.f0.length rc1_0,.bool r.2.f1] 106,row ki 3 (.slice RA0_0 r.1.length rc0_0) r.1]∧Rd ki F' RA1_0 rc1_0 r.2.f0
theorem qu.calls(k:Nat)(x:qE)(p0_:Nat)(A0_0:OA)(c0_0:Nat)(r:(List Int) × qE)(W F:World)(hown:Own W F [box p0_ #[.slice A0_0 x.f0.length c0_0,.bool x.f1] 106])(g0_0:Rd ki F A0_0 c0_0 x.f0)(H:qu.f k x=some r):
    Cr 47 #[.pointer (pb p0_)] W (qu.Post x p0_ A0_0 c0_0 W F r):=by
 have S:=St.start hown
 obtain ⟨N,hN⟩:∃ N,N=mine W [box p0_ #[.slice A0_0 x.f0.length c0_0,.bool x.f1] 106]:=⟨_,rfl⟩
 rw [← hN]at S
 unfold qu.f at H
 refine ent 24 rfl rfl rfl (fun a E=>?_)
 refine rr E fun a E=>(sq fun K2 hK2=>pl0 (plc E (.r 0 1 .nil) (fun a E=>?_)))
 obtain ⟨t4,h5,H⟩:=bd H
 refine ple E (.cl en45 (qZ.calls k x 1 _ _ _ _ _ _ (Own.left (X:=[box p0_ #[.slice A0_0 x.f0.length c0_0,.bool x.f1] 106]) S.own) g0_0 h5)) ?_
 rintro _ u3 a ⟨F6,A7,c8,rfl,hC,g9⟩ E
 have hs:=hC.sub
 replace S:=S.called (X:=[box p0_ #[.slice A0_0 x.f0.length c0_0,.bool x.f1] 106]) hC
 replace g0_0:=g0_0.mono hs
 refine plc E (.r 2 1 .nil) (fun a E=>pld (hK2 _ _ (sq fun K10 hK10=>pl0 ?_)))
 have hp0_:=S.ba 0
 obtain ⟨c11,H⟩:=gd H
 obtain ⟨A12,c13,g14,hv15⟩:=qBM (P:=Try.prog) g9 ⟨Int.le_refl _,c11.1,c11.2⟩ sz3
 refine plc E (.r 0 3<|.b 3 0 hp0_<|.r 4 1<|.y 5 (hv15 (by kernel_rfl))<|.nil) (fun a E=>?_)
 obtain ⟨t17,h18,H⟩:=bd H
 refine ple E (.cl en29 (qs.calls (cutl t4.2.f0 0 t4.1) _ _ _ _ _ S.own.sub g14 h18)) ?_
 rintro _ u16 a ⟨F19,A20,c21,rfl,hC⟩ E
 have hs:=hC.sub
 replace S:=S.called (X:=[]) hC
 replace g9:=g9.mono hs
 replace g14:=g14.mono hs
 refine plc E (.r 7 1 .nil) (fun a E=>pld (hK10 _ _ (sq fun K24 hK24=>pl0 ?_)))
 have hp0_:=S.ba 1
 obtain ⟨A25,c26,g27,hv28⟩:=qBM (P:=Try.prog) g9 ⟨c11.1,c11.2,Int.le_refl _⟩ sz3
 refine plc E (.r 0 4<|.b 4 0 hp0_<|.r 5 1<|.y 6 (hv28 (by kernel_rfl))<|.r 7 2<|.nil) (fun a E=>?_)
 replace S:=S.front 1 rfl
 refine pls E S [.slice A25 ((cutl t4.2.f0 t4.1 (t4.2.f0.length:Int)).length) c26,.bool t4.2.f1] fun u29 hp0_ S a E=>pld (hK24 _ _ (rr E fun a E=>(wp_ret ?_)))
 rw [hN]at S
 obtain rfl:=si H
 exact rt1 E ⟨_,rfl,_,_,_,_,_,rfl,S,g27⟩
def qf.l35:Nat→Int × qE→Int × qE→Int→List Int→Bool→List qD→Option (qC × qE)
 | 0,_,_,_,_,_,_=>none
 | k+1,t6,t18,x25,l28,y30,l33=>if x25<t18.1 then ((qU.f (⟨l28,y30⟩:qE)).bind fun t45=>((qu.f k t45.2).bind fun t56=>(if ((l33.length:Int)+((1:Nat):Int)) * 32≤140737488355328 then (qf.l35 k t6 t18 (w64 (x25+1)) t56.2.f0 t56.2.f1 (l33++[(⟨t45.1,t56.1⟩:qD)])) else (none)))) else (some ((⟨t6.1,l33⟩:qC),(⟨l28,y30⟩:qE)))
theorem qf.l35_s k t6 t18 x25 l28 y30 l33:type_of% (qf.l35.eq_2 t6 t18 x25 l28 y30 l33 k):=qf.l35.eq_2 t6 t18 x25 l28 y30 l33 k
def qf.f(k:Nat)(x:qE):Option (qC × qE):=(qU.f x).bind fun t6=>((qZ.f k t6.2 2).bind fun t18=>(qf.l35 k t6 t18 0 t18.2.f0 t18.2.f1 []))
def qf.Post(x:qE)(p0_:Nat)(A0_0:OA)(c0_0:Nat)(W F:World)(r:qC × qE)(v:Value)(w':World):Prop:=∃(F':World)(RA0_1:OA)(rc0_1:Nat)(RA1_0:OA)(rc1_0:Nat),v = .agg #[iv r.1.f0,.slice RA0_1 r.1.f1.length rc0_1]∧St W (mine W [box p0_ #[.slice A0_0 x.f0.length c0_0,.bool x.f1] 106]) F w' F' [box p0_ #[.slice RA1_0 r.2.f0.length rc1_0,.bool r.2.f1] 106,row qD.k 92 (.slice RA0_1 r.1.f1.length rc0_1) r.1.f1]∧Rd ki F' RA1_0 rc1_0 r.2.f0
theorem qf.calls(k:Nat)(x:qE)(p0_:Nat)(A0_0:OA)(c0_0:Nat)(r:qC × qE)(W F:World)(hown:Own W F [box p0_ #[.slice A0_0 x.f0.length c0_0,.bool x.f1] 106])(g0_0:Rd ki F A0_0 c0_0 x.f0)(H:qf.f k x=some r):
    Cr 48 #[.pointer (pb p0_)] W (qf.Post x p0_ A0_0 c0_0 W F r):=by
 have S:=St.start hown
 obtain ⟨N,hN⟩:∃ N,N=mine W [box p0_ #[.slice A0_0 x.f0.length c0_0,.bool x.f1] 106]:=⟨_,rfl⟩
 rw [← hN]at S
 unfold qf.f at H
 refine ent 26 rfl rfl rfl (fun a E=>?_)
 refine sq fun K1 hK1=>pl0 (pla (t:=90) E S [iv 0,.slice none 0 0] fun b2 u3 hb2 S a E=>pld (hK1 _ _ (sq fun K4 hK4=>pl0 (plc E (.r 0 1 .nil) (fun a E=>?_)))))
 replace S:=S.front 1 rfl
 obtain ⟨t6,h7,H⟩:=bd H
 refine ple E (.cl en44 (qU.calls x _ _ _ _ _ _ (Own.left (X:=[box p0_ #[.slice A0_0 x.f0.length c0_0,.bool x.f1] 106]) S.own) g0_0 h7)) ?_
 rintro _ u5 a ⟨F8,A9,c10,rfl,hC,g11⟩ E
 have hs:=hC.sub
 replace S:=S.called (X:=[box p0_ #[.slice A0_0 x.f0.length c0_0,.bool x.f1] 106]) hC
 replace g0_0:=g0_0.mono hs
 refine plc E (.r 2 1 .nil) (fun a E=>pla (t:=90) E S [iv 0,.slice none 0 0] fun b12 u13 hb12 S a E=>pls E S [iv t6.1,.slice none 0 0] fun u14 hb12 S a E=>pld (hK4 _ _ (sq fun K15 hK15=>sq fun K16 hK16=>pl0 (plc E (.r 0 1 .nil) (fun a E=>?_)))))
 replace S:=S.front 1 rfl
 obtain ⟨t18,h19,H⟩:=bd H
 refine ple E (.cl en45 (qZ.calls k t6.2 2 _ _ _ _ _ _ (Own.left (X:=[box p0_ #[.slice A9 t6.2.f0.length c10,.bool t6.2.f1] 106]) S.own) g11 h19)) ?_
 rintro _ u17 a ⟨F20,A21,c22,rfl,hC,g23⟩ E
 have hs:=hC.sub
 replace S:=S.called (X:=[box p0_ #[.slice A9 t6.2.f0.length c10,.bool t6.2.f1] 106]) hC
 replace g11:=g11.mono hs
 refine plc E (.r 2 1 .nil) (fun a E=>pld (hK16 _ _ (wp_block ?_)))
 replace S:=S.nilrow qD.k 92
 replace S:=S.pm [1,2,3,0] 4
 refine wp_loop_ghost (fun kq36 a w'=>∃(G:NV)(x25:Int)(A26:OA)(c27:Nat)(l28:List Int)(y30:Bool)(A31:OA)(c32:Nat)(l33:List qD)(F34:World),kq36≤k∧Env 26 G a∧At G [(0,.pointer (pb p0_)),(2,.pointer (pb b2)),(3,.pointer (pb b12)),(9,iv t18.1),(10,iv x25)]∧St W N F w' F34 [box p0_ #[.slice A26 l28.length c27,.bool y30] 106,box b12 #[iv t6.1,.slice A31 l33.length c32] 90,box b2 #[iv 0,.slice none 0 0] 90,row qD.k 92 (.slice A31 l33.length c32) l33]∧Rd ki F34 A26 c27 l28∧qf.l35 kq36 t6 t18 x25 l28 y30 l33=some r) k ⟨_,0,A21,c22,t18.2.f0,t18.2.f1,none,0,[],F20,Nat.le_refl _,E,.of,S,g23,H⟩ ?_
 rintro kq36 a u38 ⟨G,x25,A26,c27,l28,y30,A31,c32,l33,F34,hkq,E,A,S,g29,H⟩
 obtain _ | k37:=kq36
 exact zz H
 rw [qf.l35_s]at H
 obtain ⟨J,E⟩:=E.at A
 refine rr E fun a E=>(sq fun K40 hK40=>E.ik 11 H (fun c41 E H=>?_) fun c41 E H=>?_)
 refine wp_skip (hK40 _ _ (sq fun K42 hK42=>wp_block (sq fun K43 hK43=>pl0 (plc E (.r 0 1 .nil) (fun a E=>?_)))))
 obtain ⟨t45,h46,H⟩:=bd H
 refine ple E (.cl en44 (qU.calls (⟨l28,y30⟩:qE) _ _ _ _ _ _ (Own.left (X:=[box p0_ #[.slice A26 l28.length c27,.bool y30] 106]) S.own) g29 h46)) ?_
 rintro _ u44 a ⟨F47,A48,c49,rfl,hC,g50⟩ E
 have hs:=hC.sub
 replace S:=S.called (X:=[box p0_ #[.slice A26 l28.length c27,.bool y30] 106]) hC
 replace g29:=g29.mono hs
 refine plc E (.r 2 1 .nil) (fun a E=>pla (t:=92) E S [iv 0,.slice none 0 0] fun b51 u52 hb51 S a E=>pls E S [iv t45.1,.slice none 0 0] fun u53 hb51 S a E=>pld (hK43 _ _ (sq fun K54 hK54=>pl0 (plc E (.r 0 1 .nil) (fun a E=>?_)))))
 replace S:=S.front 1 rfl
 obtain ⟨t56,h57,H⟩:=bd H
 refine ple E (.cl en47 (qu.calls k37 t45.2 _ _ _ _ _ _ (Own.left (X:=[box p0_ #[.slice A48 t45.2.f0.length c49,.bool t45.2.f1] 106]) S.own) g50 h57)) ?_
 rintro _ u55 a ⟨F58,A59,c60,A63,c64,rfl,hC,g65⟩ E
 have hs:=hC.sub
 replace S:=S.called (X:=[box p0_ #[.slice A48 t45.2.f0.length c49,.bool t45.2.f1] 106]) hC
 replace g50:=g50.mono hs
 refine plc E (.r 2 1 .nil) (fun a E=>?_)
 replace S:=S.front 2 rfl
 refine pls E S [iv t45.1,.slice A59 t56.1.length c60] fun u66 hb51 S a E=>pld (hK54 _ _ (pl0 (plc E (.r 0 1<|.b 1 1 (S.ba 3)<|.bn 2 0 2 hb51<|.nil) (fun a E=>?_))))
 replace S:=S.front 2 rfl
 obtain ⟨F70,hs,g71,S⟩:=S.give
 replace g65:=g65.mono hs
 refine ple E (.lit (d:=qD.k) (e:=92) S [(⟨t45.1,t56.1⟩:qD)] (.cons ⟨_,_,rfl,g71⟩ .nil)) ?_
 rintro _ u67 a ⟨A68,c69,rfl,S,hg⟩ E
 obtain ⟨c73,H⟩:=gd H
 replace S:=S.front 5 rfl
 refine ple E (.ap (d:=qD.k) 32 S (qAN (S.row_at (i:=1) rfl)) c73 c69) ?_
 rintro _ u76 a ⟨A74,c75,rfl,S,hz⟩ E
 refine plc E (.r 5 1 .nil) (fun a E=>?_)
 replace S:=S.front 4 rfl
 refine pls E S [iv t6.1,.slice A74 ((l33++[(⟨t45.1,t56.1⟩:qD)]).length) c75] fun u77 hb12 S a E=>pld ?_
 refine qAL ?_
 refine hK42 _ _ (pl0 (plc E (.r 0 2 .nil) (fun a E=>pld ?_)))
 replace S:=S.pm [4,0,5,1] 6
 exact qAM ⟨k37,by omega,_,(w64 (x25+1)),A63,c64,t56.2.f0,t56.2.f1,A74,c75,(l33++[(⟨t45.1,t56.1⟩:qD)]),F70,by omega,E,.of,S,g65,H⟩
 refine wp_exit ?_
 refine hK15 _ _ (sq fun K79 hK79=>pl0 (plc E (.bn 0 0 2 (S.ba 1) .nil) (fun a E=>?_)))
 replace S:=S.front 2 rfl
 refine pls E S [iv t6.1,.slice A31 l33.length c32] fun u80 hb2 S a E=>pld (hK79 _ _ (wp_ret ?_))
 replace S:=S.pm [1] 3
 rw [hN]at S
 obtain rfl:=si H
 exact ret1 E rfl (.cell (by kernel_rfl) (qBJ [iv t6.1,.slice A31 l33.length c32] ag90 sz90 hb2 rfl) .nil) ⟨_,rfl,_,_,_,_,_,rfl,S,g29⟩
mutual
def qR.l61:Nat→qP→Int × qE→Int × qE→Int × qE→Int × qE→Int × qE→Int→List Int→Bool→List qA→Option (qK × Int)
 | 0,_,_,_,_,_,_,_,_,_,_=>none
 | k+1,x,t11,t18,t25,t32,t44,x51,l54,y56,l59=>if x51<t44.1 then ((qU.f (⟨l54,y56⟩:qE)).bind fun t71=>((qU.f t71.2).bind fun t78=>((qU.f t78.2).bind fun t85=>((qU.f t85.2).bind fun t92=>((qt.f t92.2).bind fun t99=>((qt.f t99.2).bind fun t106=>(if ((l59.length:Int)+((1:Nat):Int)) * 40≤140737488355328 then (qR.l61 k x t11 t18 t25 t32 t44 (w64 (x51+1)) t106.2.f0 t106.2.f1 (l59++[(⟨t71.1,t78.1,t85.1,t92.1,t99.1,t106.1⟩:qA)])) else (none)))))))) else ((qZ.f k (⟨l54,y56⟩:qE) 2).bind fun t125=>(qR.l142 k x t11 t18 t25 t32 l59 t125 0 t125.2.f0 t125.2.f1 []))
def qR.l142:Nat→qP→Int × qE→Int × qE→Int × qE→Int × qE→List qA→Int × qE→Int→List Int→Bool→List qI→Option (qK × Int)
 | 0,_,_,_,_,_,_,_,_,_,_,_=>none
 | k+1,x,t11,t18,t25,t32,l59,t125,x132,l135,y137,l140=>if x132<t125.1 then ((qU.f (⟨l135,y137⟩:qE)).bind fun t152=>((qu.f k t152.2).bind fun t163=>(if ((l140.length:Int)+((1:Nat):Int)) * 32≤140737488355328 then (qR.l142 k x t11 t18 t25 t32 l59 t125 (w64 (x132+1)) t163.2.f0 t163.2.f1 (l140++[(⟨t152.1,t163.1⟩:qI)])) else (none)))) else (qR.l199 k x t11 t18 t25 t32 l59 l140 0 l135 y137 [])
def qR.l199:Nat→qP→Int × qE→Int × qE→Int × qE→Int × qE→List qA→List qI→Int→List Int→Bool→List qC→Option (qK × Int)
 | 0,_,_,_,_,_,_,_,_,_,_,_=>none
 | k+1,x,t11,t18,t25,t32,l59,l140,x189,l192,y194,l197=>if x189<(if 8<t32.1 then 8 else t32.1) then ((qf.f k (⟨l192,y194⟩:qE)).bind fun t209=>(if ((l197.length:Int)+((1:Nat):Int)) * 32≤140737488355328 then (qR.l199 k x t11 t18 t25 t32 l59 l140 (w64 (x189+1)) t209.2.f0 t209.2.f1 (l197++[t209.1])) else (none))) else (if y194=true then (qR.j240 k t11 t18 t25 t32 l59 l140 l197 true) else (if (l192.length:Int)>0 then (qR.j240 k t11 t18 t25 t32 l59 l140 l197 true) else (if (x.f1.length:Int)>0 then (qR.j240 k t11 t18 t25 t32 l59 l140 l197 true) else ((qY.f k (⟨t11.1,t18.1,t25.1,t32.1,l59,l140,l197⟩:qK)).bind fun t237=>(qR.j240 k t11 t18 t25 t32 l59 l140 l197 (!(t237 == 0)))))))
def qR.j240:Nat→Int × qE→Int × qE→Int × qE→Int × qE→List qA→List qI→List qC→Bool→Option (qK × Int)
 | 0,_,_,_,_,_,_,_,_=>none
 | k+1,t11,t18,t25,t32,l59,l140,l197,y239=>if y239=true then (some ((⟨0,0,0,0,[],[],[]⟩:qK),2)) else (some ((⟨t11.1,t18.1,t25.1,t32.1,l59,l140,l197⟩:qK),0))
end
theorem qR.l61_s k x t11 t18 t25 t32 t44 x51 l54 y56 l59:type_of% (qR.l61.eq_2 x t11 t18 t25 t32 t44 x51 l54 y56 l59 k):=qR.l61.eq_2 x t11 t18 t25 t32 t44 x51 l54 y56 l59 k
theorem qR.l142_s k x t11 t18 t25 t32 l59 t125 x132 l135 y137 l140:type_of% (qR.l142.eq_2 x t11 t18 t25 t32 l59 t125 x132 l135 y137 l140 k):=qR.l142.eq_2 x t11 t18 t25 t32 l59 t125 x132 l135 y137 l140 k
theorem qR.l199_s k x t11 t18 t25 t32 l59 l140 x189 l192 y194 l197:type_of% (qR.l199.eq_2 x t11 t18 t25 t32 l59 l140 x189 l192 y194 l197 k):=qR.l199.eq_2 x t11 t18 t25 t32 l59 l140 x189 l192 y194 l197 k
theorem qR.j240_s k t11 t18 t25 t32 l59 l140 l197 y239:type_of% (qR.j240.eq_2 t11 t18 t25 t32 l59 l140 l197 y239 k):=qR.j240.eq_2 t11 t18 t25 t32 l59 l140 l197 y239 k
def qR.f(k:Nat)(x:qP):Option (qK × Int):=(qU.f (⟨x.f0,false⟩:qE)).bind fun t11=>((qU.f t11.2).bind fun t18=>((qU.f t18.2).bind fun t25=>((qU.f t25.2).bind fun t32=>((qZ.f k t32.2 6).bind fun t44=>(qR.l61 k x t11 t18 t25 t32 t44 0 t44.2.f0 t44.2.f1 [])))))
def qR.Post(W F:World)(r:qK × Int)(v:Value)(w':World):Prop:=∃(F':World)(RA0_4:OA)(rc0_4:Nat)(RA0_5:OA)(rc0_5:Nat)(RA0_6:OA)(rc0_6:Nat),v = .tuple #[.agg #[iv r.1.f0,iv r.1.f1,iv r.1.f2,iv r.1.f3,.slice RA0_4 r.1.f4.length rc0_4,.slice RA0_5 r.1.f5.length rc0_5,.slice RA0_6 r.1.f6.length rc0_6],iv r.2]∧Sm W F w' F' [row qA.k 96 (.slice RA0_4 r.1.f4.length rc0_4) r.1.f4,row qI.k 87 (.slice RA0_5 r.1.f5.length rc0_5) r.1.f5,row qC.k 90 (.slice RA0_6 r.1.f6.length rc0_6) r.1.f6]
theorem qR.calls(k:Nat)(x:qP)(A0_0:OA)(c0_0:Nat)(A0_1:OA)(c0_1:Nat)(r:qK × Int)(W F:World)(hown:Sub F W)(g0_0:Rd ki F A0_0 c0_0 x.f0)(g0_1:Rd Kn.string F A0_1 c0_1 x.f1)(H:qR.f k x=some r):
    Cr 22 #[.agg #[.slice A0_0 x.f0.length c0_0,.slice A0_1 x.f1.length c0_1]] W (qR.Post W F r):=by
 have S:=sT hown
 unfold qR.f at H
 refine ent 98 rfl rfl rfl (fun a E=>?_)
 refine sq fun K1 hK1=>pl0 (plx (t:=69) E S [.slice A0_0 x.f0.length c0_0,.slice A0_1 x.f1.length c0_1] fun b2 u3 hb2 S a E=>pla (t:=65) E S [iv 0,iv 0,iv 0,iv 0,.slice none 0 0,.slice none 0 0,.slice none 0 0] fun b4 u5 hb4 S a E=>plc E (.r 2 1 .nil) (fun a E=>pld (hK1 _ _ (sq fun K6 hK6=>pl0 (plc E (.r 0 1<|.b 1 0 (S.ba 1)<|.r 2 1<|.nil) (fun a E=>plx (t:=106) E S [.slice A0_0 x.f0.length c0_0,.bool false] fun b7 u8 hb7 S a E=>plc E (.r 4 1 .nil) (fun a E=>pld (hK6 _ _ (sq fun K9 hK9=>pl0 (plc E (.r 0 1 .nil) (fun a E=>?_)))))))))))
 obtain ⟨t11,h12,H⟩:=bd H
 refine ple E (.cl en44 (qU.calls (⟨x.f0,false⟩:qE) _ _ _ _ _ _ (Own.left (X:=[box b7 #[.slice A0_0 x.f0.length c0_0,.bool false] 106]) S.own) g0_0 h12)) ?_
 rintro _ u10 a ⟨F13,A14,c15,rfl,hC,g16⟩ E
 have hs:=hC.sub
 replace S:=S.called (X:=[box b7 #[.slice A0_0 x.f0.length c0_0,.bool false] 106]) hC
 replace g0_0:=g0_0.mono hs
 replace g0_1:=g0_1.mono hs
 refine plc E (.r 2 1 .nil) (fun a E=>?_)
 obtain ⟨t18,h19,H⟩:=bd H
 refine ple E (.cl en44 (qU.calls t11.2 _ _ _ _ _ _ (Own.left (X:=[box b7 #[.slice A14 t11.2.f0.length c15,.bool t11.2.f1] 106]) S.own) g16 h19)) ?_
 rintro _ u17 a ⟨F20,A21,c22,rfl,hC,g23⟩ E
 have hs:=hC.sub
 replace S:=S.called (X:=[box b7 #[.slice A14 t11.2.f0.length c15,.bool t11.2.f1] 106]) hC
 replace g0_0:=g0_0.mono hs
 replace g0_1:=g0_1.mono hs
 replace g16:=g16.mono hs
 refine plc E (.r 4 1 .nil) (fun a E=>?_)
 obtain ⟨t25,h26,H⟩:=bd H
 refine ple E (.cl en44 (qU.calls t18.2 _ _ _ _ _ _ (Own.left (X:=[box b7 #[.slice A21 t18.2.f0.length c22,.bool t18.2.f1] 106]) S.own) g23 h26)) ?_
 rintro _ u24 a ⟨F27,A28,c29,rfl,hC,g30⟩ E
 have hs:=hC.sub
 replace S:=S.called (X:=[box b7 #[.slice A21 t18.2.f0.length c22,.bool t18.2.f1] 106]) hC
 replace g0_0:=g0_0.mono hs
 replace g0_1:=g0_1.mono hs
 replace g23:=g23.mono hs
 refine plc E (.r 6 1 .nil) (fun a E=>?_)
 obtain ⟨t32,h33,H⟩:=bd H
 refine ple E (.cl en44 (qU.calls t25.2 _ _ _ _ _ _ (Own.left (X:=[box b7 #[.slice A28 t25.2.f0.length c29,.bool t25.2.f1] 106]) S.own) g30 h33)) ?_
 rintro _ u31 a ⟨F34,A35,c36,rfl,hC,g37⟩ E
 have hs:=hC.sub
 replace S:=S.called (X:=[box b7 #[.slice A28 t25.2.f0.length c29,.bool t25.2.f1] 106]) hC
 replace g0_0:=g0_0.mono hs
 replace g0_1:=g0_1.mono hs
 replace g30:=g30.mono hs
 refine plc E (.r 8 1 .nil) (fun a E=>pla (t:=65) E S [iv 0,iv 0,iv 0,iv 0,.slice none 0 0,.slice none 0 0,.slice none 0 0] fun b38 u39 hb38 S a E=>pls E S [iv t11.1,iv t18.1,iv t25.1,iv t32.1,.slice none 0 0,.slice none 0 0,.slice none 0 0] fun u40 hb38 S a E=>pld (hK9 _ _ (sq fun K41 hK41=>sq fun K42 hK42=>pl0 (plc E (.r 0 1 .nil) (fun a E=>?_)))))
 replace S:=S.front 1 rfl
 obtain ⟨t44,h45,H⟩:=bd H
 refine ple E (.cl en45 (qZ.calls k t32.2 6 _ _ _ _ _ _ (Own.left (X:=[box b7 #[.slice A35 t32.2.f0.length c36,.bool t32.2.f1] 106]) S.own) g37 h45)) ?_
 rintro _ u43 a ⟨F46,A47,c48,rfl,hC,g49⟩ E
 have hs:=hC.sub
 replace S:=S.called (X:=[box b7 #[.slice A35 t32.2.f0.length c36,.bool t32.2.f1] 106]) hC
 replace g0_0:=g0_0.mono hs
 replace g0_1:=g0_1.mono hs
 replace g37:=g37.mono hs
 refine plc E (.r 2 1 .nil) (fun a E=>pld (hK42 _ _ (wp_block ?_)))
 replace S:=S.nilrow qA.k 96
 replace S:=S.pm [1,2,3,4,0] 5
 refine wp_loop_ghost (fun kq62 a w'=>∃(G:NV)(x51:Int)(A52:OA)(c53:Nat)(l54:List Int)(y56:Bool)(A57:OA)(c58:Nat)(l59:List qA)(F60:World),kq62≤k∧Env 98 G a∧At G [(1,.pointer (pb b2)),(2,.pointer (pb b4)),(4,.pointer (pb b7)),(5,.pointer (pb b38)),(21,iv t44.1),(22,iv x51)]∧Sm W F w' F60 [box b7 #[.slice A52 l54.length c53,.bool y56] 106,box b38 #[iv t11.1,iv t18.1,iv t25.1,iv t32.1,.slice A57 l59.length c58,.slice none 0 0,.slice none 0 0] 65,box b4 #[iv 0,iv 0,iv 0,iv 0,.slice none 0 0,.slice none 0 0,.slice none 0 0] 65,box b2 #[.slice A0_0 x.f0.length c0_0,.slice A0_1 x.f1.length c0_1] 69,row qA.k 96 (.slice A57 l59.length c58) l59]∧Rd ki F60 A52 c53 l54∧Rd ki F60 A0_0 c0_0 x.f0∧Rd Kn.string F60 A0_1 c0_1 x.f1∧qR.l61 kq62 x t11 t18 t25 t32 t44 x51 l54 y56 l59=some r) k ⟨_,0,A47,c48,t44.2.f0,t44.2.f1,none,0,[],F46,Nat.le_refl _,E,.of,S,g49,g0_0,g0_1,H⟩ ?_
 rintro kq62 a u64 ⟨G,x51,A52,c53,l54,y56,A57,c58,l59,F60,hkq,E,hA,S,g55,g0_0,g0_1,H⟩
 obtain _ | k63:=kq62
 exact zz H
 rw [qR.l61_s]at H
 obtain ⟨J,E⟩:=E.at hA
 refine rr E fun a E=>(sq fun K66 hK66=>E.ik 23 H (fun c67 E H=>?_) fun c67 E H=>?_)
 refine wp_skip (hK66 _ _ (sq fun K68 hK68=>wp_block ?_))
 refine drawn 19 ⟨[3,5,7,9,11,13,16,18],[3,5,7,9,11,13],fun q=>q=b7⟩ mixed rfl (by kernel_rfl) (fun hst=>?_)
 replace S:=S.drew
 have ne69:¬ (b38=b7):=by intro h; exact S.ne (i:=1) (j:=0) rfl rfl (by decide) h
 have hb38:=S.ba 1
 refine mny 11 hst E (.r 0 1<|.bX 1 4 hb38 ne69<|.r 2 1<|.r 4 1<|.r 6 1<|.r 8 1<|.r 10 1<|.r 12 1<|.nil) (fun a E=>?_)
 obtain ⟨t71,h72,H⟩:=bd H
 refine on1 3 E (.cl en44 (qU.calls (⟨l54,y56⟩:qE) _ _ _ _ _ _ (Own.left (X:=[box b7 #[.slice A52 l54.length c53,.bool y56] 106]) S.own) g55 h72)) ?_
 rintro _ u70 a ⟨F73,A74,c75,rfl,hC,g76⟩ E
 refine ⟨.c (hC.agrX (by intro A hA b hb; simp only [List.mem_cons,List.not_mem_nil,or_false]at hA; rcases hA with rfl <;> (cases (show b=_ from hb); simp))),?_⟩
 have hs:=hC.sub
 replace S:=S.called (X:=[box b7 #[.slice A52 l54.length c53,.bool y56] 106]) hC
 replace g55:=g55.mono hs
 replace g0_0:=g0_0.mono hs
 replace g0_1:=g0_1.mono hs
 obtain ⟨t78,h79,H⟩:=bd H
 refine on1 5 E (.cl en44 (qU.calls t71.2 _ _ _ _ _ _ (Own.left (X:=[box b7 #[.slice A74 t71.2.f0.length c75,.bool t71.2.f1] 106]) S.own) g76 h79)) ?_
 rintro _ u77 a ⟨F80,A81,c82,rfl,hC,g83⟩ E
 refine ⟨.c (hC.agrX (by intro A hA b hb; simp only [List.mem_cons,List.not_mem_nil,or_false]at hA; rcases hA with rfl <;> (cases (show b=_ from hb); simp))),?_⟩
 have hs:=hC.sub
 replace S:=S.called (X:=[box b7 #[.slice A74 t71.2.f0.length c75,.bool t71.2.f1] 106]) hC
 replace g76:=g76.mono hs
 replace g0_0:=g0_0.mono hs
 replace g0_1:=g0_1.mono hs
 obtain ⟨t85,h86,H⟩:=bd H
 refine on1 7 E (.cl en44 (qU.calls t78.2 _ _ _ _ _ _ (Own.left (X:=[box b7 #[.slice A81 t78.2.f0.length c82,.bool t78.2.f1] 106]) S.own) g83 h86)) ?_
 rintro _ u84 a ⟨F87,A88,c89,rfl,hC,g90⟩ E
 refine ⟨.c (hC.agrX (by intro A hA b hb; simp only [List.mem_cons,List.not_mem_nil,or_false]at hA; rcases hA with rfl <;> (cases (show b=_ from hb); simp))),?_⟩
 have hs:=hC.sub
 replace S:=S.called (X:=[box b7 #[.slice A81 t78.2.f0.length c82,.bool t78.2.f1] 106]) hC
 replace g83:=g83.mono hs
 replace g0_0:=g0_0.mono hs
 replace g0_1:=g0_1.mono hs
 obtain ⟨t92,h93,H⟩:=bd H
 refine on1 9 E (.cl en44 (qU.calls t85.2 _ _ _ _ _ _ (Own.left (X:=[box b7 #[.slice A88 t85.2.f0.length c89,.bool t85.2.f1] 106]) S.own) g90 h93)) ?_
 rintro _ u91 a ⟨F94,A95,c96,rfl,hC,g97⟩ E
 refine ⟨.c (hC.agrX (by intro A hA b hb; simp only [List.mem_cons,List.not_mem_nil,or_false]at hA; rcases hA with rfl <;> (cases (show b=_ from hb); simp))),?_⟩
 have hs:=hC.sub
 replace S:=S.called (X:=[box b7 #[.slice A88 t85.2.f0.length c89,.bool t85.2.f1] 106]) hC
 replace g90:=g90.mono hs
 replace g0_0:=g0_0.mono hs
 replace g0_1:=g0_1.mono hs
 obtain ⟨t99,h100,H⟩:=bd H
 refine on1 11 E (.cl en46 (qt.calls t92.2 _ _ _ _ _ _ (Own.left (X:=[box b7 #[.slice A95 t92.2.f0.length c96,.bool t92.2.f1] 106]) S.own) g97 h100)) ?_
 rintro _ u98 a ⟨F101,A102,c103,rfl,hC,g104⟩ E
 refine ⟨.c (hC.agrX (by intro A hA b hb; simp only [List.mem_cons,List.not_mem_nil,or_false]at hA; rcases hA with rfl <;> (cases (show b=_ from hb); simp))),?_⟩
 have hs:=hC.sub
 replace S:=S.called (X:=[box b7 #[.slice A95 t92.2.f0.length c96,.bool t92.2.f1] 106]) hC
 replace g97:=g97.mono hs
 replace g0_0:=g0_0.mono hs
 replace g0_1:=g0_1.mono hs
 obtain ⟨t106,h107,H⟩:=bd H
 refine on1 13 E (.cl en46 (qt.calls t99.2 _ _ _ _ _ _ (Own.left (X:=[box b7 #[.slice A102 t99.2.f0.length c103,.bool t99.2.f1] 106]) S.own) g104 h107)) ?_
 rintro _ u105 a ⟨F108,A109,c110,rfl,hC,g111⟩ E
 refine ⟨.c (hC.agrX (by intro A hA b hb; simp only [List.mem_cons,List.not_mem_nil,or_false]at hA; rcases hA with rfl <;> (cases (show b=_ from hb); simp))),?_⟩
 have hs:=hC.sub
 replace S:=S.called (X:=[box b7 #[.slice A102 t99.2.f0.length c103,.bool t99.2.f1] 106]) hC
 replace g104:=g104.mono hs
 replace g0_0:=g0_0.mono hs
 replace g0_1:=g0_1.mono hs
 refine mny 4 hst E (.r 14 1 .nil) (fun a E=>?_)
 refine on1 15 E (.lit (d:=qA.k) (e:=96) S [(⟨t71.1,t78.1,t85.1,t92.1,t99.1,t106.1⟩:qA)] (.cons rfl .nil)) ?_
 rintro _ u112 a ⟨A113,c114,rfl,S,hg⟩ E
 refine ⟨.of hg,?_⟩
 obtain ⟨c116,H⟩:=gd H
 replace S:=S.front 5 rfl
 refine on1 16 E (.ap (d:=qA.k) 40 S (qAN (S.row_at (i:=1) rfl)) c116 c114) ?_
 rintro _ u119 a ⟨A117,c118,rfl,S,hz⟩ E
 refine ⟨.d,?_⟩
 refine mny 1 hst E (.r 17 1 .nil) (fun a E=>?_)
 replace S:=S.front 3 rfl
 refine on1 18 E (.sto S [iv t11.1,iv t18.1,iv t25.1,iv t32.1,.slice A117 ((l59++[(⟨t71.1,t78.1,t85.1,t92.1,t99.1,t106.1⟩:qA)]).length) c118,.slice none 0 0,.slice none 0 0]) ?_
 rintro _ u120 a ⟨rfl,hb38,S,hz⟩ E
 refine ⟨.d,?_⟩
 refine dn ?_
 refine qAL ?_
 refine hK68 _ _ (pl0 (plc E (.r 0 2 .nil) (fun a E=>pld ?_)))
 replace S:=S.pm [3,0,4,5,1] 6
 exact qAM ⟨k63,by omega,_,(w64 (x51+1)),A109,c110,t106.2.f0,t106.2.f1,A117,c118,(l59++[(⟨t71.1,t78.1,t85.1,t92.1,t99.1,t106.1⟩:qA)]),F108,by omega,E,.of,S,g111,g0_0,g0_1,H⟩
 refine wp_exit ?_
 refine hK41 _ _ (sq fun K122 hK122=>sq fun K123 hK123=>pl0 (plc E (.r 0 1 .nil) (fun a E=>?_)))
 obtain ⟨t125,h126,H⟩:=bd H
 refine ple E (.cl en45 (qZ.calls k63 (⟨l54,y56⟩:qE) 2 _ _ _ _ _ _ (Own.left (X:=[box b7 #[.slice A52 l54.length c53,.bool y56] 106]) S.own) g55 h126)) ?_
 rintro _ u124 a ⟨F127,A128,c129,rfl,hC,g130⟩ E
 have hs:=hC.sub
 replace S:=S.called (X:=[box b7 #[.slice A52 l54.length c53,.bool y56] 106]) hC
 replace g55:=g55.mono hs
 replace g0_0:=g0_0.mono hs
 replace g0_1:=g0_1.mono hs
 refine plc E (.r 2 1 .nil) (fun a E=>pld (hK123 _ _ (wp_block ?_)))
 replace S:=S.nilrow qI.k 87
 replace S:=S.pm [1,2,3,4,5,0] 6
 refine wp_loop_ghost (fun kq143 a w'=>∃(G:NV)(x132:Int)(A133:OA)(c134:Nat)(l135:List Int)(y137:Bool)(A138:OA)(c139:Nat)(l140:List qI)(F141:World),kq143≤k63∧Env 98 G a∧At G [(1,.pointer (pb b2)),(2,.pointer (pb b4)),(4,.pointer (pb b7)),(5,.pointer (pb b38)),(44,iv t125.1),(45,iv x132)]∧Sm W F w' F141 [box b7 #[.slice A133 l135.length c134,.bool y137] 106,box b38 #[iv t11.1,iv t18.1,iv t25.1,iv t32.1,.slice A57 l59.length c58,.slice A138 l140.length c139,.slice none 0 0] 65,box b4 #[iv 0,iv 0,iv 0,iv 0,.slice none 0 0,.slice none 0 0,.slice none 0 0] 65,box b2 #[.slice A0_0 x.f0.length c0_0,.slice A0_1 x.f1.length c0_1] 69,row qA.k 96 (.slice A57 l59.length c58) l59,row qI.k 87 (.slice A138 l140.length c139) l140]∧Rd ki F141 A133 c134 l135∧Rd ki F141 A0_0 c0_0 x.f0∧Rd Kn.string F141 A0_1 c0_1 x.f1∧qR.l142 kq143 x t11 t18 t25 t32 l59 t125 x132 l135 y137 l140=some r) k63 ⟨_,0,A128,c129,t125.2.f0,t125.2.f1,none,0,[],F127,Nat.le_refl _,E,.of,S,g130,g0_0,g0_1,H⟩ ?_
 rintro kq143 a u145 ⟨G,x132,A133,c134,l135,y137,A138,c139,l140,F141,hkq,E,hA,S,g136,g0_0,g0_1,H⟩
 obtain _ | k144:=kq143
 exact zz H
 rw [qR.l142_s]at H
 obtain ⟨J,E⟩:=E.at hA
 refine rr E fun a E=>(sq fun K147 hK147=>E.ik 46 H (fun c148 E H=>?_) fun c148 E H=>?_)
 refine wp_skip (hK147 _ _ (sq fun K149 hK149=>wp_block (sq fun K150 hK150=>pl0 (plc E (.r 0 1 .nil) (fun a E=>?_)))))
 obtain ⟨t152,h153,H⟩:=bd H
 refine ple E (.cl en44 (qU.calls (⟨l135,y137⟩:qE) _ _ _ _ _ _ (Own.left (X:=[box b7 #[.slice A133 l135.length c134,.bool y137] 106]) S.own) g136 h153)) ?_
 rintro _ u151 a ⟨F154,A155,c156,rfl,hC,g157⟩ E
 have hs:=hC.sub
 replace S:=S.called (X:=[box b7 #[.slice A133 l135.length c134,.bool y137] 106]) hC
 replace g136:=g136.mono hs
 replace g0_0:=g0_0.mono hs
 replace g0_1:=g0_1.mono hs
 refine plc E (.r 2 1 .nil) (fun a E=>pla (t:=87) E S [iv 0,.slice none 0 0] fun b158 u159 hb158 S a E=>pls E S [iv t152.1,.slice none 0 0] fun u160 hb158 S a E=>pld (hK150 _ _ (sq fun K161 hK161=>pl0 (plc E (.r 0 1 .nil) (fun a E=>?_)))))
 replace S:=S.front 1 rfl
 obtain ⟨t163,h164,H⟩:=bd H
 refine ple E (.cl en47 (qu.calls k144 t152.2 _ _ _ _ _ _ (Own.left (X:=[box b7 #[.slice A155 t152.2.f0.length c156,.bool t152.2.f1] 106]) S.own) g157 h164)) ?_
 rintro _ u162 a ⟨F165,A166,c167,A170,c171,rfl,hC,g172⟩ E
 have hs:=hC.sub
 replace S:=S.called (X:=[box b7 #[.slice A155 t152.2.f0.length c156,.bool t152.2.f1] 106]) hC
 replace g157:=g157.mono hs
 replace g0_0:=g0_0.mono hs
 replace g0_1:=g0_1.mono hs
 refine plc E (.r 2 1 .nil) (fun a E=>?_)
 replace S:=S.front 2 rfl
 refine pls E S [iv t152.1,.slice A166 t163.1.length c167] fun u173 hb158 S a E=>pld (hK161 _ _ (pl0 (plc E (.r 0 1<|.b 1 5 (S.ba 3)<|.bn 2 0 2 hb158<|.nil) (fun a E=>?_))))
 replace S:=S.front 2 rfl
 obtain ⟨F177,hs,g178,S⟩:=S.give
 replace g172:=g172.mono hs
 replace g0_0:=g0_0.mono hs
 replace g0_1:=g0_1.mono hs
 refine ple E (.lit (d:=qI.k) (e:=87) S [(⟨t152.1,t163.1⟩:qI)] (.cons ⟨_,_,rfl,g178⟩ .nil)) ?_
 rintro _ u174 a ⟨A175,c176,rfl,S,hg⟩ E
 obtain ⟨c180,H⟩:=gd H
 replace S:=S.front 7 rfl
 refine ple E (.ap (d:=qI.k) 32 S (qAN (S.row_at (i:=1) rfl)) c180 c176) ?_
 rintro _ u183 a ⟨A181,c182,rfl,S,hz⟩ E
 refine plc E (.r 5 1 .nil) (fun a E=>?_)
 replace S:=S.front 4 rfl
 refine pls E S [iv t11.1,iv t18.1,iv t25.1,iv t32.1,.slice A57 l59.length c58,.slice A181 ((l140++[(⟨t152.1,t163.1⟩:qI)]).length) c182,.slice none 0 0] fun u184 hb38 S a E=>pld ?_
 refine qAL ?_
 refine hK149 _ _ (pl0 (plc E (.r 0 2 .nil) (fun a E=>pld ?_)))
 replace S:=S.pm [4,0,5,6,7,1] 8
 exact qAM ⟨k144,by omega,_,(w64 (x132+1)),A170,c171,t163.2.f0,t163.2.f1,A181,c182,(l140++[(⟨t152.1,t163.1⟩:qI)]),F177,by omega,E,.of,S,g172,g0_0,g0_1,H⟩
 refine wp_exit ?_
 refine hK122 _ _ (sq fun K186 hK186=>sq fun K187 hK187=>pl0 ?_)
 have hb38:=S.ba 1
 refine plc E (.r 0 1<|.b 1 3 hb38<|.r 2 2<|.nil) (fun a E=>pld (hK187 _ _ (wp_block ?_)))
 replace S:=S.nilrow qC.k 90
 replace S:=S.pm [1,2,3,4,5,6,0] 7
 refine wp_loop_ghost (fun kq200 a w'=>∃(G:NV)(x189:Int)(A190:OA)(c191:Nat)(l192:List Int)(y194:Bool)(A195:OA)(c196:Nat)(l197:List qC)(F198:World),kq200≤k144∧Env 98 G a∧At G [(1,.pointer (pb b2)),(2,.pointer (pb b4)),(4,.pointer (pb b7)),(5,.pointer (pb b38)),(62,iv (if 8<t32.1 then 8 else t32.1)),(63,iv x189)]∧Sm W F w' F198 [box b7 #[.slice A190 l192.length c191,.bool y194] 106,box b38 #[iv t11.1,iv t18.1,iv t25.1,iv t32.1,.slice A57 l59.length c58,.slice A138 l140.length c139,.slice A195 l197.length c196] 65,box b4 #[iv 0,iv 0,iv 0,iv 0,.slice none 0 0,.slice none 0 0,.slice none 0 0] 65,box b2 #[.slice A0_0 x.f0.length c0_0,.slice A0_1 x.f1.length c0_1] 69,row qA.k 96 (.slice A57 l59.length c58) l59,row qI.k 87 (.slice A138 l140.length c139) l140,row qC.k 90 (.slice A195 l197.length c196) l197]∧Rd ki F198 A190 c191 l192∧Rd ki F198 A0_0 c0_0 x.f0∧Rd Kn.string F198 A0_1 c0_1 x.f1∧qR.l199 kq200 x t11 t18 t25 t32 l59 l140 x189 l192 y194 l197=some r) k144 ⟨_,0,A133,c134,l135,y137,none,0,[],F141,Nat.le_refl _,E,.of,S,g136,g0_0,g0_1,H⟩ ?_
 rintro kq200 a u202 ⟨G,x189,A190,c191,l192,y194,A195,c196,l197,F198,hkq,E,hA,S,g193,g0_0,g0_1,H⟩
 obtain _ | k201:=kq200
 exact zz H
 rw [qR.l199_s]at H
 obtain ⟨J,E⟩:=E.at hA
 refine rr E fun a E=>(sq fun K204 hK204=>E.ik 64 H (fun c205 E H=>?_) fun c205 E H=>?_)
 refine wp_skip (hK204 _ _ (sq fun K206 hK206=>wp_block ?_))
 refine drawn 8 ⟨[3,5,7],[3],fun q=>q=b7⟩ mixed rfl (by kernel_rfl) (fun hst=>?_)
 replace S:=S.drew
 have ne207:¬ (b38=b7):=by intro h; exact S.ne (i:=1) (j:=0) rfl rfl (by decide) h
 have hb38:=S.ba 1
 refine mny 5 hst E (.r 0 1<|.bX 1 6 hb38 ne207<|.r 2 1<|.nil) (fun a E=>?_)
 obtain ⟨t209,h210,H⟩:=bd H
 refine on1 3 E (.cl en48 (qf.calls k201 (⟨l192,y194⟩:qE) _ _ _ _ _ _ (Own.left (X:=[box b7 #[.slice A190 l192.length c191,.bool y194] 106]) S.own) g193 h210)) ?_
 rintro _ u208 a ⟨F211,A212,c213,A216,c217,rfl,hC,g218⟩ E
 refine ⟨.c (hC.agrX (by intro A hA b hb; simp only [List.mem_cons,List.not_mem_nil,or_false]at hA; rcases hA with rfl <;> (cases (show b=_ from hb); simp))),?_⟩
 have hs:=hC.sub
 replace S:=S.called (X:=[box b7 #[.slice A190 l192.length c191,.bool y194] 106]) hC
 replace g193:=g193.mono hs
 replace g0_0:=g0_0.mono hs
 replace g0_1:=g0_1.mono hs
 replace S:=S.front 1 rfl
 obtain ⟨F222,hs,g223,S⟩:=S.give
 replace g218:=g218.mono hs
 replace g0_0:=g0_0.mono hs
 replace g0_1:=g0_1.mono hs
 refine on1 4 E (.lit (d:=qC.k) (e:=90) S [t209.1] (.cons ⟨_,_,rfl,g223⟩ .nil)) ?_
 rintro _ u219 a ⟨A220,c221,rfl,S,hg⟩ E
 refine ⟨.of hg,?_⟩
 obtain ⟨c225,H⟩:=gd H
 replace S:=S.front 7 rfl
 refine on1 5 E (.ap (d:=qC.k) 32 S (qAN (S.row_at (i:=1) rfl)) c225 c221) ?_
 rintro _ u228 a ⟨A226,c227,rfl,S,hz⟩ E
 refine ⟨.d,?_⟩
 refine mny 1 hst E (.r 6 1 .nil) (fun a E=>?_)
 replace S:=S.front 3 rfl
 refine on1 7 E (.sto S [iv t11.1,iv t18.1,iv t25.1,iv t32.1,.slice A57 l59.length c58,.slice A138 l140.length c139,.slice A226 ((l197++[t209.1]).length) c227]) ?_
 rintro _ u229 a ⟨rfl,hb38,S,hz⟩ E
 refine ⟨.d,?_⟩
 refine dn ?_
 refine qAL ?_
 refine hK206 _ _ (pl0 (plc E (.r 0 2 .nil) (fun a E=>pld ?_)))
 replace S:=S.pm [3,0,4,5,6,7,1] 8
 exact qAM ⟨k201,by omega,_,(w64 (x189+1)),A216,c217,t209.2.f0,t209.2.f1,A226,c227,(l197++[t209.1]),F222,by omega,E,.of,S,g218,g0_0,g0_1,H⟩
 refine wp_exit ?_
 refine hK186 _ _ (sq fun K231 hK231=>sq fun K232 hK232=>?_)
 have J243:∀ kq241,kq241≤k201→∀(G:NV)(y239:Bool)(a:Act)(w':World),Env 98 G a→At G [(2,.pointer (pb b4)),(5,.pointer (pb b38)),(95,.bool y239)]→Sm W F w' F198 [box b7 #[.slice A190 l192.length c191,.bool y194] 106,box b38 #[iv t11.1,iv t18.1,iv t25.1,iv t32.1,.slice A57 l59.length c58,.slice A138 l140.length c139,.slice A195 l197.length c196] 65,box b4 #[iv 0,iv 0,iv 0,iv 0,.slice none 0 0,.slice none 0 0,.slice none 0 0] 65,box b2 #[.slice A0_0 x.f0.length c0_0,.slice A0_1 x.f1.length c0_1] 69,row qA.k 96 (.slice A57 l59.length c58) l59,row qI.k 87 (.slice A138 l140.length c139) l140,row qC.k 90 (.slice A195 l197.length c196) l197]→qR.j240 kq241 t11 t18 t25 t32 l59 l140 l197 y239=some r→K232 a w':=by
  intro kq241 hkq G y239 a u244 E hA S H
  obtain _ | k242:=kq241
  exact zz H
  rw [qR.j240_s]at H
  obtain ⟨J,E⟩:=E.at hA
  refine hK232 _ _ (E.ib 95 H (fun c245 E H=>?_) fun c245 E H=>?_)
  refine sq fun K246 hK246=>pl0 (plc E (.r 0 1 .nil) (fun a E=>?_))
  replace S:=S.front 2 rfl
  refine pls E S [iv 0,iv 0,iv 0,iv 0,.slice none 0 0,.slice none 0 0,.slice none 0 0] fun u247 hb4 S a E=>plc E (.r 2 1 .nil) (fun a E=>pld (hK246 _ _ (wp_ret (qAH ?_))))
  replace S:=S.nilrow qA.k 96
  replace S:=S.nilrow qI.k 87
  replace S:=S.nilrow qC.k 90
  replace S:=S.pm [2,1,0] 10
  obtain rfl:=si H
  exact rtm E (.b hb4 ag65 sz65 (.t .nil)) ⟨_,rfl,_,_,_,_,_,_,_,rfl,S⟩
  refine wp_skip (hK231 _ _ (sq fun K251 hK251=>pl0 (plc E (.bn 0 0 7 (S.ba 1) .nil) (fun a E=>?_))))
  replace S:=S.front 2 rfl
  refine pls E S [iv t11.1,iv t18.1,iv t25.1,iv t32.1,.slice A57 l59.length c58,.slice A138 l140.length c139,.slice A195 l197.length c196] fun u252 hb4 S a E=>plc E (.r 2 1 .nil) (fun a E=>pld (hK251 _ _ (wp_ret ?_)))
  replace S:=S.pm [] 4
  obtain rfl:=si H
  exact rtm E (.b hb4 ag65 sz65 (.t .nil)) ⟨_,rfl,_,_,_,_,_,_,_,rfl,S⟩
 refine pl0 ?_
 have hb7:=S.ba 0
 refine plc E (.r 0 3<|.b 3 1 hb7<|.r 4 1<|.nil) (fun a E=>E.fb 77 H (fun c233 E H=>?_) fun c233 E H=>?_)
 refine plc E (.r 5 18 .nil) (fun a E=>pld ?_)
 exact J243 _ (by omega) _ true _ _ E .of S H
 refine plc E (.r 5 3<|.b 8 0 hb7<|.r 9 4<|.nil) (fun a E=>E.fk 85 H (fun c234 E H=>?_) fun c234 E H=>?_)
 refine plc E (.r 13 10 .nil) (fun a E=>pld ?_)
 exact J243 _ (by omega) _ true _ _ E .of S H
 refine plc E (.r 13 1<|.b 14 1 (S.ba 3)<|.r 15 4<|.nil) (fun a E=>E.fk 91 H (fun c235 E H=>?_) fun c235 E H=>?_)
 refine plc E (.r 19 4 .nil) (fun a E=>pld ?_)
 exact J243 _ (by omega) _ true _ _ E .of S H
 refine plc E (.bn 19 0 7 (S.ba 1) .nil) (fun a E=>?_)
 obtain ⟨t237,h238,H⟩:=bd H
 refine plq E S en33 (qY.calls k201 (⟨t11.1,t18.1,t25.1,t32.1,l59,l140,l197⟩:qK) _ _ _ _ _ _ _ _ _ (Sub.refl _) (S.rd_at (i:=4) rfl) (S.rd_at (i:=5) rfl) (S.rd_at (i:=6) rfl) h238) fun u236 S a E=>plc E (.r 21 2 .nil) (fun a E=>pld ?_)
 exact J243 _ (by omega) _ (!(t237 == 0)) _ _ E .of S H
def qe.l9:Nat→List qA→List qA→Int→Option Bool
 | 0,_,_,_=>none
 | k+1,x,y,x8=>if x8<(x.length:Int) then (if 0≤x8∧x8<(x.length:Int) then (if 0≤x8∧x8<(y.length:Int) then (if (nth qA.z x x8)=(nth qA.z y x8) then (qe.l9 k x y (w64 (x8+1))) else (some false)) else (none)) else (none)) else (some true)
theorem qe.l9_s k x y x8:type_of% (qe.l9.eq_2 x y x8 k):=qe.l9.eq_2 x y x8 k
def qe.f(k:Nat)(x:List qA)(y:List qA):Option Bool:=if (x.length:Int)=(y.length:Int) then (qe.l9 k x y 0) else (some false)
def qe.Post(W F:World)(r:Bool)(v:Value)(w':World):Prop:=∃(F':World),v = .bool r∧Sm W F w' F' []
theorem qe.calls(k:Nat)(x:List qA)(y:List qA)(A0_0:OA)(c0_0:Nat)(A1_0:OA)(c1_0:Nat)(r:Bool)(W F:World)(hown:Sub F W)(g0_0:Rd qA.k F A0_0 c0_0 x)(g1_0:Rd qA.k F A1_0 c1_0 y)(H:qe.f k x y=some r):
    Cr 49 #[.slice A0_0 x.length c0_0,.slice A1_0 y.length c1_0] W (qe.Post W F r):=by
 have S:=sT hown
 unfold qe.f at H
 refine ent 26 rfl rfl rfl (fun a E=>?_)
 refine rr E fun a E=>(sq fun K2 hK2=>rr E fun a E=>(E.ikn 10 H (fun c4 E H=>?_) fun c4 E H=>?_))
 refine wp_skip (hK2 _ _ (sq fun K6 hK6=>rr E fun a E=>(wp_block ?_)))
 refine wp_loop_ghost (fun kq10 a w'=>∃(G:NV)(x8:Int),kq10≤k∧Env 26 G a∧At G [(0,.slice A0_0 x.length c0_0),(1,.slice A1_0 y.length c1_0),(5,iv x8)]∧Sm W F w' F []∧qe.l9 kq10 x y x8=some r) k ⟨_,0,Nat.le_refl _,E,.of,S,H⟩ ?_
 rintro kq10 a u12 ⟨G,x8,hkq,E,A,S,H⟩
 obtain _ | k11:=kq10
 exact zz H
 rw [qe.l9_s]at H
 obtain ⟨J,E⟩:=E.at A
 refine sq fun K13 hK13=>rr E fun a E=>(E.ik 14 H (fun c15 E H=>?_) fun c15 E H=>?_)
 refine wp_skip (hK13 _ _ (sq fun K16 hK16=>wp_block (sq fun K17 hK17=>?_)))
 refine drawn 9 ⟨[],[],fun q=>False⟩ mixed rfl (by kernel_rfl) (fun hst=>?_)
 replace S:=S.drew
 obtain ⟨c18,H⟩:=gd H
 have hE_:=E
 obtain ⟨ad19,rfl⟩:=g0_0.addr c18.1 c18.2
 replace E:=hE_
 obtain ⟨cs21,rfl,hc22⟩:=g0_0.el qA.z x8 c18.1 c18.2
 obtain ⟨c23,H⟩:=gd H
 have hE_:=E
 obtain ⟨ad24,rfl⟩:=g1_0.addr c23.1 c23.2
 replace E:=hE_
 obtain ⟨cs26,rfl,hc27⟩:=g1_0.el qA.z x8 c23.1 c23.2
 refine mny 0 hst E (.r 0 2<|.x 2 c18<|.cs 3 (S.fcs hc22)<|.r 4 2<|.x 6 c23<|.cs 7 (S.fcs hc27)<|.y 8 (y_nes (fun w=>eqs96 (nth qA.z x x8) (nth qA.z y x8) w 9998))<|.nil) (fun a E=>?_)
 refine dn ?_
 refine hK17 _ _ (E.ikn 25 H (fun c28 E H=>?_) fun c28 E H=>?_)
 refine wp_skip ?_
 refine qAL ?_
 refine hK16 _ _ (pl0 (plc E (.r 0 3 .nil) (fun a E=>pld ?_)))
 exact qAM ⟨k11,by omega,_,(w64 (x8+1)),by omega,E,.of,S,H⟩
 refine rr E fun a E=>(wp_ret (qAI (qAH (qAH (qAI (qAH ?_))))))
 obtain rfl:=si H
 exact rt1 E ⟨_,rfl,_,rfl,S⟩
 refine wp_exit ?_
 refine hK6 _ _ (rr E fun a E=>(wp_ret ?_))
 obtain rfl:=si H
 exact rt1 E ⟨_,rfl,_,rfl,S⟩
 refine rr E fun a E=>(wp_ret (qAH ?_))
 obtain rfl:=si H
 exact rt1 E ⟨_,rfl,_,rfl,S⟩
mutual
def qT.l9:Nat→List qD→List qD→Int→Option Bool
 | 0,_,_,_=>none
 | k+1,x,y,x8=>if x8<(x.length:Int) then (if 0≤x8∧x8<(x.length:Int) then (if 0≤x8∧x8<(y.length:Int) then (if (nth qD.z x x8).f0=(nth qD.z y x8).f0 then ((qV.f k ((nth qD.z x x8).f1) ((nth qD.z y x8).f1)).bind fun t42=>(qT.j45 k x y x8 (!t42))) else (qT.j45 k x y x8 true)) else (none)) else (none)) else (some true)
def qT.j45:Nat→List qD→List qD→Int→Bool→Option Bool
 | 0,_,_,_,_=>none
 | k+1,x,y,x8,y44=>if y44=true then (some false) else (qT.l9 k x y (w64 (x8+1)))
end
theorem qT.l9_s k x y x8:type_of% (qT.l9.eq_2 x y x8 k):=qT.l9.eq_2 x y x8 k
theorem qT.j45_s k x y x8 y44:type_of% (qT.j45.eq_2 x y x8 y44 k):=qT.j45.eq_2 x y x8 y44 k
def qT.f(k:Nat)(x:List qD)(y:List qD):Option Bool:=if (x.length:Int)=(y.length:Int) then (qT.l9 k x y 0) else (some false)
def qT.Post(W F:World)(r:Bool)(v:Value)(w':World):Prop:=∃(F':World),v = .bool r∧Sm W F w' F' []
theorem qT.calls(k:Nat)(x:List qD)(y:List qD)(A0_0:OA)(c0_0:Nat)(A1_0:OA)(c1_0:Nat)(r:Bool)(W F:World)(hown:Sub F W)(g0_0:Rd qD.k F A0_0 c0_0 x)(g1_0:Rd qD.k F A1_0 c1_0 y)(H:qT.f k x y=some r):
    Cr 65 #[.slice A0_0 x.length c0_0,.slice A1_0 y.length c1_0] W (qT.Post W F r):=by
 have S:=sT hown
 unfold qT.f at H
 refine ent 42 rfl rfl rfl (fun a E=>?_)
 refine rr E fun a E=>(sq fun K2 hK2=>rr E fun a E=>(E.ikn 10 H (fun c4 E H=>?_) fun c4 E H=>?_))
 refine wp_skip (hK2 _ _ (sq fun K6 hK6=>rr E fun a E=>(wp_block ?_)))
 refine wp_loop_ghost (fun kq10 a w'=>∃(G:NV)(x8:Int),kq10≤k∧Env 42 G a∧At G [(0,.slice A0_0 x.length c0_0),(1,.slice A1_0 y.length c1_0),(5,iv x8)]∧Sm W F w' F []∧qT.l9 kq10 x y x8=some r) k ⟨_,0,Nat.le_refl _,E,.of,S,H⟩ ?_
 rintro kq10 a u12 ⟨G,x8,hkq,E,A,S,H⟩
 obtain _ | k11:=kq10
 exact zz H
 rw [qT.l9_s]at H
 obtain ⟨J,E⟩:=E.at A
 refine sq fun K13 hK13=>rr E fun a E=>(E.ik 14 H (fun c15 E H=>?_) fun c15 E H=>?_)
 refine wp_skip (hK13 _ _ (sq fun K16 hK16=>wp_block (sq fun K17 hK17=>?_)))
 have J48:∀ kq46,kq46≤k11→∀(G:NV)(y44:Bool)(a:Act)(w':World),Env 42 G a→At G [(0,.slice A0_0 x.length c0_0),(1,.slice A1_0 y.length c1_0),(5,iv x8),(41,.bool y44)]→Sm W F w' F []→qT.j45 kq46 x y x8 y44=some r→K17 a w':=by
  intro kq46 hkq G y44 a u49 E A S H
  obtain _ | k47:=kq46
  exact zz H
  rw [qT.j45_s]at H
  obtain ⟨J,E⟩:=E.at A
  refine hK17 _ _ (E.ib 41 H (fun c50 E H=>?_) fun c50 E H=>?_)
  refine rr E fun a E=>(wp_ret (qAI (qAH (qAH (qAI (qAH ?_))))))
  obtain rfl:=si H
  exact rt1 E ⟨_,rfl,_,rfl,S⟩
  refine wp_skip ?_
  refine qAL ?_
  refine hK16 _ _ (pl0 (plc E (.r 0 3 .nil) (fun a E=>pld ?_)))
  exact qAM ⟨k47,by omega,_,(w64 (x8+1)),by omega,E,.of,S,H⟩
 refine drawn 25 ⟨[],[],fun q=>False⟩ mixed rfl (by kernel_rfl) (fun hst=>?_)
 replace S:=S.drew
 obtain ⟨c18,H⟩:=gd H
 have hE_:=E
 obtain ⟨ad19,rfl⟩:=g0_0.addr c18.1 c18.2
 replace E:=hE_
 obtain ⟨cs21,⟨A23,c24,rfl,g25⟩,hc22⟩:=g0_0.el qD.z x8 c18.1 c18.2
 obtain ⟨c26,H⟩:=gd H
 have hE_:=E
 obtain ⟨ad27,rfl⟩:=g1_0.addr c26.1 c26.2
 replace E:=hE_
 obtain ⟨cs29,⟨A31,c32,rfl,g33⟩,hc30⟩:=g1_0.el qD.z x8 c26.1 c26.2
 refine mny 13 hst E (.r 0 2<|.x 2 c18<|.r 3 1<|.c 4 (S.fc hc22 0)<|.r 5 2<|.x 7 c26<|.r 8 1<|.c 9 (S.fc hc30 0)<|.r 10 2<|.nil) (fun a E=>?_)
 refine E.fkn 28 H (fun c34 E H=>?_) fun c34 E H=>?_
 refine mny 3 hst E (.r 12 2<|.x 14 c18<|.r 15 1<|.c 16 (S.fc hc22 1)<|.r 17 2<|.x 19 c26<|.r 20 1<|.c 21 (S.fc hc30 1)<|.nil) (fun a E=>?_)
 obtain ⟨t42,h43,H⟩:=bd H
 refine on1 22 E (.cl en31 (qV.calls k11 ((nth qD.z x x8).f1) ((nth qD.z y x8).f1) _ _ _ _ _ _ _ S.own.sub g25 g33 h43)) ?_
 rintro _ u41 a ⟨_,rfl,hC⟩ E
 refine ⟨.of hC.agr,?_⟩
 replace S:=S.lent hC
 refine mny 0 hst E (.r 23 2 .nil) (fun a E=>?_)
 refine dn ?_
 exact J48 _ (by omega) _ (!t42) _ _ E .of S H
 refine mny 0 hst E (.r 12 13 .nil) (fun a E=>?_)
 refine dn ?_
 exact J48 _ (by omega) _ true _ _ E .of S H
 refine wp_exit ?_
 refine hK6 _ _ (rr E fun a E=>(wp_ret ?_))
 obtain rfl:=si H
 exact rt1 E ⟨_,rfl,_,rfl,S⟩
 refine rr E fun a E=>(wp_ret (qAH ?_))
 obtain rfl:=si H
 exact rt1 E ⟨_,rfl,_,rfl,S⟩
mutual
def qQ.l9:Nat→List qC→List qC→Int→Option Bool
 | 0,_,_,_=>none
 | k+1,x,y,x8=>if x8<(x.length:Int) then (if 0≤x8∧x8<(x.length:Int) then (if 0≤x8∧x8<(y.length:Int) then (if (nth qC.z x x8).f0=(nth qC.z y x8).f0 then ((qT.f k ((nth qC.z x x8).f1) ((nth qC.z y x8).f1)).bind fun t42=>(qQ.j45 k x y x8 (!t42))) else (qQ.j45 k x y x8 true)) else (none)) else (none)) else (some true)
def qQ.j45:Nat→List qC→List qC→Int→Bool→Option Bool
 | 0,_,_,_,_=>none
 | k+1,x,y,x8,y44=>if y44=true then (some false) else (qQ.l9 k x y (w64 (x8+1)))
end
theorem qQ.l9_s k x y x8:type_of% (qQ.l9.eq_2 x y x8 k):=qQ.l9.eq_2 x y x8 k
theorem qQ.j45_s k x y x8 y44:type_of% (qQ.j45.eq_2 x y x8 y44 k):=qQ.j45.eq_2 x y x8 y44 k
def qQ.f(k:Nat)(x:List qC)(y:List qC):Option Bool:=if (x.length:Int)=(y.length:Int) then (qQ.l9 k x y 0) else (some false)
def qQ.Post(W F:World)(r:Bool)(v:Value)(w':World):Prop:=∃(F':World),v = .bool r∧Sm W F w' F' []
theorem qQ.calls(k:Nat)(x:List qC)(y:List qC)(A0_0:OA)(c0_0:Nat)(A1_0:OA)(c1_0:Nat)(r:Bool)(W F:World)(hown:Sub F W)(g0_0:Rd qC.k F A0_0 c0_0 x)(g1_0:Rd qC.k F A1_0 c1_0 y)(H:qQ.f k x y=some r):
    Cr 50 #[.slice A0_0 x.length c0_0,.slice A1_0 y.length c1_0] W (qQ.Post W F r):=by
 have S:=sT hown
 unfold qQ.f at H
 refine ent 42 rfl rfl rfl (fun a E=>?_)
 refine rr E fun a E=>(sq fun K2 hK2=>rr E fun a E=>(E.ikn 10 H (fun c4 E H=>?_) fun c4 E H=>?_))
 refine wp_skip (hK2 _ _ (sq fun K6 hK6=>rr E fun a E=>(wp_block ?_)))
 refine wp_loop_ghost (fun kq10 a w'=>∃(G:NV)(x8:Int),kq10≤k∧Env 42 G a∧At G [(0,.slice A0_0 x.length c0_0),(1,.slice A1_0 y.length c1_0),(5,iv x8)]∧Sm W F w' F []∧qQ.l9 kq10 x y x8=some r) k ⟨_,0,Nat.le_refl _,E,.of,S,H⟩ ?_
 rintro kq10 a u12 ⟨G,x8,hkq,E,A,S,H⟩
 obtain _ | k11:=kq10
 exact zz H
 rw [qQ.l9_s]at H
 obtain ⟨J,E⟩:=E.at A
 refine sq fun K13 hK13=>rr E fun a E=>(E.ik 14 H (fun c15 E H=>?_) fun c15 E H=>?_)
 refine wp_skip (hK13 _ _ (sq fun K16 hK16=>wp_block (sq fun K17 hK17=>?_)))
 have J48:∀ kq46,kq46≤k11→∀(G:NV)(y44:Bool)(a:Act)(w':World),Env 42 G a→At G [(0,.slice A0_0 x.length c0_0),(1,.slice A1_0 y.length c1_0),(5,iv x8),(41,.bool y44)]→Sm W F w' F []→qQ.j45 kq46 x y x8 y44=some r→K17 a w':=by
  intro kq46 hkq G y44 a u49 E A S H
  obtain _ | k47:=kq46
  exact zz H
  rw [qQ.j45_s]at H
  obtain ⟨J,E⟩:=E.at A
  refine hK17 _ _ (E.ib 41 H (fun c50 E H=>?_) fun c50 E H=>?_)
  refine rr E fun a E=>(wp_ret (qAI (qAH (qAH (qAI (qAH ?_))))))
  obtain rfl:=si H
  exact rt1 E ⟨_,rfl,_,rfl,S⟩
  refine wp_skip ?_
  refine qAL ?_
  refine hK16 _ _ (pl0 (plc E (.r 0 3 .nil) (fun a E=>pld ?_)))
  exact qAM ⟨k47,by omega,_,(w64 (x8+1)),by omega,E,.of,S,H⟩
 refine drawn 25 ⟨[],[],fun q=>False⟩ mixed rfl (by kernel_rfl) (fun hst=>?_)
 replace S:=S.drew
 obtain ⟨c18,H⟩:=gd H
 have hE_:=E
 obtain ⟨ad19,rfl⟩:=g0_0.addr c18.1 c18.2
 replace E:=hE_
 obtain ⟨cs21,⟨A23,c24,rfl,g25⟩,hc22⟩:=g0_0.el qC.z x8 c18.1 c18.2
 obtain ⟨c26,H⟩:=gd H
 have hE_:=E
 obtain ⟨ad27,rfl⟩:=g1_0.addr c26.1 c26.2
 replace E:=hE_
 obtain ⟨cs29,⟨A31,c32,rfl,g33⟩,hc30⟩:=g1_0.el qC.z x8 c26.1 c26.2
 refine mny 13 hst E (.r 0 2<|.x 2 c18<|.r 3 1<|.c 4 (S.fc hc22 0)<|.r 5 2<|.x 7 c26<|.r 8 1<|.c 9 (S.fc hc30 0)<|.r 10 2<|.nil) (fun a E=>?_)
 refine E.fkn 28 H (fun c34 E H=>?_) fun c34 E H=>?_
 refine mny 3 hst E (.r 12 2<|.x 14 c18<|.r 15 1<|.c 16 (S.fc hc22 1)<|.r 17 2<|.x 19 c26<|.r 20 1<|.c 21 (S.fc hc30 1)<|.nil) (fun a E=>?_)
 obtain ⟨t42,h43,H⟩:=bd H
 refine on1 22 E (.cl en65 (qT.calls k11 ((nth qC.z x x8).f1) ((nth qC.z y x8).f1) _ _ _ _ _ _ _ S.own.sub g25 g33 h43)) ?_
 rintro _ u41 a ⟨_,rfl,hC⟩ E
 refine ⟨.of hC.agr,?_⟩
 replace S:=S.lent hC
 refine mny 0 hst E (.r 23 2 .nil) (fun a E=>?_)
 refine dn ?_
 exact J48 _ (by omega) _ (!t42) _ _ E .of S H
 refine mny 0 hst E (.r 12 13 .nil) (fun a E=>?_)
 refine dn ?_
 exact J48 _ (by omega) _ true _ _ E .of S H
 refine wp_exit ?_
 refine hK6 _ _ (rr E fun a E=>(wp_ret ?_))
 obtain rfl:=si H
 exact rt1 E ⟨_,rfl,_,rfl,S⟩
 refine rr E fun a E=>(wp_ret (qAH ?_))
 obtain rfl:=si H
 exact rt1 E ⟨_,rfl,_,rfl,S⟩
mutual
def qM.j17:Nat→qK→qK→Bool→Option Bool
 | 0,_,_,_=>none
 | k+1,x,y,y16=>if y16=true then (some false) else (qM.l27 k x y 0)
def qM.l27:Nat→qK→qK→Int→Option Bool
 | 0,_,_,_=>none
 | k+1,x,y,x26=>if x26<(x.f5.length:Int) then (if 0≤x26∧x26<(x.f5.length:Int) then (if 0≤x26∧x26<(y.f5.length:Int) then (if (nth qI.z x.f5 x26).f0=(nth qI.z y.f5 x26).f0 then ((qV.f k ((nth qI.z x.f5 x26).f1) ((nth qI.z y.f5 x26).f1)).bind fun t60=>(qM.j63 k x y x26 (!t60))) else (qM.j63 k x y x26 true)) else (none)) else (none)) else ((qQ.f k x.f6 y.f6).bind fun t72=>(some t72))
def qM.j63:Nat→qK→qK→Int→Bool→Option Bool
 | 0,_,_,_,_=>none
 | k+1,x,y,x26,y62=>if y62=true then (some false) else (qM.l27 k x y (w64 (x26+1)))
end
theorem qM.j17_s k x y y16:type_of% (qM.j17.eq_2 x y y16 k):=qM.j17.eq_2 x y y16 k
theorem qM.l27_s k x y x26:type_of% (qM.l27.eq_2 x y x26 k):=qM.l27.eq_2 x y x26 k
theorem qM.j63_s k x y x26 y62:type_of% (qM.j63.eq_2 x y x26 y62 k):=qM.j63.eq_2 x y x26 y62 k
def qM.f(k:Nat)(x:qK)(y:qK):Option Bool:=if x.f0=y.f0 then (if x.f1=y.f1 then (if x.f2=y.f2 then (if x.f3=y.f3 then ((qe.f k x.f4 y.f4).bind fun t13=>(if t13=true then (qM.j17 k x y (!((x.f5.length:Int) == (y.f5.length:Int)))) else (qM.j17 k x y true))) else (qM.j17 k x y true)) else (qM.j17 k x y true)) else (qM.j17 k x y true)) else (qM.j17 k x y true)
def qM.Post(W F:World)(r:Bool)(v:Value)(w':World):Prop:=∃(F':World),v = .bool r∧Sm W F w' F' []
theorem qM.calls(k:Nat)(x:qK)(y:qK)(A0_4:OA)(c0_4:Nat)(A0_5:OA)(c0_5:Nat)(A0_6:OA)(c0_6:Nat)(A1_4:OA)(c1_4:Nat)(A1_5:OA)(c1_5:Nat)(A1_6:OA)(c1_6:Nat)(r:Bool)(W F:World)(hown:Sub F W)(g0_4:Rd qA.k F A0_4 c0_4 x.f4)(g0_5:Rd qI.k F A0_5 c0_5 x.f5)(g0_6:Rd qC.k F A0_6 c0_6 x.f6)(g1_4:Rd qA.k F A1_4 c1_4 y.f4)(g1_5:Rd qI.k F A1_5 c1_5 y.f5)(g1_6:Rd qC.k F A1_6 c1_6 y.f6)(H:qM.f k x y=some r):
    Cr 23 #[.agg #[iv x.f0,iv x.f1,iv x.f2,iv x.f3,.slice A0_4 x.f4.length c0_4,.slice A0_5 x.f5.length c0_5,.slice A0_6 x.f6.length c0_6],.agg #[iv y.f0,iv y.f1,iv y.f2,iv y.f3,.slice A1_4 y.f4.length c1_4,.slice A1_5 y.f5.length c1_5,.slice A1_6 y.f6.length c1_6]] W (qM.Post W F r):=by
 have S:=sT hown
 unfold qM.f at H
 refine ent 90 rfl rfl rfl (fun a E=>?_)
 refine sq fun K1 hK1=>pl0 (plx (t:=65) E S [iv x.f0,iv x.f1,iv x.f2,iv x.f3,.slice A0_4 x.f4.length c0_4,.slice A0_5 x.f5.length c0_5,.slice A0_6 x.f6.length c0_6] fun b2 u3 hb2 S a E=>plx (t:=65) E S [iv y.f0,iv y.f1,iv y.f2,iv y.f3,.slice A1_4 y.f4.length c1_4,.slice A1_5 y.f5.length c1_5,.slice A1_6 y.f6.length c1_6] fun b4 u5 hb4 S a E=>plc E (.r 2 1 .nil) (fun a E=>pld (hK1 _ _ (sq fun K6 hK6=>sq fun K7 hK7=>?_))))
 have J20:∀ kq18,kq18≤k→∀(G:NV)(y16:Bool)(a:Act)(w':World),Env 90 G a→At G [(2,.pointer (pb b2)),(3,.pointer (pb b4)),(48,.bool y16)]→Sm W F w' F [box b4 #[iv y.f0,iv y.f1,iv y.f2,iv y.f3,.slice A1_4 y.f4.length c1_4,.slice A1_5 y.f5.length c1_5,.slice A1_6 y.f6.length c1_6] 65,box b2 #[iv x.f0,iv x.f1,iv x.f2,iv x.f3,.slice A0_4 x.f4.length c0_4,.slice A0_5 x.f5.length c0_5,.slice A0_6 x.f6.length c0_6] 65]→qM.j17 kq18 x y y16=some r→K7 a w':=by
  intro kq18 hkq G y16 a u21 E A S H
  obtain _ | k19:=kq18
  exact zz H
  rw [qM.j17_s]at H
  obtain ⟨J,E⟩:=E.at A
  refine hK7 _ _ (E.ib 48 H (fun c22 E H=>?_) fun c22 E H=>?_)
  refine rr E fun a E=>(wp_ret (qAH ?_))
  replace S:=S.pm [] 2
  obtain rfl:=si H
  exact rt1 E ⟨_,rfl,_,rfl,S⟩
  refine wp_skip (hK6 _ _ (sq fun K24 hK24=>rr E fun a E=>(wp_block ?_)))
  refine wp_loop_ghost (fun kq28 a w'=>∃(G:NV)(x26:Int),kq28≤k19∧Env 90 G a∧At G [(2,.pointer (pb b2)),(3,.pointer (pb b4)),(5,iv x26)]∧Sm W F w' F [box b4 #[iv y.f0,iv y.f1,iv y.f2,iv y.f3,.slice A1_4 y.f4.length c1_4,.slice A1_5 y.f5.length c1_5,.slice A1_6 y.f6.length c1_6] 65,box b2 #[iv x.f0,iv x.f1,iv x.f2,iv x.f3,.slice A0_4 x.f4.length c0_4,.slice A0_5 x.f5.length c0_5,.slice A0_6 x.f6.length c0_6] 65]∧qM.l27 kq28 x y x26=some r) k19 ⟨_,0,Nat.le_refl _,E,.of,S,H⟩ ?_
  rintro kq28 a u30 ⟨G,x26,hkq,E,A,S,H⟩
  obtain _ | k29:=kq28
  exact zz H
  rw [qM.l27_s]at H
  obtain ⟨J,E⟩:=E.at A
  refine sq fun K31 hK31=>sq fun K32 hK32=>pl0 ?_
  have hb2:=S.ba 1
  refine plc E (.r 0 2<|.b 2 5 hb2<|.r 3 2<|.nil) (fun a E=>pld (hK32 _ _ (E.ik 53 H (fun c33 E H=>?_) fun c33 E H=>?_)))
  refine wp_skip (hK31 _ _ (sq fun K34 hK34=>wp_block (sq fun K35 hK35=>?_)))
  have J66:∀ kq64,kq64≤k29→∀(G:NV)(y62:Bool)(a:Act)(w':World),Env 90 G a→At G [(2,.pointer (pb b2)),(3,.pointer (pb b4)),(5,iv x26),(84,.bool y62)]→Sm W F w' F [box b4 #[iv y.f0,iv y.f1,iv y.f2,iv y.f3,.slice A1_4 y.f4.length c1_4,.slice A1_5 y.f5.length c1_5,.slice A1_6 y.f6.length c1_6] 65,box b2 #[iv x.f0,iv x.f1,iv x.f2,iv x.f3,.slice A0_4 x.f4.length c0_4,.slice A0_5 x.f5.length c0_5,.slice A0_6 x.f6.length c0_6] 65]→qM.j63 kq64 x y x26 y62=some r→K35 a w':=by
   intro kq64 hkq G y62 a u67 E A S H
   obtain _ | k65:=kq64
   exact zz H
   rw [qM.j63_s]at H
   obtain ⟨J,E⟩:=E.at A
   refine hK35 _ _ (E.ib 84 H (fun c68 E H=>?_) fun c68 E H=>?_)
   refine rr E fun a E=>(wp_ret (qAI (qAH (qAH (qAI (qAH ?_))))))
   replace S:=S.pm [] 2
   obtain rfl:=si H
   exact rt1 E ⟨_,rfl,_,rfl,S⟩
   refine wp_skip ?_
   refine qAL ?_
   refine hK34 _ _ (pl0 (plc E (.r 0 3 .nil) (fun a E=>pld ?_)))
   exact qAM ⟨k65,by omega,_,(w64 (x26+1)),by omega,E,.of,S,H⟩
  refine drawn 29 ⟨[],[],fun q=>False⟩ mixed rfl (by kernel_rfl) (fun hst=>?_)
  replace S:=S.drew
  have hb2:=S.ba 1
  obtain ⟨c36,H⟩:=gd H
  have hE_:=E
  obtain ⟨ad37,rfl⟩:=g0_5.addr c36.1 c36.2
  replace E:=hE_
  obtain ⟨cs39,⟨A41,c42,rfl,g43⟩,hc40⟩:=g0_5.el qI.z x26 c36.1 c36.2
  have hb4:=S.ba 0
  obtain ⟨c44,H⟩:=gd H
  have hE_:=E
  obtain ⟨ad45,rfl⟩:=g1_5.addr c44.1 c44.2
  replace E:=hE_
  obtain ⟨cs47,⟨A49,c50,rfl,g51⟩,hc48⟩:=g1_5.el qI.z x26 c44.1 c44.2
  refine mny 15 hst E (.r 0 1<|.b 1 5 hb2<|.r 2 1<|.x 3 c36<|.r 4 1<|.c 5 (S.fc hc40 0)<|.r 6 1<|.b 7 5 hb4<|.r 8 1<|.x 9 c44<|.r 10 1<|.c 11 (S.fc hc48 0)<|.r 12 2<|.nil) (fun a E=>?_)
  refine E.fkn 69 H (fun c52 E H=>?_) fun c52 E H=>?_
  refine mny 3 hst E (.r 14 1<|.b 15 5 hb2<|.r 16 1<|.x 17 c36<|.r 18 1<|.c 19 (S.fc hc40 1)<|.r 20 1<|.b 21 5 hb4<|.r 22 1<|.x 23 c44<|.r 24 1<|.c 25 (S.fc hc48 1)<|.nil) (fun a E=>?_)
  obtain ⟨t60,h61,H⟩:=bd H
  refine on1 26 E (.cl en31 (qV.calls k29 ((nth qI.z x.f5 x26).f1) ((nth qI.z y.f5 x26).f1) _ _ _ _ _ _ _ S.own.sub g43 g51 h61)) ?_
  rintro _ u59 a ⟨_,rfl,hC⟩ E
  refine ⟨.of hC.agr,?_⟩
  replace S:=S.lent hC
  refine mny 0 hst E (.r 27 2 .nil) (fun a E=>?_)
  refine dn ?_
  exact J66 _ (by omega) _ (!t60) _ _ E .of S H
  refine mny 0 hst E (.r 14 15 .nil) (fun a E=>?_)
  refine dn ?_
  exact J66 _ (by omega) _ true _ _ E .of S H
  refine wp_exit ?_
  refine hK24 _ _ (sq fun K70 hK70=>pl0 (plc E (.r 0 1<|.b 1 6 hb2<|.r 2 1<|.b 3 6 (S.ba 0)<|.nil) (fun a E=>?_)))
  obtain ⟨t72,h73,H⟩:=bd H
  refine plq E S en50 (qQ.calls k29 x.f6 y.f6 _ _ _ _ _ _ _ S.own.sub g0_6 g1_6 h73) fun u71 S a E=>plc E (.r 5 1 .nil) (fun a E=>pld (hK70 _ _ (wp_ret ?_)))
  replace S:=S.pm [] 2
  obtain rfl:=si H
  exact rt1 E ⟨_,rfl,_,rfl,S⟩
 refine pl0 ?_
 have hb2:=S.ba 1
 refine plc E (.r 0 1<|.b 1 0 hb2<|.r 2 1<|.b 3 0 hb4<|.r 4 2<|.nil) (fun a E=>E.fkn 11 H (fun c8 E H=>?_) fun c8 E H=>?_)
 refine plc E (.r 6 1<|.b 7 1 hb2<|.r 8 1<|.b 9 1 hb4<|.r 10 3<|.nil) (fun a E=>E.fkn 18 H (fun c9 E H=>?_) fun c9 E H=>?_)
 refine plc E (.r 13 1<|.b 14 2 hb2<|.r 15 1<|.b 16 2 hb4<|.r 17 3<|.nil) (fun a E=>E.fkn 25 H (fun c10 E H=>?_) fun c10 E H=>?_)
 refine plc E (.r 20 1<|.b 21 3 hb2<|.r 22 1<|.b 23 3 hb4<|.r 24 3<|.nil) (fun a E=>E.fkn 32 H (fun c11 E H=>?_) fun c11 E H=>?_)
 refine plc E (.r 27 1<|.b 28 4 hb2<|.r 29 1<|.b 30 4 hb4<|.nil) (fun a E=>?_)
 obtain ⟨t13,h14,H⟩:=bd H
 refine plq E S en49 (qe.calls k x.f4 y.f4 _ _ _ _ _ _ _ S.own.sub g0_4 g1_4 h14) fun u12 S a E=>plc E (.r 32 3 .nil) (fun a E=>E.fbn 40 H (fun c15 E H=>?_) fun c15 E H=>?_)
 refine plc E (.r 35 1<|.b 36 5 (S.ba 1)<|.r 37 2<|.b 39 5 (S.ba 0)<|.r 40 3<|.nil) (fun a E=>pld ?_)
 exact J20 _ (by omega) _ (!((x.f5.length:Int) == (y.f5.length:Int))) _ _ E .of S H
 refine plc E (.r 35 8 .nil) (fun a E=>pld ?_)
 exact J20 _ (by omega) _ true _ _ E .of S H
 refine plc E (.r 27 16 .nil) (fun a E=>pld ?_)
 exact J20 _ (by omega) _ true _ _ E .of S H
 refine plc E (.r 20 23 .nil) (fun a E=>pld ?_)
 exact J20 _ (by omega) _ true _ _ E .of S H
 refine plc E (.r 13 30 .nil) (fun a E=>pld ?_)
 exact J20 _ (by omega) _ true _ _ E .of S H
 refine plc E (.r 6 37 .nil) (fun a E=>pld ?_)
 exact J20 _ (by omega) _ true _ _ E .of S H
def qo.f(k:Nat)(x:qK):Option Bool:=(qF.f k x).bind fun t7=>(if t7=true then ((qh.f k x).bind fun t16=>((qJ.f k x).bind fun t31=>(if t31=true then ((qL.f k x).bind fun t45=>((qw.f k t45).bind fun t61=>(if t61=true then ((qR.f k t16.1).bind fun t75=>(if t16.2=0 then ((ql.f k t16.1 t45).bind fun t96=>(if t96=true then (if t75.2=0 then ((qM.f k t75.1 x).bind fun t101=>(if t101=true then ((qj.f k).bind fun t105=>(some t105)) else (some false))) else (some false)) else (some false))) else (some false))) else (if t16.2=4 then ((ql.f k t16.1 (⟨[],[]⟩:qP)).bind fun t67=>(if t67=true then ((qj.f k).bind fun t71=>(some t71)) else (some false))) else (some false))))) else (if t16.2=1 then ((ql.f k t16.1 (⟨[],[]⟩:qP)).bind fun t37=>(if t37=true then ((qj.f k).bind fun t41=>(some t41)) else (some false))) else (some false))))) else ((qj.f k).bind fun t12=>(some t12)))
def qo.Post(W F:World)(r:Bool)(v:Value)(w':World):Prop:=∃(F':World),v = .bool r∧Sm W F w' F' []
theorem qo.calls(k:Nat)(x:qK)(A0_4:OA)(c0_4:Nat)(A0_5:OA)(c0_5:Nat)(A0_6:OA)(c0_6:Nat)(r:Bool)(W F:World)(hown:Sub F W)(g0_4:Rd qA.k F A0_4 c0_4 x.f4)(g0_5:Rd qI.k F A0_5 c0_5 x.f5)(g0_6:Rd qC.k F A0_6 c0_6 x.f6)(H:qo.f k x=some r):
    Cr 5 #[.agg #[iv x.f0,iv x.f1,iv x.f2,iv x.f3,.slice A0_4 x.f4.length c0_4,.slice A0_5 x.f5.length c0_5,.slice A0_6 x.f6.length c0_6]] W (qo.Post W F r):=by
 have S:=sT hown
 unfold qo.f at H
 refine ent 69 rfl rfl rfl (fun a E=>?_)
 refine sq fun K1 hK1=>pl0 (plx (t:=65) E S [iv x.f0,iv x.f1,iv x.f2,iv x.f3,.slice A0_4 x.f4.length c0_4,.slice A0_5 x.f5.length c0_5,.slice A0_6 x.f6.length c0_6] fun b2 u3 hb2 S a E=>plc E (.r 1 1 .nil) (fun a E=>pld (hK1 _ _ (sq fun K4 hK4=>sq fun K5 hK5=>pl0 (plc E (.bn 0 0 7 hb2 .nil) (fun a E=>?_))))))
 obtain ⟨t7,h8,H⟩:=bd H
 refine plq E S en15 (qF.calls k x _ _ _ _ _ _ _ _ _ S.own.sub g0_4 g0_5 g0_6 h8) fun u6 S a E=>plc E (.r 2 1 .nil) (fun a E=>pld (hK5 _ _ (E.ibn 10 H (fun c9 E H=>?_) fun c9 E H=>?_)))
 refine wp_skip (hK4 _ _ (sq fun K14 hK14=>pl0 (plc E (.bn 0 0 7 (S.ba 0) .nil) (fun a E=>?_))))
 obtain ⟨t16,h17,H⟩:=bd H
 refine ple E (.cl en17 (qh.calls k x _ _ _ _ _ _ _ _ _ S.own.sub g0_4 g0_5 g0_6 h17)) ?_
 rintro _ u15 a ⟨F18,A19,c20,A22,c23,rfl,hC,g21,g24⟩ E
 have hs:=hC.sub
 replace S:=S.called (X:=[]) hC
 replace g0_4:=g0_4.mono hs
 replace g0_5:=g0_5.mono hs
 replace g0_6:=g0_6.mono hs
 refine plc E (.r 2 3 .nil) (fun a E=>pla (t:=69) E S [.slice none 0 0,.slice none 0 0] fun b25 u26 hb25 S a E=>pls E S [.slice A19 t16.1.f0.length c20,.slice A22 t16.1.f1.length c23] fun u27 hb25 S a E=>plc E (.r 7 1 .nil) (fun a E=>pld (hK14 _ _ (sq fun K28 hK28=>sq fun K29 hK29=>pl0 ?_))))
 have hb2:=S.ba 1
 refine plc E (.bn 0 0 7 hb2 .nil) (fun a E=>?_)
 obtain ⟨t31,h32,H⟩:=bd H
 refine plq E S en18 (qJ.calls k x _ _ _ _ _ _ _ _ _ S.own.sub g0_4 g0_5 g0_6 h32) fun u30 S a E=>plc E (.r 2 1 .nil) (fun a E=>pld (hK29 _ _ (E.ibn 19 H (fun c33 E H=>?_) fun c33 E H=>?_)))
 refine wp_skip (hK28 _ _ (sq fun K43 hK43=>pl0 ?_))
 have hb2:=S.ba 1
 refine plc E (.bn 0 0 7 hb2 .nil) (fun a E=>?_)
 obtain ⟨t45,h46,H⟩:=bd H
 refine ple E (.cl en20 (qL.calls k x _ _ _ _ _ _ _ _ _ S.own.sub g0_4 g0_5 g0_6 h46)) ?_
 rintro _ u44 a ⟨F47,A48,c49,A52,c53,rfl,hC,g54⟩ E
 have hs:=hC.sub
 replace S:=S.called (X:=[]) hC
 replace g0_4:=g0_4.mono hs
 replace g0_5:=g0_5.mono hs
 replace g0_6:=g0_6.mono hs
 replace g21:=g21.mono hs
 replace g24:=g24.mono hs
 refine pla (t:=69) E S [.slice none 0 0,.slice none 0 0] fun b55 u56 hb55 S a E=>pls E S [.slice A48 t45.f0.length c49,.slice A52 t45.f1.length c53] fun u57 hb55 S a E=>pld (hK43 _ _ (sq fun K58 hK58=>sq fun K59 hK59=>pl0 (plc E (.bn 0 0 2 hb55 .nil) (fun a E=>?_))))
 obtain ⟨t61,h62,H⟩:=bd H
 refine plq E S en21 (qw.calls k t45 _ _ _ _ _ _ _ (Sub.refl _) (S.rd_at (i:=1) rfl) (g54.mono S.own.sub) h62) fun u60 S a E=>plc E (.r 2 1 .nil) (fun a E=>pld (hK59 _ _ (E.ibn 34 H (fun c63 E H=>?_) fun c63 E H=>?_)))
 refine wp_skip (hK58 _ _ (sq fun K73 hK73=>pl0 ?_))
 have hb25:=S.ba 2
 refine plc E (.bn 0 0 2 hb25 .nil) (fun a E=>?_)
 obtain ⟨t75,h76,H⟩:=bd H
 refine ple E (.cl en22 (qR.calls k t16.1 _ _ _ _ _ _ _ S.own.sub g21 g24 h76)) ?_
 rintro _ u74 a ⟨F77,A78,c79,A82,c83,A86,c87,rfl,hC⟩ E
 have hs:=hC.sub
 replace S:=S.called (X:=[]) hC
 replace g0_4:=g0_4.mono hs
 replace g0_5:=g0_5.mono hs
 replace g0_6:=g0_6.mono hs
 replace g21:=g21.mono hs
 replace g24:=g24.mono hs
 replace g54:=g54.mono hs
 refine plc E (.r 2 3 .nil) (fun a E=>pla (t:=65) E S [iv 0,iv 0,iv 0,iv 0,.slice none 0 0,.slice none 0 0,.slice none 0 0] fun b90 u91 hb90 S a E=>pls E S [iv t75.1.f0,iv t75.1.f1,iv t75.1.f2,iv t75.1.f3,.slice A78 t75.1.f4.length c79,.slice A82 t75.1.f5.length c83,.slice A86 t75.1.f6.length c87] fun u92 hb90 S a E=>plc E (.r 7 1 .nil) (fun a E=>pld (hK73 _ _ (sq fun K93 hK93=>pl0 (plc E (.r 0 3 .nil) (fun a E=>E.fk 52 H (fun c94 E H=>?_) fun c94 E H=>?_))))))
 refine plc E (.bn 3 0 2 (S.ba 6)<|.bn 4 0 2 (S.ba 4)<|.nil) (fun a E=>?_)
 obtain ⟨t96,h97,H⟩:=bd H
 refine plq E S en19 (ql.calls k t16.1 t45 _ _ _ _ _ _ _ _ _ _ _ (Sub.refl _) (g21.mono S.own.sub) (g24.mono S.own.sub) (S.rd_at (i:=5) rfl) (g54.mono S.own.sub) h97) fun u95 S a E=>plc E (.r 6 2 .nil) (fun a E=>E.fb 57 H (fun c98 E H=>?_) fun c98 E H=>?_)
 refine plc E (.r 8 4 .nil) (fun a E=>E.fk 61 H (fun c99 E H=>?_) fun c99 E H=>?_)
 refine plc E (.bn 12 0 7 (S.ba 0)<|.bn 13 0 7 (S.ba 7)<|.nil) (fun a E=>?_)
 obtain ⟨t101,h102,H⟩:=bd H
 refine plq E S en23 (qM.calls k t75.1 x _ _ _ _ _ _ _ _ _ _ _ _ _ _ _ (Sub.refl _) (S.rd_at (i:=1) rfl) (S.rd_at (i:=2) rfl) (S.rd_at (i:=3) rfl) (g0_4.mono S.own.sub) (g0_5.mono S.own.sub) (g0_6.mono S.own.sub) h102) fun u100 S a E=>plc E (.r 15 2 .nil) (fun a E=>E.fb 66 H (fun c103 E H=>?_) fun c103 E H=>?_)
 obtain ⟨t105,h106,H⟩:=bd H
 refine plq E S en16 (qj.calls k _ _ _ S.own.sub h106) fun u104 S a E=>plc E (.r 18 2 .nil) (fun a E=>pld (hK93 _ _ (wp_ret ?_)))
 replace S:=S.pm [] 8
 obtain rfl:=si H
 exact rt1 E ⟨_,rfl,_,rfl,S⟩
 refine plc E (.r 17 3 .nil) (fun a E=>pld (hK93 _ _ (wp_ret ?_)))
 replace S:=S.pm [] 8
 obtain rfl:=si H
 exact rt1 E ⟨_,rfl,_,rfl,S⟩
 refine plc E (.r 12 8 .nil) (fun a E=>pld (hK93 _ _ (wp_ret ?_)))
 replace S:=S.pm [] 8
 obtain rfl:=si H
 exact rt1 E ⟨_,rfl,_,rfl,S⟩
 refine plc E (.r 8 12 .nil) (fun a E=>pld (hK93 _ _ (wp_ret ?_)))
 replace S:=S.pm [] 8
 obtain rfl:=si H
 exact rt1 E ⟨_,rfl,_,rfl,S⟩
 refine plc E (.r 3 17 .nil) (fun a E=>pld (hK93 _ _ (wp_ret ?_)))
 replace S:=S.pm [] 8
 obtain rfl:=si H
 exact rt1 E ⟨_,rfl,_,rfl,S⟩
 refine sq fun K64 hK64=>pl0 (plc E (.r 0 3 .nil) (fun a E=>E.fk 37 H (fun c65 E H=>?_) fun c65 E H=>?_))
 refine plc E (.bn 3 0 2 (S.ba 2)<|.r 4 1<|.nil) (fun a E=>?_)
 obtain ⟨t67,h68,H⟩:=bd H
 refine plq E S en19 (ql.calls k t16.1 (⟨[],[]⟩:qP) _ _ _ _ _ _ _ _ _ _ _ S.own.sub g21 g24 (Rd.nil _ _) (Rd.nil _ _) h68) fun u66 S a E=>plc E (.r 6 2 .nil) (fun a E=>E.fb 42 H (fun c69 E H=>?_) fun c69 E H=>?_)
 obtain ⟨t71,h72,H⟩:=bd H
 refine plq E S en16 (qj.calls k _ _ _ S.own.sub h72) fun u70 S a E=>plc E (.r 9 2 .nil) (fun a E=>pld (hK64 _ _ (wp_ret (qAH ?_))))
 replace S:=S.pm [] 4
 obtain rfl:=si H
 exact rt1 E ⟨_,rfl,_,rfl,S⟩
 refine plc E (.r 8 3 .nil) (fun a E=>pld (hK64 _ _ (wp_ret (qAH ?_))))
 replace S:=S.pm [] 4
 obtain rfl:=si H
 exact rt1 E ⟨_,rfl,_,rfl,S⟩
 refine plc E (.r 3 8 .nil) (fun a E=>pld (hK64 _ _ (wp_ret (qAH ?_))))
 replace S:=S.pm [] 4
 obtain rfl:=si H
 exact rt1 E ⟨_,rfl,_,rfl,S⟩
 refine sq fun K34 hK34=>pl0 (plc E (.r 0 3 .nil) (fun a E=>E.fk 22 H (fun c35 E H=>?_) fun c35 E H=>?_))
 refine plc E (.bn 3 0 2 (S.ba 0)<|.r 4 1<|.nil) (fun a E=>?_)
 obtain ⟨t37,h38,H⟩:=bd H
 refine plq E S en19 (ql.calls k t16.1 (⟨[],[]⟩:qP) _ _ _ _ _ _ _ _ _ _ _ S.own.sub g21 g24 (Rd.nil _ _) (Rd.nil _ _) h38) fun u36 S a E=>plc E (.r 6 2 .nil) (fun a E=>E.fb 27 H (fun c39 E H=>?_) fun c39 E H=>?_)
 obtain ⟨t41,h42,H⟩:=bd H
 refine plq E S en16 (qj.calls k _ _ _ S.own.sub h42) fun u40 S a E=>plc E (.r 9 2 .nil) (fun a E=>pld (hK34 _ _ (wp_ret (qAH ?_))))
 replace S:=S.pm [] 2
 obtain rfl:=si H
 exact rt1 E ⟨_,rfl,_,rfl,S⟩
 refine plc E (.r 8 3 .nil) (fun a E=>pld (hK34 _ _ (wp_ret (qAH ?_))))
 replace S:=S.pm [] 2
 obtain rfl:=si H
 exact rt1 E ⟨_,rfl,_,rfl,S⟩
 refine plc E (.r 3 8 .nil) (fun a E=>pld (hK34 _ _ (wp_ret (qAH ?_))))
 replace S:=S.pm [] 2
 obtain rfl:=si H
 exact rt1 E ⟨_,rfl,_,rfl,S⟩
 refine sq fun K10 hK10=>pl0 ?_
 obtain ⟨t12,h13,H⟩:=bd H
 refine plq E S en16 (qj.calls k _ _ _ S.own.sub h13) fun u11 S a E=>plc E (.r 1 1 .nil) (fun a E=>pld (hK10 _ _ (wp_ret (qAH ?_))))
 replace S:=S.tail
 obtain rfl:=si H
 exact rt1 E ⟨_,rfl,_,rfl,S⟩
end Go.Proofs.Ytpabbpebefdafaa.PM
