import Derived.Test.YtpabbpebefdafaaPM1
namespace Go.Proofs.Ytpabbpebefdafaa.PM
open Go Go.RowKit Go.Proofs.Ytpabbpebefdafaa.Sl
set_option linter.unusedVariables false
set_option linter.unusedSimpArgs false
set_option maxHeartbeats 4000000
set_option maxRecDepth 100000
mutual
def frame_Encode.l21:Nat→qP→List Int→Int→Option ((List Int) × Int)
 | 0,_,_,_=>none
 | k+1,x,l18,x19=>if x19<(x.f0.length:Int) then (if 0≤x19∧x19<(x.f0.length:Int) then ((frame_Number.f k (nth 0 x.f0 x19)).bind fun t37=>(if ((l18.length:Int)+(t37.length:Int)) * 1≤140737488355328 then (if ((l18++t37).length:Int)>4096 then (some ([],4)) else (frame_Encode.l21 k x (l18++t37) (w64 (x19+1)))) else (none))) else (none)) else ((frame_Count.f k (x.f1.length:Int)).bind fun t54=>(if ((l18.length:Int)+(t54.length:Int)) * 1≤140737488355328 then (frame_Encode.l67 k x l18 t54) else (none)))
def frame_Encode.l67:Nat→qP→List Int→List Int→Option ((List Int) × Int)
 | 0,_,_,_=>none
 | k+1,x,l18,t54=>if 0<(x.f1.length:Int) then (if 0≤(0:Int)∧0<(x.f1.length:Int) then ((frame_Count.f k ((nth ByteArray.empty x.f1 0).size:Int)).bind fun t84=>(if (((l18++t54).length:Int)+(t84.length:Int)) * 1≤140737488355328 then (if (((l18++t54)++t84).length:Int)>4096 then (frame_Encode.j98 k true) else (frame_Encode.j98 k (decide (((nth ByteArray.empty x.f1 0).size:Int)>(w64 (4096 - (((l18++t54)++t84).length:Int))))))) else (none))) else (none)) else (if ((l18++t54).length:Int)>4096 then (some ([],4)) else (some ((l18++t54),0)))
def frame_Encode.j98:Nat→Bool→Option ((List Int) × Int)
 | 0,_=>none
 | k+1,y97=>if y97=true then (some ([],4)) else (none)
end
theorem frame_Encode.l21_s k x l18 x19:type_of% (frame_Encode.l21.eq_2 x l18 x19 k):=frame_Encode.l21.eq_2 x l18 x19 k
theorem frame_Encode.l67_s k x l18 t54:type_of% (frame_Encode.l67.eq_2 x l18 t54 k):=frame_Encode.l67.eq_2 x l18 t54 k
theorem frame_Encode.j98_s k y97:type_of% (frame_Encode.j98.eq_2 y97 k):=frame_Encode.j98.eq_2 y97 k
def frame_Encode.f(k:Nat)(x:qP):Option ((List Int) × Int):=(frame_Count.f k (x.f0.length:Int)).bind fun t6=>(frame_Encode.l21 k x t6 0)
def frame_Encode.Post(W F:World)(r:(List Int) × Int)(v:Value)(w':World):Prop:=∃(F':World)(RA0_0:OA)(rc0_0:Nat),v = .tuple #[.slice RA0_0 r.1.length rc0_0,iv r.2]∧Sm W F w' F' [row (Kn.int .u8) 5 (.slice RA0_0 r.1.length rc0_0) r.1]
theorem frame_Encode.calls(k:Nat)(x:qP)(A0_0:OA)(c0_0:Nat)(A0_1:OA)(c0_1:Nat)(r:(List Int) × Int)(W F:World)(hown:Sub F W)(g0_0:Rd ki F A0_0 c0_0 x.f0)(g0_1:Rd Kn.string F A0_1 c0_1 x.f1)(H:frame_Encode.f k x=some r):
    Cr 36 #[.agg #[.slice A0_0 x.f0.length c0_0,.slice A0_1 x.f1.length c0_1]] W (frame_Encode.Post W F r):=by
 have S:=sT hown
 unfold frame_Encode.f at H
 refine ent 65 rfl rfl rfl (fun a E=>?_)
 refine sq fun K1 hK1=>pl0 (plx (t:=69) E S [.slice A0_0 x.f0.length c0_0,.slice A0_1 x.f1.length c0_1] fun b2 u3 hb2 S a E=>plc E (.r 1 2 .nil) (fun a E=>pld (hK1 _ _ (sq fun K4 hK4=>pl0 (plc E (.r 0 1<|.b 1 0 hb2<|.r 2 1<|.nil) (fun a E=>?_))))))
 obtain ⟨t6,h7,H⟩:=bd H
 refine ple E (.cl en60 (frame_Count.calls k (x.f0.length:Int) _ _ _ S.own.sub h7)) ?_
 rintro _ u5 a ⟨F8,A9,c10,rfl,hC⟩ E
 have hs:=hC.sub
 replace S:=S.called (X:=[]) hC
 replace g0_0:=g0_0.mono hs
 replace g0_1:=g0_1.mono hs
 refine plc E (.r 4 1 .nil) (fun a E=>pld (hK4 _ _ (sq fun K13 hK13=>rg E (.r 0 1<|.b 1 0 (S.ba 1)<|.r 2 2<|.nil) fun a E=>(wp_block ?_))))
 replace S:=S.front 1 rfl
 refine wp_loop_ghost (fun kq22 a w'=>∃(G:NV)(A16:OA)(c17:Nat)(l18:List Int)(x19:Int)(F20:World),kq22≤k∧Env 65 G a∧At G [(1,.pointer (pb b2)),(4,.slice A16 l18.length c17),(14,.slice A0_0 x.f0.length c0_0),(15,iv (x.f0.length:Int)),(16,iv x19)]∧Sm W F w' F20 [box b2 #[.slice A0_0 x.f0.length c0_0,.slice A0_1 x.f1.length c0_1] 69,row (Kn.int .u8) 5 (.slice A16 l18.length c17) l18]∧Rd ki F20 A0_0 c0_0 x.f0∧Rd Kn.string F20 A0_1 c0_1 x.f1∧frame_Encode.l21 kq22 x l18 x19=some r) k ⟨_,A9,c10,t6,0,F8,Nat.le_refl _,E,.of,S,g0_0,g0_1,H⟩ ?_
 rintro kq22 a u24 ⟨G,A16,c17,l18,x19,F20,hkq,E,A,S,g0_0,g0_1,H⟩
 obtain _ | k23:=kq22
 exact zz H
 rw [frame_Encode.l21_s]at H
 obtain ⟨J,E⟩:=E.at A
 refine rr E fun a E=>(sq fun K26 hK26=>E.ik 17 H (fun c27 E H=>?_) fun c27 E H=>?_)
 refine wp_skip (hK26 _ _ (sq fun K28 hK28=>wp_block (sq fun K29 hK29=>pl0 ?_)))
 obtain ⟨c30,H⟩:=gd H
 have hE_:=E
 obtain ⟨ad31,rfl⟩:=g0_0.addr c30.1 c30.2
 replace E:=hE_
 obtain ⟨cs33,rfl,hc34⟩:=g0_0.el 0 x19 c30.1 c30.2
 refine plc E (.x 0 c30<|.c 1 (S.fc hc34 0)<|.r 2 1<|.nil) (fun a E=>pld (hK29 _ _ (sq fun K35 hK35=>pl0 (plc E (.r 0 2 .nil) (fun a E=>?_)))))
 obtain ⟨t37,h38,H⟩:=bd H
 refine ple E (.cl en61 (frame_Number.calls k23 (nth 0 x.f0 x19) _ _ _ S.own.sub h38)) ?_
 rintro _ u36 a ⟨F39,A40,c41,rfl,hC⟩ E
 have hs:=hC.sub
 replace S:=S.called (X:=[]) hC
 replace g0_0:=g0_0.mono hs
 replace g0_1:=g0_1.mono hs
 obtain ⟨c44,H⟩:=gd H
 replace S:=S.front 2 rfl
 refine ple E (.ap (d:=(Kn.int .u8)) 1 S (qAN (S.row_at (i:=1) rfl)) c44 c41) ?_
 rintro _ u47 a ⟨A45,c46,rfl,S,hz⟩ E
 refine plc E (.r 4 1 .nil) (fun a E=>pld (hK35 _ _ (rr E fun a E=>(E.ik 26 H (fun c49 E H=>?_) fun c49 E H=>?_))))
 refine rr E fun a E=>(wp_ret (qAI (qAH (qAH (qAI (qAH ?_))))))
 replace S:=S.nilrow (Kn.int .u8) 5
 replace S:=S.pm [0] 4
 obtain rfl:=si H
 exact rtN E ⟨_,rfl,_,_,_,rfl,S⟩
 refine wp_skip ?_
 refine qAL ?_
 refine hK28 _ _ (pl0 (plc E (.r 0 2 .nil) (fun a E=>pld ?_)))
 replace S:=S.pm [2,0] 3
 exact qAM ⟨k23,by omega,_,A45,c46,(l18++t37),(w64 (x19+1)),F39,by omega,E,.of,S,g0_0,g0_1,H⟩
 refine wp_exit ?_
 refine hK13 _ _ (sq fun K52 hK52=>pl0 (plc E (.r 0 2<|.b 2 1 (S.ba 0)<|.r 3 1<|.nil) (fun a E=>?_)))
 obtain ⟨t54,h55,H⟩:=bd H
 refine ple E (.cl en60 (frame_Count.calls k23 (x.f1.length:Int) _ _ _ S.own.sub h55)) ?_
 rintro _ u53 a ⟨F56,A57,c58,rfl,hC⟩ E
 have hs:=hC.sub
 replace S:=S.called (X:=[]) hC
 replace g0_0:=g0_0.mono hs
 replace g0_1:=g0_1.mono hs
 obtain ⟨c61,H⟩:=gd H
 replace S:=S.front 2 rfl
 refine ple E (.ap (d:=(Kn.int .u8)) 1 S (qAN (S.row_at (i:=1) rfl)) c61 c58) ?_
 rintro _ u64 a ⟨A62,c63,rfl,S,hz⟩ E
 refine plc E (.r 6 1 .nil) (fun a E=>pld (hK52 _ _ (sq fun K65 hK65=>rg E (.r 0 1<|.b 1 1 (S.ba 2)<|.r 2 2<|.nil) fun a E=>(wp_block ?_))))
 replace S:=S.pm [2,0] 3
 refine wp_loop_ghost (fun kq68 a w'=>∃(G:NV),kq68≤k23∧Env 65 G a∧At G [(4,.slice A62 ((l18++t54).length) c63),(35,.slice A0_1 x.f1.length c0_1),(36,iv (x.f1.length:Int)),(37,iv 0)]∧Sm W F w' F56 [box b2 #[.slice A0_0 x.f0.length c0_0,.slice A0_1 x.f1.length c0_1] 69,row (Kn.int .u8) 5 (.slice A62 ((l18++t54).length) c63) (l18++t54)]∧frame_Encode.l67 kq68 x l18 t54=some r) k23 ⟨_,Nat.le_refl _,E,.of,S,H⟩ ?_
 rintro kq68 a u70 ⟨G,hkq,E,A,S,H⟩
 obtain _ | k69:=kq68
 exact zz H
 rw [frame_Encode.l67_s]at H
 obtain ⟨J,E⟩:=E.at A
 refine rr E fun a E=>(sq fun K72 hK72=>E.ik 38 H (fun c73 E H=>?_) fun c73 E H=>?_)
 refine wp_skip (hK72 _ _ (sq fun K74 hK74=>wp_block (sq fun K75 hK75=>pl0 ?_)))
 obtain ⟨c76,H⟩:=gd H
 have hE_:=E
 obtain ⟨ad77,rfl⟩:=g0_1.addr c76.1 c76.2
 replace E:=hE_
 obtain ⟨cs79,rfl,hc80⟩:=g0_1.el ByteArray.empty 0 c76.1 c76.2
 refine plc E (.x 0 c76<|.c 1 (S.fc hc80 0)<|.r 2 1<|.nil) (fun a E=>pld (hK75 _ _ (sq fun K81 hK81=>sq fun K82 hK82=>pl0 (plc E (.r 0 3 .nil) (fun a E=>?_)))))
 obtain ⟨t84,h85,H⟩:=bd H
 refine ple E (.cl en60 (frame_Count.calls k69 ((nth ByteArray.empty x.f1 0).size:Int) _ _ _ S.own.sub h85)) ?_
 rintro _ u83 a ⟨F86,A87,c88,rfl,hC⟩ E
 have hs:=hC.sub
 replace S:=S.called (X:=[]) hC
 replace g0_1:=g0_1.mono hs
 replace g0_0:=g0_0.mono hs
 obtain ⟨c91,H⟩:=gd H
 replace S:=S.front 2 rfl
 refine ple E (.ap (d:=(Kn.int .u8)) 1 S (qAN (S.row_at (i:=1) rfl)) c91 c88) ?_
 rintro _ u94 a ⟨A92,c93,rfl,S,hz⟩ E
 refine plc E (.r 5 1 .nil) (fun a E=>pld (hK82 _ _ (sq fun K95 hK95=>?_)))
 have J101:∀ kq99,kq99≤k69→∀(G:NV)(y97:Bool)(a:Act)(w':World),Env 65 G a→At G [(4,.slice A92 (((l18++t54)++t84).length) c93),(8,.string (nth ByteArray.empty x.f1 0)),(35,.slice (some ad77) x.f1.length c0_1),(36,iv (x.f1.length:Int)),(37,iv 0),(56,.bool y97)]→Sm W F w' F86 [box b2 #[.slice A0_0 x.f0.length c0_0,.slice (some ad77) x.f1.length c0_1] 69,row (Kn.int .u8) 5 (.slice A92 (((l18++t54)++t84).length) c93) ((l18++t54)++t84)]→frame_Encode.j98 kq99 y97=some r→K95 a w':=by
  intro kq99 hkq G y97 a u102 E A S H
  obtain _ | k100:=kq99
  exact zz H
  rw [frame_Encode.j98_s]at H
  obtain ⟨J,E⟩:=E.at A
  refine hK95 _ _ (E.ib 56 H (fun c103 E H=>?_) fun c103 E H=>?_)
  refine rr E fun a E=>(wp_ret (qAH (qAI (qAH (qAH (qAI (qAH ?_)))))))
  replace S:=S.nilrow (Kn.int .u8) 5
  replace S:=S.pm [0] 3
  obtain rfl:=si H
  exact rtN E ⟨_,rfl,_,_,_,rfl,S⟩
  refine wp_skip (hK81 _ _ (pl0 (plc E (.r 0 2 .nil) (fun a E=>?_))))
  exact zz H
 refine pl0 (plc E (.r 0 4 .nil) (fun a E=>E.fk 49 H (fun c96 E H=>?_) fun c96 E H=>?_))
 refine plc E (.r 4 7 .nil) (fun a E=>pld ?_)
 replace S:=S.pm [2,0] 3
 exact J101 _ (by omega) _ true _ _ E .of S H
 refine plc E (.r 4 7 .nil) (fun a E=>pld ?_)
 replace S:=S.pm [2,0] 3
 exact J101 _ (by omega) _ (decide (((nth ByteArray.empty x.f1 0).size:Int)>(w64 (4096 - (((l18++t54)++t84).length:Int))))) _ _ E .of S H
 refine wp_exit ?_
 refine hK65 _ _ (sq fun K106 hK106=>rr E fun a E=>(E.ik 63 H (fun c108 E H=>?_) fun c108 E H=>?_))
 refine rr E fun a E=>(wp_ret (qAH ?_))
 replace S:=S.nilrow (Kn.int .u8) 5
 replace S:=S.pm [0] 3
 obtain rfl:=si H
 exact rtN E ⟨_,rfl,_,_,_,rfl,S⟩
 refine wp_skip (hK106 _ _ (rr E fun a E=>(wp_ret ?_)))
 replace S:=S.tail
 obtain rfl:=si H
 exact rtN E ⟨_,rfl,_,_,_,rfl,S⟩
mutual
def qh.l27:Nat→qK→List Int→Int→Option (qP × Int)
 | 0,_,_,_=>none
 | k+1,x,l25,x26=>if x26<(x.f4.length:Int) then (if 0≤x26∧x26<(x.f4.length:Int) then ((qAD.f ((nth qA.z x.f4 x26).f4)).bind fun t45=>((qAD.f ((nth qA.z x.f4 x26).f5)).bind fun t48=>(if ((l25.length:Int)+((6:Nat):Int)) * 8≤140737488355328 then (qh.l27 k x (l25++[(nth qA.z x.f4 x26).f0,(nth qA.z x.f4 x26).f1,(nth qA.z x.f4 x26).f2,(nth qA.z x.f4 x26).f3,t45,t48]) (w64 (x26+1))) else (none)))) else (none)) else (if ((l25.length:Int)+((1:Nat):Int)) * 8≤140737488355328 then (qh.l75 k x (l25++[(x.f5.length:Int)]) 0) else (none))
def qh.l75:Nat→qK→List Int→Int→Option (qP × Int)
 | 0,_,_,_=>none
 | k+1,x,l72,x73=>if x73<(x.f5.length:Int) then (if 0≤x73∧x73<(x.f5.length:Int) then (if ((l72.length:Int)+((1:Nat):Int)) * 8≤140737488355328 then ((qx.f ((nth qI.z x.f5 x73).f1)).bind fun t106=>(if (((l72++[(nth qI.z x.f5 x73).f0]).length:Int)+(t106.length:Int)) * 8≤140737488355328 then (qh.l75 k x ((l72++[(nth qI.z x.f5 x73).f0])++t106) (w64 (x73+1))) else (none))) else (none)) else (none)) else (qh.l125 k x l72 0)
def qh.l125:Nat→qK→List Int→Int→Option (qP × Int)
 | 0,_,_,_=>none
 | k+1,x,l122,x123=>if x123<(x.f6.length:Int) then (if 0≤x123∧x123<(x.f6.length:Int) then (if ((l122.length:Int)+((2:Nat):Int)) * 8≤140737488355328 then (qh.l161 k x x123 (l122++[(nth qC.z x.f6 x123).f0,(((nth qC.z x.f6 x123).f1).length:Int)]) 0) else (none)) else (none)) else ((frame_Encode.f k (⟨l122,[]⟩:qP)).bind fun t212=>(if t212.2=0 then (some ((⟨l122,[]⟩:qP),0)) else (some ((⟨[],[]⟩:qP),t212.2))))
def qh.l161:Nat→qK→Int→List Int→Int→Option (qP × Int)
 | 0,_,_,_,_=>none
 | k+1,x,x123,l158,x159=>if x159<(((nth qC.z x.f6 x123).f1).length:Int) then (if 0≤x159∧x159<(((nth qC.z x.f6 x123).f1).length:Int) then (if ((l158.length:Int)+((1:Nat):Int)) * 8≤140737488355328 then ((qx.f ((nth qD.z ((nth qC.z x.f6 x123).f1) x159).f1)).bind fun t192=>(if (((l158++[(nth qD.z ((nth qC.z x.f6 x123).f1) x159).f0]).length:Int)+(t192.length:Int)) * 8≤140737488355328 then (qh.l161 k x x123 ((l158++[(nth qD.z ((nth qC.z x.f6 x123).f1) x159).f0])++t192) (w64 (x159+1))) else (none))) else (none)) else (none)) else (qh.l125 k x l158 (w64 (x123+1)))
end
theorem qh.l27_s k x l25 x26:type_of% (qh.l27.eq_2 x l25 x26 k):=qh.l27.eq_2 x l25 x26 k
theorem qh.l75_s k x l72 x73:type_of% (qh.l75.eq_2 x l72 x73 k):=qh.l75.eq_2 x l72 x73 k
theorem qh.l125_s k x l122 x123:type_of% (qh.l125.eq_2 x l122 x123 k):=qh.l125.eq_2 x l122 x123 k
theorem qh.l161_s k x x123 l158 x159:type_of% (qh.l161.eq_2 x x123 l158 x159 k):=qh.l161.eq_2 x x123 l158 x159 k
def qh.f(k:Nat)(x:qK):Option (qP × Int):=(qY.f k x).bind fun t9=>(if t9=0 then (qh.l27 k x [x.f0,x.f1,x.f2,x.f3,(x.f4.length:Int)] 0) else (some ((⟨[],[]⟩:qP),t9)))
def qh.Post(W F:World)(r:qP × Int)(v:Value)(w':World):Prop:=∃(F':World)(RA0_0:OA)(rc0_0:Nat)(RA0_1:OA)(rc0_1:Nat),v = .tuple #[.agg #[.slice RA0_0 r.1.f0.length rc0_0,.slice RA0_1 r.1.f1.length rc0_1],iv r.2]∧Sm W F w' F' []∧Rd ki F' RA0_0 rc0_0 r.1.f0∧Rd Kn.string F' RA0_1 rc0_1 r.1.f1
theorem qh.calls(k:Nat)(x:qK)(A0_4:OA)(c0_4:Nat)(A0_5:OA)(c0_5:Nat)(A0_6:OA)(c0_6:Nat)(r:qP × Int)(W F:World)(hown:Sub F W)(g0_4:Rd qA.k F A0_4 c0_4 x.f4)(g0_5:Rd qI.k F A0_5 c0_5 x.f5)(g0_6:Rd qC.k F A0_6 c0_6 x.f6)(H:qh.f k x=some r):
    Cr 17 #[.agg #[iv x.f0,iv x.f1,iv x.f2,iv x.f3,.slice A0_4 x.f4.length c0_4,.slice A0_5 x.f5.length c0_5,.slice A0_6 x.f6.length c0_6]] W (qh.Post W F r):=by
 have S:=sT hown
 unfold qh.f at H
 refine ent 128 rfl rfl rfl (fun a E=>?_)
 refine sq fun K1 hK1=>pl0 (plx (t:=65) E S [iv x.f0,iv x.f1,iv x.f2,iv x.f3,.slice A0_4 x.f4.length c0_4,.slice A0_5 x.f5.length c0_5,.slice A0_6 x.f6.length c0_6] fun b2 u3 hb2 S a E=>pla (t:=69) E S [.slice none 0 0,.slice none 0 0] fun b4 u5 hb4 S a E=>plc E (.r 2 1 .nil) (fun a E=>pld (hK1 _ _ (sq fun K6 hK6=>sq fun K7 hK7=>pl0 ?_))))
 have hb2:=S.ba 1
 refine plc E (.bn 0 0 7 hb2 .nil) (fun a E=>?_)
 obtain ⟨t9,h10,H⟩:=bd H
 refine plq E S en33 (qY.calls k x _ _ _ _ _ _ _ _ _ S.own.sub g0_4 g0_5 g0_6 h10) fun u8 S a E=>plc E (.r 2 1 .nil) (fun a E=>pld (hK7 _ _ (rr E fun a E=>(E.ikn 20 H (fun c12 E H=>?_) fun c12 E H=>?_))))
 refine wp_skip (hK6 _ _ (sq fun K15 hK15=>pl0 ?_))
 have hb2:=S.ba 1
 refine plc E (.r 0 1<|.b 1 0 hb2<|.r 2 1<|.b 3 1 hb2<|.r 4 1<|.b 5 2 hb2<|.r 6 1<|.b 7 3 hb2<|.r 8 1<|.b 9 4 hb2<|.r 10 1<|.nil) (fun a E=>ple E (.lit (d:=ki) (e:=3) S [x.f0,x.f1,x.f2,x.f3,(x.f4.length:Int)] (.cons rfl<|.cons rfl<|.cons rfl<|.cons rfl<|.cons rfl .nil)) ?_)
 rintro _ u16 a ⟨A17,c18,rfl,S,hg⟩ E
 refine plc E (.r 12 1 .nil) (fun a E=>pld (hK15 _ _ (sq fun K20 hK20=>rg E (.r 0 1<|.b 1 4 (S.ba 2)<|.r 2 2<|.nil) fun a E=>(wp_block ?_))))
 replace S:=S.pm [1,2,0] 3
 refine wp_loop_ghost (fun kq28 a w'=>∃(G:NV)(A23:OA)(c24:Nat)(l25:List Int)(x26:Int),kq28≤k∧Env 128 G a∧At G [(1,.pointer (pb b2)),(2,.pointer (pb b4)),(5,.slice A23 l25.length c24),(36,.slice A0_4 x.f4.length c0_4),(37,iv (x.f4.length:Int)),(38,iv x26)]∧Sm W F w' F [box b4 #[.slice none 0 0,.slice none 0 0] 69,box b2 #[iv x.f0,iv x.f1,iv x.f2,iv x.f3,.slice A0_4 x.f4.length c0_4,.slice A0_5 x.f5.length c0_5,.slice A0_6 x.f6.length c0_6] 65,row ki 3 (.slice A23 l25.length c24) l25]∧qh.l27 kq28 x l25 x26=some r) k ⟨_,A17,c18,[x.f0,x.f1,x.f2,x.f3,(x.f4.length:Int)],0,Nat.le_refl _,E,.of,S,H⟩ ?_
 rintro kq28 a u30 ⟨G,A23,c24,l25,x26,hkq,E,A,S,H⟩
 obtain _ | k29:=kq28
 exact zz H
 rw [qh.l27_s]at H
 obtain ⟨J,E⟩:=E.at A
 refine rr E fun a E=>(sq fun K32 hK32=>E.ik 39 H (fun c33 E H=>?_) fun c33 E H=>?_)
 refine wp_skip (hK32 _ _ (sq fun K34 hK34=>wp_block (sq fun K35 hK35=>pl0 ?_)))
 obtain ⟨c36,H⟩:=gd H
 have hE_:=E
 obtain ⟨ad37,rfl⟩:=g0_4.addr c36.1 c36.2
 replace E:=hE_
 obtain ⟨cs39,rfl,hc40⟩:=g0_4.el qA.z x26 c36.1 c36.2
 refine plc E (.x 0 c36<|.cs 1 (S.fcs hc40)<|.nil) (fun a E=>pla (t:=96) E S [iv 0,iv 0,iv 0,iv 0,.bool false,.bool false] fun b41 u42 hb41 S a E=>pls E S [iv ((nth qA.z x.f4 x26).f0),iv ((nth qA.z x.f4 x26).f1),iv ((nth qA.z x.f4 x26).f2),iv ((nth qA.z x.f4 x26).f3),.bool ((nth qA.z x.f4 x26).f4),.bool ((nth qA.z x.f4 x26).f5)] fun u43 hb41 S a E=>pld (hK35 _ _ ?_))
 refine drawn 18 ⟨[16],[],fun q=>False⟩ mixed rfl (by kernel_rfl) (fun hst=>?_)
 replace S:=S.drew
 have hb41:=S.ba 0
 refine mny 5 hst E (.r 0 2<|.b 2 0 hb41<|.r 3 1<|.b 4 1 hb41<|.r 5 1<|.b 6 2 hb41<|.r 7 1<|.b 8 3 hb41<|.r 9 1<|.b 10 4 hb41<|.r 12 1<|.b 13 5 hb41<|.nil) (fun a E=>?_)
 obtain ⟨t45,h46,H⟩:=bd H
 refine on1 11 E (.cl en34 (qAD.calls ((nth qA.z x.f4 x26).f4) _ _ _ S.own.sub h46)) ?_
 rintro _ u44 a ⟨_,rfl,hC⟩ E
 refine ⟨.of hC.agr,?_⟩
 replace S:=S.lent hC
 obtain ⟨t48,h49,H⟩:=bd H
 refine on1 14 E (.cl en34 (qAD.calls ((nth qA.z x.f4 x26).f5) _ _ _ S.own.sub h49)) ?_
 rintro _ u47 a ⟨_,rfl,hC⟩ E
 refine ⟨.of hC.agr,?_⟩
 replace S:=S.lent hC
 refine on1 15 E (.lit (d:=ki) (e:=3) S [(nth qA.z x.f4 x26).f0,(nth qA.z x.f4 x26).f1,(nth qA.z x.f4 x26).f2,(nth qA.z x.f4 x26).f3,t45,t48] (.cons rfl<|.cons rfl<|.cons rfl<|.cons rfl<|.cons rfl<|.cons rfl .nil)) ?_
 rintro _ u50 a ⟨A51,c52,rfl,S,hg⟩ E
 refine ⟨.of hg,?_⟩
 obtain ⟨c54,H⟩:=gd H
 replace S:=S.front 4 rfl
 refine on1 16 E (.ap (d:=ki) 8 S (qAN (S.row_at (i:=1) rfl)) c54 c52) ?_
 rintro _ u57 a ⟨A55,c56,rfl,S,hz⟩ E
 refine ⟨.d,?_⟩
 refine mny 0 hst E (.r 17 1 .nil) (fun a E=>?_)
 refine dn ?_
 refine qAL ?_
 refine hK34 _ _ (pl0 (plc E (.r 0 2 .nil) (fun a E=>pld ?_)))
 replace S:=S.pm [3,4,0] 5
 exact qAM ⟨k29,by omega,_,A55,c56,(l25++[(nth qA.z x.f4 x26).f0,(nth qA.z x.f4 x26).f1,(nth qA.z x.f4 x26).f2,(nth qA.z x.f4 x26).f3,t45,t48]),(w64 (x26+1)),by omega,E,.of,S,H⟩
 refine wp_exit ?_
 refine hK20 _ _ (sq fun K58 hK58=>pl0 (plc E (.r 0 2<|.b 2 5 (S.ba 1)<|.r 3 1<|.nil) (fun a E=>ple E (.lit (d:=ki) (e:=3) S [(x.f5.length:Int)] (.cons rfl .nil)) ?_)))
 rintro _ u59 a ⟨A60,c61,rfl,S,hg⟩ E
 obtain ⟨c63,H⟩:=gd H
 replace S:=S.front 3 rfl
 refine ple E (.ap (d:=ki) 8 S (qAN (S.row_at (i:=1) rfl)) c63 c61) ?_
 rintro _ u66 a ⟨A64,c65,rfl,S,hz⟩ E
 refine plc E (.r 6 1 .nil) (fun a E=>pld (hK58 _ _ (sq fun K67 hK67=>rg E (.r 0 1<|.b 1 5 (S.ba 3)<|.r 2 2<|.nil) fun a E=>(wp_block ?_))))
 replace S:=S.pm [2,3,0] 4
 refine wp_loop_ghost (fun kq76 a w'=>∃(G:NV)(A70:OA)(c71:Nat)(l72:List Int)(x73:Int)(F74:World),kq76≤k29∧Env 128 G a∧At G [(1,.pointer (pb b2)),(2,.pointer (pb b4)),(5,.slice A70 l72.length c71),(67,.slice A0_5 x.f5.length c0_5),(68,iv (x.f5.length:Int)),(69,iv x73)]∧Sm W F w' F74 [box b4 #[.slice none 0 0,.slice none 0 0] 69,box b2 #[iv x.f0,iv x.f1,iv x.f2,iv x.f3,.slice A0_4 x.f4.length c0_4,.slice A0_5 x.f5.length c0_5,.slice A0_6 x.f6.length c0_6] 65,row ki 3 (.slice A70 l72.length c71) l72]∧Rd qI.k F74 A0_5 c0_5 x.f5∧Rd qA.k F74 A0_4 c0_4 x.f4∧Rd qC.k F74 A0_6 c0_6 x.f6∧qh.l75 kq76 x l72 x73=some r) k29 ⟨_,A64,c65,(l25++[(x.f5.length:Int)]),0,F,Nat.le_refl _,E,.of,S,g0_5,g0_4,g0_6,H⟩ ?_
 rintro kq76 a u78 ⟨G,A70,c71,l72,x73,F74,hkq,E,A,S,g0_5,g0_4,g0_6,H⟩
 obtain _ | k77:=kq76
 exact zz H
 rw [qh.l75_s]at H
 obtain ⟨J,E⟩:=E.at A
 refine rr E fun a E=>(sq fun K80 hK80=>E.ik 70 H (fun c81 E H=>?_) fun c81 E H=>?_)
 refine wp_skip (hK80 _ _ (sq fun K82 hK82=>wp_block (sq fun K83 hK83=>pl0 ?_)))
 obtain ⟨c84,H⟩:=gd H
 have hE_:=E
 obtain ⟨ad85,rfl⟩:=g0_5.addr c84.1 c84.2
 replace E:=hE_
 obtain ⟨cs87,⟨A89,c90,rfl,g91⟩,hc88⟩:=g0_5.el qI.z x73 c84.1 c84.2
 refine plc E (.x 0 c84<|.cs 1 (S.fcs hc88)<|.nil) (fun a E=>pla (t:=87) E S [iv 0,.slice none 0 0] fun b92 u93 hb92 S a E=>pls E S [iv ((nth qI.z x.f5 x73).f0),.slice A89 (((nth qI.z x.f5 x73).f1).length) c90] fun u94 hb92 S a E=>pld (hK83 _ _ ?_))
 obtain ⟨F95,hs,g96,S⟩:=S.giveb
 replace g0_5:=g0_5.mono hs
 replace g91:=g91.mono hs
 replace g0_4:=g0_4.mono hs
 replace g0_6:=g0_6.mono hs
 refine drawn 10 ⟨[4,8],[4,8],fun q=>XF F95 q⟩ mixed rfl (by kernel_rfl) (fun hst=>?_)
 replace S:=S.drew
 have hFx:Sub F95 F95:=fun _ _ _ _ h=>h
 refine mny 5 hst E (.r 0 2<|.b 2 0 (S.own.sub _ _ _ _ g96)<|.r 5 1<|.cF (p:=⟨b92,1,none⟩) (v:=.slice A89 (((nth qI.z x.f5 x73).f1).length) c90) 6 S.own.sub (qAX g96 rfl)<|.nil) (fun a E=>?_)
 refine on1 3 E (.lit (d:=ki) (e:=3) S [(nth qI.z x.f5 x73).f0] (.cons rfl .nil)) ?_
 rintro _ u97 a ⟨A98,c99,rfl,S,hg⟩ E
 refine ⟨.of hg,?_⟩
 obtain ⟨c101,H⟩:=gd H
 replace S:=S.front 3 rfl
 have hSo:=S.own.sub
 refine on1 4 E (.ap (d:=ki) 8 S (qAN (S.row_at (i:=1) rfl)) c101 c99) ?_
 rintro _ u104 a ⟨A102,c103,rfl,S,hz⟩ E
 refine ⟨.c (xf hSo S.own.sub hz),?_⟩
 obtain ⟨t106,h107,H⟩:=bd H
 refine on1 7 E (.cl en35 (qx.calls ((nth qI.z x.f5 x73).f1) _ _ _ _ _ S.own.sub g91 h107)) ?_
 rintro _ u105 a ⟨F108,A109,c110,rfl,hC⟩ E
 refine ⟨.of hC.agr,?_⟩
 have hs:=hC.sub
 replace S:=S.called (X:=[]) hC
 replace g0_5:=g0_5.mono hs
 replace g91:=g91.mono hs
 replace g0_4:=g0_4.mono hs
 replace g0_6:=g0_6.mono hs
 replace g96:=hs _ _ _ _ g96
 replace hFx:=fun q c e z h=>hs q c e z (hFx q c e z h)
 obtain ⟨c113,H⟩:=gd H
 replace S:=S.front 1 rfl
 have hSo:=S.own.sub
 refine on1 8 E (.ap (d:=ki) 8 S (qAN (S.row_at (i:=1) rfl)) c113 c110) ?_
 rintro _ u116 a ⟨A114,c115,rfl,S,hz⟩ E
 refine ⟨.c (xf (F:=F95) (fun q c e z h=>hSo q c e z (hFx q c e z h)) (fun q c e z h=>S.own.sub q c e z (hFx q c e z h)) hz),?_⟩
 refine mny 0 hst E (.r 9 1 .nil) (fun a E=>?_)
 refine dn ?_
 refine qAL ?_
 refine hK82 _ _ (pl0 (plc E (.r 0 2 .nil) (fun a E=>pld ?_)))
 replace S:=S.pm [3,4,0] 5
 exact qAM ⟨k77,by omega,_,A114,c115,((l72++[(nth qI.z x.f5 x73).f0])++t106),(w64 (x73+1)),F108,by omega,E,.of,S,g0_5,g0_4,g0_6,H⟩
 refine wp_exit ?_
 refine hK67 _ _ (sq fun K117 hK117=>rg E (.r 0 1<|.b 1 6 (S.ba 1)<|.r 2 2<|.nil) fun a E=>(wp_block ?_))
 refine wp_loop_ghost (fun kq126 a w'=>∃(G:NV)(A120:OA)(c121:Nat)(l122:List Int)(x123:Int)(F124:World),kq126≤k77∧Env 128 G a∧At G [(2,.pointer (pb b4)),(5,.slice A120 l122.length c121),(84,.slice A0_6 x.f6.length c0_6),(85,iv (x.f6.length:Int)),(86,iv x123)]∧Sm W F w' F124 [box b4 #[.slice none 0 0,.slice none 0 0] 69,box b2 #[iv x.f0,iv x.f1,iv x.f2,iv x.f3,.slice A0_4 x.f4.length c0_4,.slice A0_5 x.f5.length c0_5,.slice A0_6 x.f6.length c0_6] 65,row ki 3 (.slice A120 l122.length c121) l122]∧Rd qC.k F124 A0_6 c0_6 x.f6∧Rd qA.k F124 A0_4 c0_4 x.f4∧Rd qI.k F124 A0_5 c0_5 x.f5∧qh.l125 kq126 x l122 x123=some r) k77 ⟨_,A70,c71,l72,0,F74,Nat.le_refl _,E,.of,S,g0_6,g0_4,g0_5,H⟩ ?_
 rintro kq126 a u128 ⟨G,A120,c121,l122,x123,F124,hkq,E,A,S,g0_6,g0_4,g0_5,H⟩
 obtain _ | k127:=kq126
 exact zz H
 rw [qh.l125_s]at H
 obtain ⟨J,E⟩:=E.at A
 refine rr E fun a E=>(sq fun K130 hK130=>E.ik 87 H (fun c131 E H=>?_) fun c131 E H=>?_)
 refine wp_skip (hK130 _ _ (sq fun K132 hK132=>wp_block (sq fun K133 hK133=>pl0 ?_)))
 obtain ⟨c134,H⟩:=gd H
 have hE_:=E
 obtain ⟨ad135,rfl⟩:=g0_6.addr c134.1 c134.2
 replace E:=hE_
 obtain ⟨cs137,⟨A139,c140,rfl,g141⟩,hc138⟩:=g0_6.el qC.z x123 c134.1 c134.2
 refine plc E (.x 0 c134<|.cs 1 (S.fcs hc138)<|.nil) (fun a E=>pla (t:=90) E S [iv 0,.slice none 0 0] fun b142 u143 hb142 S a E=>pls E S [iv ((nth qC.z x.f6 x123).f0),.slice A139 (((nth qC.z x.f6 x123).f1).length) c140] fun u144 hb142 S a E=>pld (hK133 _ _ (sq fun K145 hK145=>pl0 (plc E (.r 0 2<|.b 2 0 hb142<|.r 3 1<|.b 4 1 hb142<|.r 5 1<|.nil) (fun a E=>ple E (.lit (d:=ki) (e:=3) S [(nth qC.z x.f6 x123).f0,(((nth qC.z x.f6 x123).f1).length:Int)] (.cons rfl<|.cons rfl .nil)) ?_)))))
 rintro _ u146 a ⟨A147,c148,rfl,S,hg⟩ E
 obtain ⟨c150,H⟩:=gd H
 replace S:=S.front 4 rfl
 refine ple E (.ap (d:=ki) 8 S (qAN (S.row_at (i:=1) rfl)) c150 c148) ?_
 rintro _ u153 a ⟨A151,c152,rfl,S,hz⟩ E
 refine plc E (.r 8 1 .nil) (fun a E=>pld (hK145 _ _ (rg E (.r 0 1<|.b 1 1 (S.ba 2)<|.r 2 2<|.nil) fun a E=>(wp_block ?_))))
 replace S:=S.pm [2,3,4,0] 5
 refine wp_loop_ghost (fun kq162 a w'=>∃(G:NV)(A156:OA)(c157:Nat)(l158:List Int)(x159:Int)(F160:World),kq162≤k127∧Env 128 G a∧At G [(2,.pointer (pb b4)),(5,.slice A156 l158.length c157),(84,.slice (some ad135) x.f6.length c0_6),(85,iv (x.f6.length:Int)),(86,iv x123),(99,.slice A139 (((nth qC.z x.f6 x123).f1).length) c140),(100,iv (((nth qC.z x.f6 x123).f1).length:Int)),(101,iv x159)]∧Sm W F w' F160 [box b142 #[iv ((nth qC.z x.f6 x123).f0),.slice A139 (((nth qC.z x.f6 x123).f1).length) c140] 90,box b4 #[.slice none 0 0,.slice none 0 0] 69,box b2 #[iv x.f0,iv x.f1,iv x.f2,iv x.f3,.slice A0_4 x.f4.length c0_4,.slice A0_5 x.f5.length c0_5,.slice (some ad135) x.f6.length c0_6] 65,row ki 3 (.slice A156 l158.length c157) l158]∧Rd qC.k F160 (some ad135) c0_6 x.f6∧Rd qD.k F160 A139 c140 ((nth qC.z x.f6 x123).f1)∧Rd qA.k F160 A0_4 c0_4 x.f4∧Rd qI.k F160 A0_5 c0_5 x.f5∧qh.l161 kq162 x x123 l158 x159=some r) k127 ⟨_,A151,c152,(l122++[(nth qC.z x.f6 x123).f0,(((nth qC.z x.f6 x123).f1).length:Int)]),0,F124,Nat.le_refl _,E,.of,S,g0_6,g141,g0_4,g0_5,H⟩ ?_
 rintro kq162 a u164 ⟨G,A156,c157,l158,x159,F160,hkq,E,A,S,g0_6,g141,g0_4,g0_5,H⟩
 obtain _ | k163:=kq162
 exact zz H
 rw [qh.l161_s]at H
 obtain ⟨J,E⟩:=E.at A
 refine rr E fun a E=>(sq fun K166 hK166=>E.ik 102 H (fun c167 E H=>?_) fun c167 E H=>?_)
 refine wp_skip (hK166 _ _ (sq fun K168 hK168=>wp_block (sq fun K169 hK169=>pl0 ?_)))
 obtain ⟨c170,H⟩:=gd H
 have hE_:=E
 obtain ⟨ad171,rfl⟩:=g141.addr c170.1 c170.2
 replace E:=hE_
 obtain ⟨cs173,⟨A175,c176,rfl,g177⟩,hc174⟩:=g141.el qD.z x159 c170.1 c170.2
 refine plc E (.x 0 c170<|.cs 1 (S.fcs hc174)<|.nil) (fun a E=>pla (t:=92) E S [iv 0,.slice none 0 0] fun b178 u179 hb178 S a E=>pls E S [iv ((nth qD.z ((nth qC.z x.f6 x123).f1) x159).f0),.slice A175 (((nth qD.z ((nth qC.z x.f6 x123).f1) x159).f1).length) c176] fun u180 hb178 S a E=>pld (hK169 _ _ ?_))
 obtain ⟨F181,hs,g182,S⟩:=S.giveb
 replace g0_6:=g0_6.mono hs
 replace g141:=g141.mono hs
 replace g177:=g177.mono hs
 replace g0_4:=g0_4.mono hs
 replace g0_5:=g0_5.mono hs
 refine drawn 10 ⟨[4,8],[4,8],fun q=>XF F181 q⟩ mixed rfl (by kernel_rfl) (fun hst=>?_)
 replace S:=S.drew
 have hFx:Sub F181 F181:=fun _ _ _ _ h=>h
 refine mny 5 hst E (.r 0 2<|.b 2 0 (S.own.sub _ _ _ _ g182)<|.r 5 1<|.cF (p:=⟨b178,1,none⟩) (v:=.slice A175 (((nth qD.z ((nth qC.z x.f6 x123).f1) x159).f1).length) c176) 6 S.own.sub (qAX g182 rfl)<|.nil) (fun a E=>?_)
 refine on1 3 E (.lit (d:=ki) (e:=3) S [(nth qD.z ((nth qC.z x.f6 x123).f1) x159).f0] (.cons rfl .nil)) ?_
 rintro _ u183 a ⟨A184,c185,rfl,S,hg⟩ E
 refine ⟨.of hg,?_⟩
 obtain ⟨c187,H⟩:=gd H
 replace S:=S.front 4 rfl
 have hSo:=S.own.sub
 refine on1 4 E (.ap (d:=ki) 8 S (qAN (S.row_at (i:=1) rfl)) c187 c185) ?_
 rintro _ u190 a ⟨A188,c189,rfl,S,hz⟩ E
 refine ⟨.c (xf hSo S.own.sub hz),?_⟩
 obtain ⟨t192,h193,H⟩:=bd H
 refine on1 7 E (.cl en35 (qx.calls ((nth qD.z ((nth qC.z x.f6 x123).f1) x159).f1) _ _ _ _ _ S.own.sub g177 h193)) ?_
 rintro _ u191 a ⟨F194,A195,c196,rfl,hC⟩ E
 refine ⟨.of hC.agr,?_⟩
 have hs:=hC.sub
 replace S:=S.called (X:=[]) hC
 replace g0_6:=g0_6.mono hs
 replace g141:=g141.mono hs
 replace g177:=g177.mono hs
 replace g0_4:=g0_4.mono hs
 replace g0_5:=g0_5.mono hs
 replace g182:=hs _ _ _ _ g182
 replace hFx:=fun q c e z h=>hs q c e z (hFx q c e z h)
 obtain ⟨c199,H⟩:=gd H
 replace S:=S.front 1 rfl
 have hSo:=S.own.sub
 refine on1 8 E (.ap (d:=ki) 8 S (qAN (S.row_at (i:=1) rfl)) c199 c196) ?_
 rintro _ u202 a ⟨A200,c201,rfl,S,hz⟩ E
 refine ⟨.c (xf (F:=F181) (fun q c e z h=>hSo q c e z (hFx q c e z h)) (fun q c e z h=>S.own.sub q c e z (hFx q c e z h)) hz),?_⟩
 refine mny 0 hst E (.r 9 1 .nil) (fun a E=>?_)
 refine dn ?_
 refine qAL ?_
 refine hK168 _ _ (pl0 (plc E (.r 0 2 .nil) (fun a E=>pld ?_)))
 replace S:=S.pm [3,4,5,0] 6
 exact qAM ⟨k163,by omega,_,A200,c201,((l158++[(nth qD.z ((nth qC.z x.f6 x123).f1) x159).f0])++t192),(w64 (x159+1)),F194,by omega,E,.of,S,g0_6,g141,g0_4,g0_5,H⟩
 refine wp_exit ?_
 refine hK132 _ _ (pl0 (plc E (.r 0 2 .nil) (fun a E=>pld ?_)))
 replace S:=S.tail
 exact qAM ⟨k163,by omega,_,A156,c157,l158,(w64 (x123+1)),F160,by omega,E,.of,S,g0_6,g0_4,g0_5,H⟩
 refine wp_exit ?_
 refine hK117 _ _ (sq fun K203 hK203=>pl0 (plc E (.r 0 2 .nil) (fun a E=>pla (t:=69) E S [.slice none 0 0,.slice none 0 0] fun b204 u205 hb204 S a E=>pls E S [.slice A120 l122.length c121,.slice none 0 0] fun u206 hb204 S a E=>pld (hK203 _ _ (sq fun K207 hK207=>sq fun K208 hK208=>pl0 (plc E (.bn 0 0 2 hb204 .nil) (fun a E=>?_)))))))
 replace S:=S.front 3 rfl
 obtain ⟨F209,hs,g210,S⟩:=S.give
 replace g0_6:=g0_6.mono hs
 replace g0_4:=g0_4.mono hs
 replace g0_5:=g0_5.mono hs
 obtain ⟨t212,h213,H⟩:=bd H
 refine ple E (.cl en36 (frame_Encode.calls k127 (⟨l122,[]⟩:qP) _ _ _ _ _ _ _ S.own.sub g210 (Rd.nil _ _) h213)) ?_
 rintro _ u211 a ⟨F214,A215,c216,rfl,hC⟩ E
 have hs:=hC.sub
 replace S:=S.called (X:=[]) hC
 replace g210:=g210.mono hs
 replace g0_6:=g0_6.mono hs
 replace g0_4:=g0_4.mono hs
 replace g0_5:=g0_5.mono hs
 refine plc E (.r 2 5 .nil) (fun a E=>pld (hK208 _ _ (rr E fun a E=>(E.ikn 124 H (fun c220 E H=>?_) fun c220 E H=>?_))))
 refine wp_skip (hK207 _ _ (sq fun K223 hK223=>pl0 (plc E (.bn 0 0 2 (S.ba 1) .nil) (fun a E=>?_))))
 replace S:=S.front 2 rfl
 refine pls E S [.slice A120 l122.length c121,.slice none 0 0] fun u224 hb4 S a E=>plc E (.r 2 1 .nil) (fun a E=>pld (hK223 _ _ (wp_ret ?_)))
 replace S:=S.pm [] 4
 obtain rfl:=si H
 exact rtm E (.b hb4 ag69 sz69 (.t .nil)) ⟨_,rfl,_,_,_,_,_,rfl,S,g210,(Rd.nil _ _)⟩
 refine sq fun K221 hK221=>pl0 (plc E (.r 0 2 .nil) (fun a E=>?_))
 replace S:=S.front 2 rfl
 refine pls E S [.slice none 0 0,.slice none 0 0] fun u222 hb4 S a E=>plc E (.r 3 1 .nil) (fun a E=>pld (hK221 _ _ (wp_ret (qAH ?_))))
 replace S:=S.pm [] 4
 obtain rfl:=si H
 exact rtm E (.b hb4 ag69 sz69 (.t .nil)) ⟨_,rfl,_,_,_,_,_,rfl,S,(Rd.nil _ _),(Rd.nil _ _)⟩
 refine sq fun K13 hK13=>pl0 (plc E (.r 0 2 .nil) (fun a E=>pls E S [.slice none 0 0,.slice none 0 0] fun u14 hb4 S a E=>plc E (.r 3 1 .nil) (fun a E=>pld (hK13 _ _ (wp_ret (qAH ?_))))))
 replace S:=S.pm [] 2
 obtain rfl:=si H
 exact rtm E (.b hb4 ag69 sz69 (.t .nil)) ⟨_,rfl,_,_,_,_,_,rfl,S,(Rd.nil _ _),(Rd.nil _ _)⟩
mutual
def qO.l5:Nat→List qA→Int→Option Bool
 | 0,_,_=>none
 | k+1,x,x4=>if x4<(x.length:Int) then (if 0≤x4∧x4<(x.length:Int) then (if (nth qA.z x x4).f0<1 then (qO.j37 k x x4 true) else (if (nth qA.z x x4).f0>999 then (qO.j37 k x x4 true) else (if (nth qA.z x x4).f1<1 then (qO.j37 k x x4 true) else (if (nth qA.z x x4).f1>9 then (qO.j37 k x x4 true) else (if (nth qA.z x x4).f2<1 then (qO.j37 k x x4 true) else (if (nth qA.z x x4).f2>9 then (qO.j37 k x x4 true) else (if (nth qA.z x x4).f3<0 then (qO.j37 k x x4 true) else (if (nth qA.z x x4).f3>65536 then (qO.j37 k x x4 true) else (if x4>0 then (if 0≤(w64 (x4 - 1))∧(w64 (x4 - 1))<(x.length:Int) then (qO.j37 k x x4 (decide ((nth qA.z x (w64 (x4 - 1))).f0≥(nth qA.z x x4).f0))) else (none)) else (qO.j37 k x x4 false)))))))))) else (none)) else (some (decide ((x.length:Int)≤12)))
def qO.j37:Nat→List qA→Int→Bool→Option Bool
 | 0,_,_,_=>none
 | k+1,x,x4,y36=>if y36=true then (some false) else (qO.l5 k x (w64 (x4+1)))
end
theorem qO.l5_s k x x4:type_of% (qO.l5.eq_2 x x4 k):=qO.l5.eq_2 x x4 k
theorem qO.j37_s k x x4 y36:type_of% (qO.j37.eq_2 x x4 y36 k):=qO.j37.eq_2 x x4 y36 k
def qO.f(k:Nat)(x:List qA):Option Bool:=qO.l5 k x 0
def qO.Post(W F:World)(r:Bool)(v:Value)(w':World):Prop:=∃(F':World),v = .bool r∧Sm W F w' F' []
theorem qO.calls(k:Nat)(x:List qA)(A0_0:OA)(c0_0:Nat)(r:Bool)(W F:World)(hown:Sub F W)(g0_0:Rd qA.k F A0_0 c0_0 x)(H:qO.f k x=some r):
    Cr 37 #[.slice A0_0 x.length c0_0] W (qO.Post W F r):=by
 have S:=sT hown
 unfold qO.f at H
 refine ent 71 rfl rfl rfl (fun a E=>?_)
 refine rr E fun a E=>(sq fun K2 hK2=>rr E fun a E=>(wp_block ?_))
 refine wp_loop_ghost (fun kq6 a w'=>∃(G:NV)(x4:Int),kq6≤k∧Env 71 G a∧At G [(0,.slice A0_0 x.length c0_0),(3,iv x4)]∧Sm W F w' F []∧qO.l5 kq6 x x4=some r) k ⟨_,0,Nat.le_refl _,E,.of,S,H⟩ ?_
 rintro kq6 a u8 ⟨G,x4,hkq,E,A,S,H⟩
 obtain _ | k7:=kq6
 exact zz H
 rw [qO.l5_s]at H
 obtain ⟨J,E⟩:=E.at A
 refine sq fun K9 hK9=>rr E fun a E=>(E.ik 8 H (fun c11 E H=>?_) fun c11 E H=>?_)
 refine wp_skip (hK9 _ _ (sq fun K12 hK12=>wp_block (sq fun K13 hK13=>pl0 ?_)))
 obtain ⟨c14,H⟩:=gd H
 have hE_:=E
 obtain ⟨ad15,rfl⟩:=g0_0.addr c14.1 c14.2
 replace E:=hE_
 obtain ⟨cs17,rfl,hc18⟩:=g0_0.el qA.z x4 c14.1 c14.2
 refine plc E (.r 0 2<|.x 2 c14<|.cs 3 (S.fcs hc18)<|.nil) (fun a E=>pla (t:=96) E S [iv 0,iv 0,iv 0,iv 0,.bool false,.bool false] fun b19 u20 hb19 S a E=>pls E S [iv ((nth qA.z x x4).f0),iv ((nth qA.z x x4).f1),iv ((nth qA.z x x4).f2),iv ((nth qA.z x x4).f3),.bool ((nth qA.z x x4).f4),.bool ((nth qA.z x x4).f5)] fun u21 hb19 S a E=>pld (hK13 _ _ (sq fun K22 hK22=>?_)))
 have J40:∀ kq38,kq38≤k7→∀(G:NV)(y36:Bool)(a:Act)(w':World),Env 71 G a→At G [(0,.slice (some ad15) x.length c0_0),(3,iv x4),(67,.bool y36)]→Sm W F w' F [box b19 #[iv ((nth qA.z x x4).f0),iv ((nth qA.z x x4).f1),iv ((nth qA.z x x4).f2),iv ((nth qA.z x x4).f3),.bool ((nth qA.z x x4).f4),.bool ((nth qA.z x x4).f5)] 96]→qO.j37 kq38 x x4 y36=some r→K22 a w':=by
  intro kq38 hkq G y36 a u41 E A S H
  obtain _ | k39:=kq38
  exact zz H
  rw [qO.j37_s]at H
  obtain ⟨J,E⟩:=E.at A
  refine hK22 _ _ (E.ib 67 H (fun c42 E H=>?_) fun c42 E H=>?_)
  refine rr E fun a E=>(wp_ret (qAI (qAH (qAH (qAI (qAH ?_))))))
  replace S:=S.tail
  obtain rfl:=si H
  exact rt1 E ⟨_,rfl,_,rfl,S⟩
  refine wp_skip ?_
  refine qAL ?_
  refine hK12 _ _ (pl0 (plc E (.r 0 3 .nil) (fun a E=>pld ?_)))
  replace S:=S.tail
  exact qAM ⟨k39,by omega,_,(w64 (x4+1)),by omega,E,.of,S,H⟩
 refine drawn 53 ⟨[],[],fun q=>False⟩ mixed rfl (by kernel_rfl) (fun hst=>?_)
 replace S:=S.drew
 have hb19:=S.ba 0
 refine mny 49 hst E (.r 0 1<|.b 1 0 hb19<|.r 2 2<|.nil) (fun a E=>?_)
 refine E.fk 18 H (fun c23 E H=>?_) fun c23 E H=>?_
 refine mny 0 hst E (.r 4 49 .nil) (fun a E=>?_)
 refine dn ?_
 exact J40 _ (by omega) _ true _ _ E .of S H
 refine mny 44 hst E (.r 4 1<|.b 5 0 hb19<|.r 6 3<|.nil) (fun a E=>?_)
 refine E.fk 23 H (fun c24 E H=>?_) fun c24 E H=>?_
 refine mny 0 hst E (.r 9 44 .nil) (fun a E=>?_)
 refine dn ?_
 exact J40 _ (by omega) _ true _ _ E .of S H
 refine mny 39 hst E (.r 9 1<|.b 10 1 hb19<|.r 11 3<|.nil) (fun a E=>?_)
 refine E.fk 28 H (fun c25 E H=>?_) fun c25 E H=>?_
 refine mny 0 hst E (.r 14 39 .nil) (fun a E=>?_)
 refine dn ?_
 exact J40 _ (by omega) _ true _ _ E .of S H
 refine mny 34 hst E (.r 14 1<|.b 15 1 hb19<|.r 16 3<|.nil) (fun a E=>?_)
 refine E.fk 33 H (fun c26 E H=>?_) fun c26 E H=>?_
 refine mny 0 hst E (.r 19 34 .nil) (fun a E=>?_)
 refine dn ?_
 exact J40 _ (by omega) _ true _ _ E .of S H
 refine mny 29 hst E (.r 19 1<|.b 20 2 hb19<|.r 21 3<|.nil) (fun a E=>?_)
 refine E.fk 38 H (fun c27 E H=>?_) fun c27 E H=>?_
 refine mny 0 hst E (.r 24 29 .nil) (fun a E=>?_)
 refine dn ?_
 exact J40 _ (by omega) _ true _ _ E .of S H
 refine mny 24 hst E (.r 24 1<|.b 25 2 hb19<|.r 26 3<|.nil) (fun a E=>?_)
 refine E.fk 43 H (fun c28 E H=>?_) fun c28 E H=>?_
 refine mny 0 hst E (.r 29 24 .nil) (fun a E=>?_)
 refine dn ?_
 exact J40 _ (by omega) _ true _ _ E .of S H
 refine mny 19 hst E (.r 29 1<|.b 30 3 hb19<|.r 31 3<|.nil) (fun a E=>?_)
 refine E.fk 48 H (fun c29 E H=>?_) fun c29 E H=>?_
 refine mny 0 hst E (.r 34 19 .nil) (fun a E=>?_)
 refine dn ?_
 exact J40 _ (by omega) _ true _ _ E .of S H
 refine mny 14 hst E (.r 34 1<|.b 35 3 hb19<|.r 36 3<|.nil) (fun a E=>?_)
 refine E.fk 53 H (fun c30 E H=>?_) fun c30 E H=>?_
 refine mny 0 hst E (.r 39 14 .nil) (fun a E=>?_)
 refine dn ?_
 exact J40 _ (by omega) _ true _ _ E .of S H
 refine mny 11 hst E (.r 39 3 .nil) (fun a E=>?_)
 refine E.fk 56 H (fun c31 E H=>?_) fun c31 E H=>?_
 obtain ⟨c32,H⟩:=gd H
 obtain ⟨cs34,rfl,hc35⟩:=g0_0.el qA.z (w64 (x4 - 1)) c32.1 c32.2
 refine mny 0 hst E (.r 42 3<|.x 45 c32<|.r 46 1<|.c 47 (S.fc hc35 0)<|.r 48 1<|.b 49 0 hb19<|.r 50 3<|.nil) (fun a E=>?_)
 refine dn ?_
 exact J40 _ (by omega) _ (decide ((nth qA.z x (w64 (x4 - 1))).f0≥(nth qA.z x x4).f0)) _ _ E .of S H
 refine mny 0 hst E (.r 42 11 .nil) (fun a E=>?_)
 refine dn ?_
 exact J40 _ (by omega) _ false _ _ E .of S H
 refine wp_exit ?_
 refine hK2 _ _ (rr E fun a E=>(wp_ret ?_))
 obtain rfl:=si H
 exact rt1 E ⟨_,rfl,_,rfl,S⟩
def qa.l7:Nat→List qA→Int→Int→Option (qA × Bool)
 | 0,_,_,_=>none
 | k+1,x,y,x6=>if x6<(x.length:Int) then (if 0≤x6∧x6<(x.length:Int) then (if (nth qA.z x x6).f0=y then (some ((nth qA.z x x6),true)) else (qa.l7 k x y (w64 (x6+1)))) else (none)) else (some ((⟨0,0,0,0,false,false⟩:qA),false))
theorem qa.l7_s k x y x6:type_of% (qa.l7.eq_2 x y x6 k):=qa.l7.eq_2 x y x6 k
def qa.f(k:Nat)(x:List qA)(y:Int):Option (qA × Bool):=qa.l7 k x y 0
def qa.Post(W F:World)(r:qA × Bool)(v:Value)(w':World):Prop:=∃(F':World),v = .tuple #[.agg #[iv r.1.f0,iv r.1.f1,iv r.1.f2,iv r.1.f3,.bool r.1.f4,.bool r.1.f5],.bool r.2]∧Sm W F w' F' []
theorem qa.calls(k:Nat)(x:List qA)(y:Int)(A0_0:OA)(c0_0:Nat)(r:qA × Bool)(W F:World)(hown:Sub F W)(g0_0:Rd qA.k F A0_0 c0_0 x)(H:qa.f k x y=some r):
    Cr 62 #[.slice A0_0 x.length c0_0,iv y] W (qa.Post W F r):=by
 have S:=sT hown
 unfold qa.f at H
 refine ent 25 rfl rfl rfl (fun a E=>?_)
 refine sq fun K1 hK1=>pl0 (pla (t:=96) E S [iv 0,iv 0,iv 0,iv 0,.bool false,.bool false] fun b2 u3 hb2 S a E=>plc E (.r 1 1 .nil) (fun a E=>pld (hK1 _ _ (sq fun K4 hK4=>rr E fun a E=>(wp_block ?_)))))
 refine wp_loop_ghost (fun kq8 a w'=>∃(G:NV)(x6:Int),kq8≤k∧Env 25 G a∧At G [(0,.slice A0_0 x.length c0_0),(1,iv y),(4,.pointer (pb b2)),(6,iv x6)]∧Sm W F w' F [box b2 #[iv 0,iv 0,iv 0,iv 0,.bool false,.bool false] 96]∧qa.l7 kq8 x y x6=some r) k ⟨_,0,Nat.le_refl _,E,.of,S,H⟩ ?_
 rintro kq8 a u10 ⟨G,x6,hkq,E,A,S,H⟩
 obtain _ | k9:=kq8
 exact zz H
 rw [qa.l7_s]at H
 obtain ⟨J,E⟩:=E.at A
 refine sq fun K11 hK11=>rr E fun a E=>(E.ik 10 H (fun c13 E H=>?_) fun c13 E H=>?_)
 refine wp_skip (hK11 _ _ (sq fun K14 hK14=>wp_block (sq fun K15 hK15=>pl0 ?_)))
 obtain ⟨c16,H⟩:=gd H
 have hE_:=E
 obtain ⟨ad17,rfl⟩:=g0_0.addr c16.1 c16.2
 replace E:=hE_
 obtain ⟨cs19,rfl,hc20⟩:=g0_0.el qA.z x6 c16.1 c16.2
 refine plc E (.r 0 2<|.x 2 c16<|.r 3 1<|.c 4 (S.fc hc20 0)<|.r 5 2<|.nil) (fun a E=>pld (hK15 _ _ (E.ik 19 H (fun c21 E H=>?_) fun c21 E H=>?_)))
 refine sq fun K22 hK22=>pl0 (plc E (.r 0 2<|.x 2 c16<|.cs 3 (S.fcs hc20)<|.nil) (fun a E=>pls E S [iv ((nth qA.z x x6).f0),iv ((nth qA.z x x6).f1),iv ((nth qA.z x x6).f2),iv ((nth qA.z x x6).f3),.bool ((nth qA.z x x6).f4),.bool ((nth qA.z x x6).f5)] fun u26 hb2 S a E=>plc E (.r 5 1 .nil) (fun a E=>pld (hK22 _ _ (wp_ret (qAI (qAH (qAH (qAI (qAH ?_))))))))))
 replace S:=S.tail
 obtain rfl:=si H
 exact rtm E (.b hb2 ag96 sz96 (.t .nil)) ⟨_,rfl,_,rfl,S⟩
 refine wp_skip ?_
 refine qAL ?_
 refine hK14 _ _ (pl0 (plc E (.r 0 3 .nil) (fun a E=>pld ?_)))
 exact qAM ⟨k9,by omega,_,(w64 (x6+1)),by omega,E,.of,S,H⟩
 refine wp_exit ?_
 refine hK4 _ _ (sq fun K27 hK27=>pl0 (plc E (.r 0 1 .nil) (fun a E=>pls E S [iv 0,iv 0,iv 0,iv 0,.bool false,.bool false] fun u28 hb2 S a E=>plc E (.r 2 1 .nil) (fun a E=>pld (hK27 _ _ (wp_ret ?_))))))
 replace S:=S.tail
 obtain rfl:=si H
 exact rtm E (.b hb2 ag96 sz96 (.t .nil)) ⟨_,rfl,_,rfl,S⟩
mutual
def qN.l5:Nat→List qA→List Int→Int→Option Bool
 | 0,_,_,_=>none
 | k+1,x,y,x4=>if x4<(y.length:Int) then (if 0≤x4∧x4<(y.length:Int) then ((qa.f k x (nth 0 y x4)).bind fun t20=>(if t20.2=true then (qN.l31 k x y x4 t20 0) else (some false))) else (none)) else (some true)
def qN.l31:Nat→List qA→List Int→Int→qA × Bool→Int→Option Bool
 | 0,_,_,_,_,_=>none
 | k+1,x,y,x4,t20,x30=>if x30<x4 then (if 0≤x30∧x30<(y.length:Int) then ((qa.f k x (nth 0 y x30)).bind fun t45=>(if t20.1.f1=t45.1.f1 then (some false) else (qN.l31 k x y x4 t20 (w64 (x30+1))))) else (none)) else (qN.l5 k x y (w64 (x4+1)))
end
theorem qN.l5_s k x y x4:type_of% (qN.l5.eq_2 x y x4 k):=qN.l5.eq_2 x y x4 k
theorem qN.l31_s k x y x4 t20 x30:type_of% (qN.l31.eq_2 x y x4 t20 x30 k):=qN.l31.eq_2 x y x4 t20 x30 k
def qN.f(k:Nat)(x:List qA)(y:List Int):Option Bool:=qN.l5 k x y 0
def qN.Post(W F:World)(r:Bool)(v:Value)(w':World):Prop:=∃(F':World),v = .bool r∧Sm W F w' F' []
theorem qN.calls(k:Nat)(x:List qA)(y:List Int)(A0_0:OA)(c0_0:Nat)(A1_0:OA)(c1_0:Nat)(r:Bool)(W F:World)(hown:Sub F W)(g0_0:Rd qA.k F A0_0 c0_0 x)(g1_0:Rd ki F A1_0 c1_0 y)(H:qN.f k x y=some r):
    Cr 38 #[.slice A0_0 x.length c0_0,.slice A1_0 y.length c1_0] W (qN.Post W F r):=by
 have S:=sT hown
 unfold qN.f at H
 refine ent 47 rfl rfl rfl (fun a E=>?_)
 refine rr E fun a E=>(sq fun K2 hK2=>rr E fun a E=>(wp_block ?_))
 refine wp_loop_ghost (fun kq6 a w'=>∃(G:NV)(x4:Int),kq6≤k∧Env 47 G a∧At G [(0,.slice A0_0 x.length c0_0),(1,.slice A1_0 y.length c1_0),(5,iv x4)]∧Sm W F w' F []∧qN.l5 kq6 x y x4=some r) k ⟨_,0,Nat.le_refl _,E,.of,S,H⟩ ?_
 rintro kq6 a u8 ⟨G,x4,hkq,E,A,S,H⟩
 obtain _ | k7:=kq6
 exact zz H
 rw [qN.l5_s]at H
 obtain ⟨J,E⟩:=E.at A
 refine sq fun K9 hK9=>rr E fun a E=>(E.ik 14 H (fun c11 E H=>?_) fun c11 E H=>?_)
 refine wp_skip (hK9 _ _ (sq fun K12 hK12=>wp_block (sq fun K13 hK13=>pl0 ?_)))
 obtain ⟨c14,H⟩:=gd H
 have hE_:=E
 obtain ⟨ad15,rfl⟩:=g1_0.addr c14.1 c14.2
 replace E:=hE_
 obtain ⟨cs17,rfl,hc18⟩:=g1_0.el 0 x4 c14.1 c14.2
 refine plc E (.r 0 3<|.x 3 c14<|.c 4 (S.fc hc18 0)<|.nil) (fun a E=>?_)
 obtain ⟨t20,h21,H⟩:=bd H
 refine plq E S en62 (qa.calls k7 x (nth 0 y x4) _ _ _ _ _ S.own.sub g0_0 h21) fun u19 S a E=>plc E (.r 6 3 .nil) (fun a E=>pla (t:=96) E S [iv 0,iv 0,iv 0,iv 0,.bool false,.bool false] fun b22 u23 hb22 S a E=>pls E S [iv t20.1.f0,iv t20.1.f1,iv t20.1.f2,iv t20.1.f3,.bool t20.1.f4,.bool t20.1.f5] fun u24 hb22 S a E=>plc E (.r 11 1 .nil) (fun a E=>pld (hK13 _ _ (sq fun K25 hK25=>rr E fun a E=>(E.ibn 27 H (fun c27 E H=>?_) fun c27 E H=>?_)))))
 refine wp_skip (hK25 _ _ (rr E fun a E=>(wp_block ?_)))
 refine wp_loop_ghost (fun kq32 a w'=>∃(G:NV)(x30:Int),kq32≤k7∧Env 47 G a∧At G [(0,.slice A0_0 x.length c0_0),(1,.slice (some ad15) y.length c1_0),(5,iv x4),(6,.pointer (pb b22)),(8,iv x30)]∧Sm W F w' F [box b22 #[iv t20.1.f0,iv t20.1.f1,iv t20.1.f2,iv t20.1.f3,.bool t20.1.f4,.bool t20.1.f5] 96]∧qN.l31 kq32 x y x4 t20 x30=some r) k7 ⟨_,0,Nat.le_refl _,E,.of,S,H⟩ ?_
 rintro kq32 a u34 ⟨G,x30,hkq,E,A,S,H⟩
 obtain _ | k33:=kq32
 exact zz H
 rw [qN.l31_s]at H
 obtain ⟨J,E⟩:=E.at A
 refine sq fun K35 hK35=>rr E fun a E=>(E.ik 30 H (fun c37 E H=>?_) fun c37 E H=>?_)
 refine wp_skip (hK35 _ _ (sq fun K38 hK38=>wp_block (sq fun K39 hK39=>pl0 ?_)))
 obtain ⟨c40,H⟩:=gd H
 obtain ⟨cs42,rfl,hc43⟩:=g1_0.el 0 x30 c40.1 c40.2
 refine plc E (.r 0 3<|.x 3 c40<|.c 4 (S.fc hc43 0)<|.nil) (fun a E=>?_)
 obtain ⟨t45,h46,H⟩:=bd H
 refine plq E S en62 (qa.calls k33 x (nth 0 y x30) _ _ _ _ _ S.own.sub g0_0 h46) fun u44 S a E=>plc E (.r 6 3 .nil) (fun a E=>pla (t:=96) E S [iv 0,iv 0,iv 0,iv 0,.bool false,.bool false] fun b47 u48 hb47 S a E=>pls E S [iv t45.1.f0,iv t45.1.f1,iv t45.1.f2,iv t45.1.f3,.bool t45.1.f4,.bool t45.1.f5] fun u49 hb47 S a E=>plc E (.r 11 1 .nil) (fun a E=>pld (hK39 _ _ (rg E (.r 0 1<|.b 1 1 (S.ba 1)<|.r 2 1<|.b 3 1 hb47<|.r 4 1<|.nil) fun a E=>(E.ik 46 H (fun c51 E H=>?_) fun c51 E H=>?_)))))
 refine rr E fun a E=>(wp_ret (qAI (qAH (qAH (qAI (qAI (qAH (qAH (qAI (qAH ?_))))))))))
 replace S:=S.pm [] 2
 obtain rfl:=si H
 exact rt1 E ⟨_,rfl,_,rfl,S⟩
 refine wp_skip ?_
 refine qAL ?_
 refine hK38 _ _ (pl0 (plc E (.r 0 3 .nil) (fun a E=>pld ?_)))
 replace S:=S.tail
 exact qAM ⟨k33,by omega,_,(w64 (x30+1)),by omega,E,.of,S,H⟩
 refine wp_exit ?_
 refine hK12 _ _ (pl0 (plc E (.r 0 3 .nil) (fun a E=>pld ?_)))
 replace S:=S.tail
 exact qAM ⟨k33,by omega,_,(w64 (x4+1)),by omega,E,.of,S,H⟩
 refine rr E fun a E=>(wp_ret (qAH (qAI (qAH (qAH (qAI (qAH ?_)))))))
 replace S:=S.tail
 obtain rfl:=si H
 exact rt1 E ⟨_,rfl,_,rfl,S⟩
 refine wp_exit ?_
 refine hK2 _ _ (rr E fun a E=>(wp_ret ?_))
 obtain rfl:=si H
 exact rt1 E ⟨_,rfl,_,rfl,S⟩
mutual
def qB.l7:Nat→qK→Int→Option Bool
 | 0,_,_=>none
 | k+1,x,x6=>if x6<(x.f6.length:Int) then (if 0≤x6∧x6<(x.f6.length:Int) then (if (nth qC.z x.f6 x6).f0<0 then (qB.j31 k x x6 true) else (qB.j31 k x x6 (decide ((nth qC.z x.f6 x6).f0>x.f0)))) else (none)) else (some ((x.f6.length:Int) == x.f3))
def qB.j31:Nat→qK→Int→Bool→Option Bool
 | 0,_,_,_=>none
 | k+1,x,x6,y30=>if y30=true then (some false) else (qB.l40 k x x6 0)
def qB.l40:Nat→qK→Int→Int→Option Bool
 | 0,_,_,_=>none
 | k+1,x,x6,x39=>if x39<(((nth qC.z x.f6 x6).f1).length:Int) then (if 0≤x39∧x39<(((nth qC.z x.f6 x6).f1).length:Int) then (if (nth qD.z ((nth qC.z x.f6 x6).f1) x39).f0<0 then (qB.j66 k x x6 x39 true) else (if (nth qD.z ((nth qC.z x.f6 x6).f1) x39).f0≥(nth qC.z x.f6 x6).f0 then (qB.j66 k x x6 x39 true) else (if (((nth qD.z ((nth qC.z x.f6 x6).f1) x39).f1).length:Int)<x.f2 then (qB.j66 k x x6 x39 true) else (qB.j66 k x x6 x39 (decide ((((nth qD.z ((nth qC.z x.f6 x6).f1) x39).f1).length:Int)>x.f1)))))) else (none)) else (qB.l7 k x (w64 (x6+1)))
def qB.j66:Nat→qK→Int→Int→Bool→Option Bool
 | 0,_,_,_,_=>none
 | k+1,x,x6,x39,y65=>if y65=true then (some false) else (qB.l76 k x x6 x39 0)
def qB.l76:Nat→qK→Int→Int→Int→Option Bool
 | 0,_,_,_,_=>none
 | k+1,x,x6,x39,x75=>if x75<(((nth qD.z ((nth qC.z x.f6 x6).f1) x39).f1).length:Int) then (if 0≤x75∧x75<(((nth qD.z ((nth qC.z x.f6 x6).f1) x39).f1).length:Int) then (if (nth 0 ((nth qD.z ((nth qC.z x.f6 x6).f1) x39).f1) x75)<1 then (qB.j104 k x x6 x39 x75 true) else (if (nth 0 ((nth qD.z ((nth qC.z x.f6 x6).f1) x39).f1) x75)>999 then (qB.j104 k x x6 x39 x75 true) else (if x75>0 then (if 0≤(w64 (x75 - 1))∧(w64 (x75 - 1))<(((nth qD.z ((nth qC.z x.f6 x6).f1) x39).f1).length:Int) then (qB.j104 k x x6 x39 x75 (decide ((nth 0 ((nth qD.z ((nth qC.z x.f6 x6).f1) x39).f1) (w64 (x75 - 1)))≥(nth 0 ((nth qD.z ((nth qC.z x.f6 x6).f1) x39).f1) x75)))) else (none)) else (qB.j104 k x x6 x39 x75 false)))) else (none)) else (qB.l113 k x x6 x39 0)
def qB.j104:Nat→qK→Int→Int→Int→Bool→Option Bool
 | 0,_,_,_,_,_=>none
 | k+1,x,x6,x39,x75,y103=>if y103=true then (some false) else (qB.l76 k x x6 x39 (w64 (x75+1)))
def qB.l113:Nat→qK→Int→Int→Int→Option Bool
 | 0,_,_,_,_=>none
 | k+1,x,x6,x39,x112=>if x112<x39 then (if 0≤x112∧x112<(((nth qC.z x.f6 x6).f1).length:Int) then (if (nth qD.z ((nth qC.z x.f6 x6).f1) x112).f0≥(nth qD.z ((nth qC.z x.f6 x6).f1) x39).f0 then (qB.j137 k x x6 x39 x112 true) else ((qV.f k ((nth qD.z ((nth qC.z x.f6 x6).f1) x112).f1) ((nth qD.z ((nth qC.z x.f6 x6).f1) x39).f1)).bind fun t134=>(qB.j137 k x x6 x39 x112 t134))) else (none)) else (qB.l40 k x x6 (w64 (x39+1)))
def qB.j137:Nat→qK→Int→Int→Int→Bool→Option Bool
 | 0,_,_,_,_,_=>none
 | k+1,x,x6,x39,x112,y136=>if y136=true then (some false) else (qB.l113 k x x6 x39 (w64 (x112+1)))
end
theorem qB.l7_s k x x6:type_of% (qB.l7.eq_2 x x6 k):=qB.l7.eq_2 x x6 k
theorem qB.j31_s k x x6 y30:type_of% (qB.j31.eq_2 x x6 y30 k):=qB.j31.eq_2 x x6 y30 k
theorem qB.l40_s k x x6 x39:type_of% (qB.l40.eq_2 x x6 x39 k):=qB.l40.eq_2 x x6 x39 k
theorem qB.j66_s k x x6 x39 y65:type_of% (qB.j66.eq_2 x x6 x39 y65 k):=qB.j66.eq_2 x x6 x39 y65 k
theorem qB.l76_s k x x6 x39 x75:type_of% (qB.l76.eq_2 x x6 x39 x75 k):=qB.l76.eq_2 x x6 x39 x75 k
theorem qB.j104_s k x x6 x39 x75 y103:type_of% (qB.j104.eq_2 x x6 x39 x75 y103 k):=qB.j104.eq_2 x x6 x39 x75 y103 k
theorem qB.l113_s k x x6 x39 x112:type_of% (qB.l113.eq_2 x x6 x39 x112 k):=qB.l113.eq_2 x x6 x39 x112 k
theorem qB.j137_s k x x6 x39 x112 y136:type_of% (qB.j137.eq_2 x x6 x39 x112 y136 k):=qB.j137.eq_2 x x6 x39 x112 y136 k
def qB.f(k:Nat)(x:qK):Option Bool:=qB.l7 k x 0
def qB.Post(W F:World)(r:Bool)(v:Value)(w':World):Prop:=∃(F':World),v = .bool r∧Sm W F w' F' []
theorem qB.calls(k:Nat)(x:qK)(A0_4:OA)(c0_4:Nat)(A0_5:OA)(c0_5:Nat)(A0_6:OA)(c0_6:Nat)(r:Bool)(W F:World)(hown:Sub F W)(g0_4:Rd qA.k F A0_4 c0_4 x.f4)(g0_5:Rd qI.k F A0_5 c0_5 x.f5)(g0_6:Rd qC.k F A0_6 c0_6 x.f6)(H:qB.f k x=some r):
    Cr 39 #[.agg #[iv x.f0,iv x.f1,iv x.f2,iv x.f3,.slice A0_4 x.f4.length c0_4,.slice A0_5 x.f5.length c0_5,.slice A0_6 x.f6.length c0_6]] W (qB.Post W F r):=by
 have S:=sT hown
 unfold qB.f at H
 refine ent 139 rfl rfl rfl (fun a E=>?_)
 refine sq fun K1 hK1=>pl0 (plx (t:=65) E S [iv x.f0,iv x.f1,iv x.f2,iv x.f3,.slice A0_4 x.f4.length c0_4,.slice A0_5 x.f5.length c0_5,.slice A0_6 x.f6.length c0_6] fun b2 u3 hb2 S a E=>plc E (.r 1 1 .nil) (fun a E=>pld (hK1 _ _ (sq fun K4 hK4=>rr E fun a E=>(wp_block ?_)))))
 refine wp_loop_ghost (fun kq8 a w'=>∃(G:NV)(x6:Int),kq8≤k∧Env 139 G a∧At G [(1,.pointer (pb b2)),(3,iv x6)]∧Sm W F w' F [box b2 #[iv x.f0,iv x.f1,iv x.f2,iv x.f3,.slice A0_4 x.f4.length c0_4,.slice A0_5 x.f5.length c0_5,.slice A0_6 x.f6.length c0_6] 65]∧qB.l7 kq8 x x6=some r) k ⟨_,0,Nat.le_refl _,E,.of,S,H⟩ ?_
 rintro kq8 a u10 ⟨G,x6,hkq,E,A,S,H⟩
 obtain _ | k9:=kq8
 exact zz H
 rw [qB.l7_s]at H
 obtain ⟨J,E⟩:=E.at A
 refine sq fun K11 hK11=>sq fun K12 hK12=>pl0 ?_
 have hb2:=S.ba 0
 refine plc E (.r 0 2<|.b 2 6 hb2<|.r 3 2<|.nil) (fun a E=>pld (hK12 _ _ (E.ik 13 H (fun c13 E H=>?_) fun c13 E H=>?_)))
 refine wp_skip (hK11 _ _ (sq fun K14 hK14=>wp_block (sq fun K15 hK15=>pl0 ?_)))
 obtain ⟨c16,H⟩:=gd H
 have hE_:=E
 obtain ⟨ad17,rfl⟩:=g0_6.addr c16.1 c16.2
 replace E:=hE_
 obtain ⟨cs19,⟨A21,c22,rfl,g23⟩,hc20⟩:=g0_6.el qC.z x6 c16.1 c16.2
 refine plc E (.r 0 1<|.b 1 6 hb2<|.r 2 1<|.x 3 c16<|.cs 4 (S.fcs hc20)<|.nil) (fun a E=>pla (t:=90) E S [iv 0,.slice none 0 0] fun b24 u25 hb24 S a E=>pls E S [iv ((nth qC.z x.f6 x6).f0),.slice A21 (((nth qC.z x.f6 x6).f1).length) c22] fun u26 hb24 S a E=>pld (hK15 _ _ (sq fun K27 hK27=>sq fun K28 hK28=>?_)))
 have J34:∀ kq32,kq32≤k9→∀(G:NV)(y30:Bool)(a:Act)(w':World),Env 139 G a→At G [(1,.pointer (pb b2)),(3,iv x6),(4,.pointer (pb b24)),(30,.bool y30)]→Sm W F w' F [box b24 #[iv ((nth qC.z x.f6 x6).f0),.slice A21 (((nth qC.z x.f6 x6).f1).length) c22] 90,box b2 #[iv x.f0,iv x.f1,iv x.f2,iv x.f3,.slice A0_4 x.f4.length c0_4,.slice A0_5 x.f5.length c0_5,.slice (some ad17) x.f6.length c0_6] 65]→qB.j31 kq32 x x6 y30=some r→K28 a w':=by
  intro kq32 hkq G y30 a u35 E A S H
  obtain _ | k33:=kq32
  exact zz H
  rw [qB.j31_s]at H
  obtain ⟨J,E⟩:=E.at A
  refine hK28 _ _ (E.ib 30 H (fun c36 E H=>?_) fun c36 E H=>?_)
  refine rr E fun a E=>(wp_ret (qAH (qAI (qAH (qAH (qAI (qAH ?_)))))))
  replace S:=S.pm [] 2
  obtain rfl:=si H
  exact rt1 E ⟨_,rfl,_,rfl,S⟩
  refine wp_skip (hK27 _ _ (rr E fun a E=>(wp_block ?_)))
  refine wp_loop_ghost (fun kq41 a w'=>∃(G:NV)(x39:Int),kq41≤k33∧Env 139 G a∧At G [(1,.pointer (pb b2)),(3,iv x6),(4,.pointer (pb b24)),(5,iv x39)]∧Sm W F w' F [box b24 #[iv ((nth qC.z x.f6 x6).f0),.slice A21 (((nth qC.z x.f6 x6).f1).length) c22] 90,box b2 #[iv x.f0,iv x.f1,iv x.f2,iv x.f3,.slice A0_4 x.f4.length c0_4,.slice A0_5 x.f5.length c0_5,.slice (some ad17) x.f6.length c0_6] 65]∧qB.l40 kq41 x x6 x39=some r) k33 ⟨_,0,Nat.le_refl _,E,.of,S,H⟩ ?_
  rintro kq41 a u43 ⟨G,x39,hkq,E,A,S,H⟩
  obtain _ | k42:=kq41
  exact zz H
  rw [qB.l40_s]at H
  obtain ⟨J,E⟩:=E.at A
  refine sq fun K44 hK44=>sq fun K45 hK45=>pl0 ?_
  have hb24:=S.ba 0
  refine plc E (.r 0 2<|.b 2 1 hb24<|.r 3 2<|.nil) (fun a E=>pld (hK45 _ _ (E.ik 35 H (fun c46 E H=>?_) fun c46 E H=>?_)))
  refine wp_skip (hK44 _ _ (sq fun K47 hK47=>wp_block (sq fun K48 hK48=>pl0 ?_)))
  obtain ⟨c49,H⟩:=gd H
  have hE_:=E
  obtain ⟨ad50,rfl⟩:=g23.addr c49.1 c49.2
  replace E:=hE_
  obtain ⟨cs52,⟨A54,c55,rfl,g56⟩,hc53⟩:=g23.el qD.z x39 c49.1 c49.2
  refine plc E (.r 0 1<|.b 1 1 hb24<|.r 2 1<|.x 3 c49<|.cs 4 (S.fcs hc53)<|.nil) (fun a E=>pla (t:=92) E S [iv 0,.slice none 0 0] fun b57 u58 hb57 S a E=>pls E S [iv ((nth qD.z ((nth qC.z x.f6 x6).f1) x39).f0),.slice A54 (((nth qD.z ((nth qC.z x.f6 x6).f1) x39).f1).length) c55] fun u59 hb57 S a E=>pld (hK48 _ _ (sq fun K60 hK60=>sq fun K61 hK61=>?_)))
  have J69:∀ kq67,kq67≤k42→∀(G:NV)(y65:Bool)(a:Act)(w':World),Env 139 G a→At G [(1,.pointer (pb b2)),(3,iv x6),(4,.pointer (pb b24)),(5,iv x39),(6,.pointer (pb b57)),(68,.bool y65)]→Sm W F w' F [box b57 #[iv ((nth qD.z ((nth qC.z x.f6 x6).f1) x39).f0),.slice A54 (((nth qD.z ((nth qC.z x.f6 x6).f1) x39).f1).length) c55] 92,box b24 #[iv ((nth qC.z x.f6 x6).f0),.slice (some ad50) (((nth qC.z x.f6 x6).f1).length) c22] 90,box b2 #[iv x.f0,iv x.f1,iv x.f2,iv x.f3,.slice A0_4 x.f4.length c0_4,.slice A0_5 x.f5.length c0_5,.slice (some ad17) x.f6.length c0_6] 65]→qB.j66 kq67 x x6 x39 y65=some r→K61 a w':=by
   intro kq67 hkq G y65 a u70 E A S H
   obtain _ | k68:=kq67
   exact zz H
   rw [qB.j66_s]at H
   obtain ⟨J,E⟩:=E.at A
   refine hK61 _ _ (E.ib 68 H (fun c71 E H=>?_) fun c71 E H=>?_)
   refine rr E fun a E=>(wp_ret (qAH (qAI (qAH (qAH (qAI (qAI (qAH (qAH (qAI (qAH ?_)))))))))))
   replace S:=S.pm [] 3
   obtain rfl:=si H
   exact rt1 E ⟨_,rfl,_,rfl,S⟩
   refine wp_skip (hK60 _ _ (sq fun K73 hK73=>rr E fun a E=>(wp_block ?_)))
   refine wp_loop_ghost (fun kq77 a w'=>∃(G:NV)(x75:Int),kq77≤k68∧Env 139 G a∧At G [(1,.pointer (pb b2)),(3,iv x6),(4,.pointer (pb b24)),(5,iv x39),(6,.pointer (pb b57)),(7,iv x75)]∧Sm W F w' F [box b57 #[iv ((nth qD.z ((nth qC.z x.f6 x6).f1) x39).f0),.slice A54 (((nth qD.z ((nth qC.z x.f6 x6).f1) x39).f1).length) c55] 92,box b24 #[iv ((nth qC.z x.f6 x6).f0),.slice (some ad50) (((nth qC.z x.f6 x6).f1).length) c22] 90,box b2 #[iv x.f0,iv x.f1,iv x.f2,iv x.f3,.slice A0_4 x.f4.length c0_4,.slice A0_5 x.f5.length c0_5,.slice (some ad17) x.f6.length c0_6] 65]∧qB.l76 kq77 x x6 x39 x75=some r) k68 ⟨_,0,Nat.le_refl _,E,.of,S,H⟩ ?_
   rintro kq77 a u79 ⟨G,x75,hkq,E,A,S,H⟩
   obtain _ | k78:=kq77
   exact zz H
   rw [qB.l76_s]at H
   obtain ⟨J,E⟩:=E.at A
   refine sq fun K80 hK80=>sq fun K81 hK81=>pl0 ?_
   have hb57:=S.ba 0
   refine plc E (.r 0 2<|.b 2 1 hb57<|.r 3 2<|.nil) (fun a E=>pld (hK81 _ _ (E.ik 73 H (fun c82 E H=>?_) fun c82 E H=>?_)))
   refine wp_skip (hK80 _ _ (sq fun K83 hK83=>wp_block (sq fun K84 hK84=>?_)))
   have J107:∀ kq105,kq105≤k78→∀(G:NV)(y103:Bool)(a:Act)(w':World),Env 139 G a→At G [(1,.pointer (pb b2)),(3,iv x6),(4,.pointer (pb b24)),(5,iv x39),(6,.pointer (pb b57)),(7,iv x75),(107,.bool y103)]→Sm W F w' F [box b57 #[iv ((nth qD.z ((nth qC.z x.f6 x6).f1) x39).f0),.slice A54 (((nth qD.z ((nth qC.z x.f6 x6).f1) x39).f1).length) c55] 92,box b24 #[iv ((nth qC.z x.f6 x6).f0),.slice (some ad50) (((nth qC.z x.f6 x6).f1).length) c22] 90,box b2 #[iv x.f0,iv x.f1,iv x.f2,iv x.f3,.slice A0_4 x.f4.length c0_4,.slice A0_5 x.f5.length c0_5,.slice (some ad17) x.f6.length c0_6] 65]→qB.j104 kq105 x x6 x39 x75 y103=some r→K84 a w':=by
    intro kq105 hkq G y103 a u108 E A S H
    obtain _ | k106:=kq105
    exact zz H
    rw [qB.j104_s]at H
    obtain ⟨J,E⟩:=E.at A
    refine hK84 _ _ (E.ib 107 H (fun c109 E H=>?_) fun c109 E H=>?_)
    refine rr E fun a E=>(wp_ret (qAI (qAH (qAH (qAI (qAH (qAI (qAH (qAH (qAI (qAI (qAH (qAH (qAI (qAH ?_)))))))))))))))
    replace S:=S.pm [] 3
    obtain rfl:=si H
    exact rt1 E ⟨_,rfl,_,rfl,S⟩
    refine wp_skip ?_
    refine qAL ?_
    refine hK83 _ _ (pl0 (plc E (.r 0 3 .nil) (fun a E=>pld ?_)))
    exact qAM ⟨k106,by omega,_,(w64 (x75+1)),by omega,E,.of,S,H⟩
   refine drawn 32 ⟨[],[],fun q=>False⟩ mixed rfl (by kernel_rfl) (fun hst=>?_)
   replace S:=S.drew
   have hb57:=S.ba 0
   obtain ⟨c85,H⟩:=gd H
   have hE_:=E
   obtain ⟨ad86,rfl⟩:=g56.addr c85.1 c85.2
   replace E:=hE_
   obtain ⟨cs88,rfl,hc89⟩:=g56.el 0 x75 c85.1 c85.2
   refine mny 25 hst E (.r 0 1<|.b 1 1 hb57<|.r 2 1<|.x 3 c85<|.c 4 (S.fc hc89 0)<|.r 5 2<|.nil) (fun a E=>?_)
   refine E.fk 82 H (fun c90 E H=>?_) fun c90 E H=>?_
   refine mny 0 hst E (.r 7 25 .nil) (fun a E=>?_)
   refine dn ?_
   exact J107 _ (by omega) _ true _ _ E .of S H
   refine mny 17 hst E (.r 7 1<|.b 8 1 hb57<|.r 9 1<|.x 10 c85<|.c 11 (S.fc hc89 0)<|.r 12 3<|.nil) (fun a E=>?_)
   refine E.fk 90 H (fun c94 E H=>?_) fun c94 E H=>?_
   refine mny 0 hst E (.r 15 17 .nil) (fun a E=>?_)
   refine dn ?_
   exact J107 _ (by omega) _ true _ _ E .of S H
   refine mny 14 hst E (.r 15 3 .nil) (fun a E=>?_)
   refine E.fk 93 H (fun c95 E H=>?_) fun c95 E H=>?_
   obtain ⟨c96,H⟩:=gd H
   obtain ⟨cs98,rfl,hc99⟩:=g56.el 0 (w64 (x75 - 1)) c96.1 c96.2
   refine mny 0 hst E (.r 18 1<|.b 19 1 hb57<|.r 20 2<|.x 22 c96<|.c 23 (S.fc hc99 0)<|.r 24 1<|.b 25 1 hb57<|.r 26 1<|.x 27 c85<|.c 28 (S.fc hc89 0)<|.r 29 3<|.nil) (fun a E=>?_)
   refine dn ?_
   exact J107 _ (by omega) _ (decide ((nth 0 ((nth qD.z ((nth qC.z x.f6 x6).f1) x39).f1) (w64 (x75 - 1)))≥(nth 0 ((nth qD.z ((nth qC.z x.f6 x6).f1) x39).f1) x75))) _ _ E .of S H
   refine mny 0 hst E (.r 18 14 .nil) (fun a E=>?_)
   refine dn ?_
   exact J107 _ (by omega) _ false _ _ E .of S H
   refine wp_exit ?_
   refine hK73 _ _ (rr E fun a E=>(wp_block ?_))
   refine wp_loop_ghost (fun kq114 a w'=>∃(G:NV)(x112:Int),kq114≤k78∧Env 139 G a∧At G [(1,.pointer (pb b2)),(3,iv x6),(4,.pointer (pb b24)),(5,iv x39),(6,.pointer (pb b57)),(8,iv x112)]∧Sm W F w' F [box b57 #[iv ((nth qD.z ((nth qC.z x.f6 x6).f1) x39).f0),.slice A54 (((nth qD.z ((nth qC.z x.f6 x6).f1) x39).f1).length) c55] 92,box b24 #[iv ((nth qC.z x.f6 x6).f0),.slice (some ad50) (((nth qC.z x.f6 x6).f1).length) c22] 90,box b2 #[iv x.f0,iv x.f1,iv x.f2,iv x.f3,.slice A0_4 x.f4.length c0_4,.slice A0_5 x.f5.length c0_5,.slice (some ad17) x.f6.length c0_6] 65]∧qB.l113 kq114 x x6 x39 x112=some r) k78 ⟨_,0,Nat.le_refl _,E,.of,S,H⟩ ?_
   rintro kq114 a u116 ⟨G,x112,hkq,E,A,S,H⟩
   obtain _ | k115:=kq114
   exact zz H
   rw [qB.l113_s]at H
   obtain ⟨J,E⟩:=E.at A
   refine sq fun K117 hK117=>rr E fun a E=>(E.ik 110 H (fun c119 E H=>?_) fun c119 E H=>?_)
   refine wp_skip (hK117 _ _ (sq fun K120 hK120=>wp_block (sq fun K121 hK121=>?_)))
   have J140:∀ kq138,kq138≤k115→∀(G:NV)(y136:Bool)(a:Act)(w':World),Env 139 G a→At G [(1,.pointer (pb b2)),(3,iv x6),(4,.pointer (pb b24)),(5,iv x39),(6,.pointer (pb b57)),(8,iv x112),(132,.bool y136)]→Sm W F w' F [box b57 #[iv ((nth qD.z ((nth qC.z x.f6 x6).f1) x39).f0),.slice A54 (((nth qD.z ((nth qC.z x.f6 x6).f1) x39).f1).length) c55] 92,box b24 #[iv ((nth qC.z x.f6 x6).f0),.slice (some ad50) (((nth qC.z x.f6 x6).f1).length) c22] 90,box b2 #[iv x.f0,iv x.f1,iv x.f2,iv x.f3,.slice A0_4 x.f4.length c0_4,.slice A0_5 x.f5.length c0_5,.slice (some ad17) x.f6.length c0_6] 65]→qB.j137 kq138 x x6 x39 x112 y136=some r→K121 a w':=by
    intro kq138 hkq G y136 a u141 E A S H
    obtain _ | k139:=kq138
    exact zz H
    rw [qB.j137_s]at H
    obtain ⟨J,E⟩:=E.at A
    refine hK121 _ _ (E.ib 132 H (fun c142 E H=>?_) fun c142 E H=>?_)
    refine rr E fun a E=>(wp_ret (qAI (qAH (qAH (qAI (qAI (qAH (qAH (qAI (qAI (qAH (qAH (qAI (qAH ?_))))))))))))))
    replace S:=S.pm [] 3
    obtain rfl:=si H
    exact rt1 E ⟨_,rfl,_,rfl,S⟩
    refine wp_skip ?_
    refine qAL ?_
    refine hK120 _ _ (pl0 (plc E (.r 0 3 .nil) (fun a E=>pld ?_)))
    exact qAM ⟨k139,by omega,_,(w64 (x112+1)),by omega,E,.of,S,H⟩
   refine drawn 20 ⟨[],[],fun q=>False⟩ mixed rfl (by kernel_rfl) (fun hst=>?_)
   replace S:=S.drew
   have hb24:=S.ba 1
   obtain ⟨c122,H⟩:=gd H
   obtain ⟨cs124,⟨A126,c127,rfl,g128⟩,hc125⟩:=g23.el qD.z x112 c122.1 c122.2
   have hb57:=S.ba 0
   refine mny 10 hst E (.r 0 1<|.b 1 1 hb24<|.r 2 1<|.x 3 c122<|.r 4 1<|.c 5 (S.fc hc125 0)<|.r 6 1<|.b 7 0 hb57<|.r 8 2<|.nil) (fun a E=>?_)
   refine E.fk 122 H (fun c129 E H=>?_) fun c129 E H=>?_
   refine mny 0 hst E (.r 10 10 .nil) (fun a E=>?_)
   refine dn ?_
   exact J140 _ (by omega) _ true _ _ E .of S H
   refine mny 2 hst E (.r 10 1<|.b 11 1 hb24<|.r 12 1<|.x 13 c122<|.r 14 1<|.c 15 (S.fc hc125 1)<|.r 16 1<|.b 17 1 hb57<|.nil) (fun a E=>?_)
   obtain ⟨t134,h135,H⟩:=bd H
   refine on1 18 E (.cl en31 (qV.calls k115 ((nth qD.z ((nth qC.z x.f6 x6).f1) x112).f1) ((nth qD.z ((nth qC.z x.f6 x6).f1) x39).f1) _ _ _ _ _ _ _ S.own.sub g128 g56 h135)) ?_
   rintro _ u133 a ⟨_,rfl,hC⟩ E
   refine ⟨.of hC.agr,?_⟩
   replace S:=S.lent hC
   refine mny 0 hst E (.r 19 1 .nil) (fun a E=>?_)
   refine dn ?_
   exact J140 _ (by omega) _ t134 _ _ E .of S H
   refine wp_exit ?_
   refine hK47 _ _ (pl0 (plc E (.r 0 3 .nil) (fun a E=>pld ?_)))
   replace S:=S.tail
   exact qAM ⟨k115,by omega,_,(w64 (x39+1)),by omega,E,.of,S,H⟩
  refine pl0 (plc E (.r 0 1<|.b 1 0 hb57<|.r 2 2<|.nil) (fun a E=>E.fk 46 H (fun c62 E H=>?_) fun c62 E H=>?_))
  refine plc E (.r 4 22 .nil) (fun a E=>pld ?_)
  exact J69 _ (by omega) _ true _ _ E .of S H
  refine plc E (.r 4 1<|.b 5 0 hb57<|.r 6 1<|.b 7 0 (S.ba 1)<|.r 8 3<|.nil) (fun a E=>E.fk 53 H (fun c63 E H=>?_) fun c63 E H=>?_)
  refine plc E (.r 11 15 .nil) (fun a E=>pld ?_)
  exact J69 _ (by omega) _ true _ _ E .of S H
  have hb2:=S.ba 2
  refine plc E (.r 11 1<|.b 12 1 hb57<|.r 13 2<|.b 15 2 hb2<|.r 16 3<|.nil) (fun a E=>E.fk 61 H (fun c64 E H=>?_) fun c64 E H=>?_)
  refine plc E (.r 19 7 .nil) (fun a E=>pld ?_)
  exact J69 _ (by omega) _ true _ _ E .of S H
  refine plc E (.r 19 1<|.b 20 1 hb57<|.r 21 2<|.b 23 1 hb2<|.r 24 2<|.nil) (fun a E=>pld ?_)
  exact J69 _ (by omega) _ (decide ((((nth qD.z ((nth qC.z x.f6 x6).f1) x39).f1).length:Int)>x.f1)) _ _ E .of S H
  refine wp_exit ?_
  refine hK14 _ _ (pl0 (plc E (.r 0 3 .nil) (fun a E=>pld ?_)))
  replace S:=S.tail
  exact qAM ⟨k42,by omega,_,(w64 (x6+1)),by omega,E,.of,S,H⟩
 refine pl0 (plc E (.r 0 1<|.b 1 0 hb24<|.r 2 2<|.nil) (fun a E=>E.fk 24 H (fun c29 E H=>?_) fun c29 E H=>?_))
 refine plc E (.r 4 6 .nil) (fun a E=>pld ?_)
 exact J34 _ (by omega) _ true _ _ E .of S H
 refine plc E (.r 4 1<|.b 5 0 hb24<|.r 6 1<|.b 7 0 (S.ba 1)<|.r 8 2<|.nil) (fun a E=>pld ?_)
 exact J34 _ (by omega) _ (decide ((nth qC.z x.f6 x6).f0>x.f0)) _ _ E .of S H
 refine wp_exit ?_
 refine hK4 _ _ (rg E (.r 0 1<|.b 1 6 hb2<|.r 2 2<|.b 4 3 hb2<|.r 5 2<|.nil) fun a E=>(wp_ret ?_))
 replace S:=S.tail
 obtain rfl:=si H
 exact rt1 E ⟨_,rfl,_,rfl,S⟩
mutual
def qJ.j18:Nat→qK→Bool→Option Bool
 | 0,_,_=>none
 | k+1,x,y17=>if y17=true then (some false) else (qJ.l28 k x 0)
def qJ.l28:Nat→qK→Int→Option Bool
 | 0,_,_=>none
 | k+1,x,x27=>if x27<(x.f5.length:Int) then (if 0≤x27∧x27<(x.f5.length:Int) then (if (nth qI.z x.f5 x27).f0<0 then (qJ.j71 k x x27 true) else (if (nth qI.z x.f5 x27).f0≥x.f3 then (qJ.j71 k x x27 true) else (if x27>0 then (if 0≤(w64 (x27 - 1))∧(w64 (x27 - 1))<(x.f5.length:Int) then (if (nth qI.z x.f5 (w64 (x27 - 1))).f0≥(nth qI.z x.f5 x27).f0 then (qJ.j71 k x x27 true) else (if (((nth qI.z x.f5 x27).f1).length:Int)<1 then (qJ.j71 k x x27 true) else (if (((nth qI.z x.f5 x27).f1).length:Int)>x.f1 then (qJ.j71 k x x27 true) else ((qN.f k x.f4 ((nth qI.z x.f5 x27).f1)).bind fun t63=>(qJ.j71 k x x27 (!t63)))))) else (none)) else (if (((nth qI.z x.f5 x27).f1).length:Int)<1 then (qJ.j71 k x x27 true) else (if (((nth qI.z x.f5 x27).f1).length:Int)>x.f1 then (qJ.j71 k x x27 true) else ((qN.f k x.f4 ((nth qI.z x.f5 x27).f1)).bind fun t68=>(qJ.j71 k x x27 (!t68)))))))) else (none)) else ((qB.f k x).bind fun t80=>(some t80))
def qJ.j71:Nat→qK→Int→Bool→Option Bool
 | 0,_,_,_=>none
 | k+1,x,x27,y70=>if y70=true then (some false) else (qJ.l28 k x (w64 (x27+1)))
end
theorem qJ.j18_s k x y17:type_of% (qJ.j18.eq_2 x y17 k):=qJ.j18.eq_2 x y17 k
theorem qJ.l28_s k x x27:type_of% (qJ.l28.eq_2 x x27 k):=qJ.l28.eq_2 x x27 k
theorem qJ.j71_s k x x27 y70:type_of% (qJ.j71.eq_2 x x27 y70 k):=qJ.j71.eq_2 x x27 y70 k
def qJ.f(k:Nat)(x:qK):Option Bool:=if x.f0<0 then (qJ.j18 k x true) else (if x.f0≥2147483648 then (qJ.j18 k x true) else (if x.f1<1 then (qJ.j18 k x true) else (if x.f1>3 then (qJ.j18 k x true) else (if x.f2<1 then (qJ.j18 k x true) else (if x.f2>x.f1 then (qJ.j18 k x true) else (if x.f3<1 then (qJ.j18 k x true) else (if x.f3>8 then (qJ.j18 k x true) else ((qO.f k x.f4).bind fun t15=>(qJ.j18 k x (!t15))))))))))
def qJ.Post(W F:World)(r:Bool)(v:Value)(w':World):Prop:=∃(F':World),v = .bool r∧Sm W F w' F' []
theorem qJ.calls(k:Nat)(x:qK)(A0_4:OA)(c0_4:Nat)(A0_5:OA)(c0_5:Nat)(A0_6:OA)(c0_6:Nat)(r:Bool)(W F:World)(hown:Sub F W)(g0_4:Rd qA.k F A0_4 c0_4 x.f4)(g0_5:Rd qI.k F A0_5 c0_5 x.f5)(g0_6:Rd qC.k F A0_6 c0_6 x.f6)(H:qJ.f k x=some r):
    Cr 18 #[.agg #[iv x.f0,iv x.f1,iv x.f2,iv x.f3,.slice A0_4 x.f4.length c0_4,.slice A0_5 x.f5.length c0_5,.slice A0_6 x.f6.length c0_6]] W (qJ.Post W F r):=by
 have S:=sT hown
 unfold qJ.f at H
 refine ent 113 rfl rfl rfl (fun a E=>?_)
 refine sq fun K1 hK1=>pl0 (plx (t:=65) E S [iv x.f0,iv x.f1,iv x.f2,iv x.f3,.slice A0_4 x.f4.length c0_4,.slice A0_5 x.f5.length c0_5,.slice A0_6 x.f6.length c0_6] fun b2 u3 hb2 S a E=>plc E (.r 1 1 .nil) (fun a E=>pld (hK1 _ _ (sq fun K4 hK4=>sq fun K5 hK5=>?_))))
 have J21:∀ kq19,kq19≤k→∀(G:NV)(y17:Bool)(a:Act)(w':World),Env 113 G a→At G [(1,.pointer (pb b2)),(50,.bool y17)]→Sm W F w' F [box b2 #[iv x.f0,iv x.f1,iv x.f2,iv x.f3,.slice A0_4 x.f4.length c0_4,.slice A0_5 x.f5.length c0_5,.slice A0_6 x.f6.length c0_6] 65]→qJ.j18 kq19 x y17=some r→K5 a w':=by
  intro kq19 hkq G y17 a u22 E A S H
  obtain _ | k20:=kq19
  exact zz H
  rw [qJ.j18_s]at H
  obtain ⟨J,E⟩:=E.at A
  refine hK5 _ _ (E.ib 50 H (fun c23 E H=>?_) fun c23 E H=>?_)
  refine rr E fun a E=>(wp_ret (qAH ?_))
  replace S:=S.tail
  obtain rfl:=si H
  exact rt1 E ⟨_,rfl,_,rfl,S⟩
  refine wp_skip (hK4 _ _ (sq fun K25 hK25=>rr E fun a E=>(wp_block ?_)))
  refine wp_loop_ghost (fun kq29 a w'=>∃(G:NV)(x27:Int),kq29≤k20∧Env 113 G a∧At G [(1,.pointer (pb b2)),(3,iv x27)]∧Sm W F w' F [box b2 #[iv x.f0,iv x.f1,iv x.f2,iv x.f3,.slice A0_4 x.f4.length c0_4,.slice A0_5 x.f5.length c0_5,.slice A0_6 x.f6.length c0_6] 65]∧qJ.l28 kq29 x x27=some r) k20 ⟨_,0,Nat.le_refl _,E,.of,S,H⟩ ?_
  rintro kq29 a u31 ⟨G,x27,hkq,E,A,S,H⟩
  obtain _ | k30:=kq29
  exact zz H
  rw [qJ.l28_s]at H
  obtain ⟨J,E⟩:=E.at A
  refine sq fun K32 hK32=>sq fun K33 hK33=>pl0 ?_
  have hb2:=S.ba 0
  refine plc E (.r 0 2<|.b 2 5 hb2<|.r 3 2<|.nil) (fun a E=>pld (hK33 _ _ (E.ik 55 H (fun c34 E H=>?_) fun c34 E H=>?_)))
  refine wp_skip (hK32 _ _ (sq fun K35 hK35=>wp_block (sq fun K36 hK36=>pl0 ?_)))
  obtain ⟨c37,H⟩:=gd H
  have hE_:=E
  obtain ⟨ad38,rfl⟩:=g0_5.addr c37.1 c37.2
  replace E:=hE_
  obtain ⟨cs40,⟨A42,c43,rfl,g44⟩,hc41⟩:=g0_5.el qI.z x27 c37.1 c37.2
  refine plc E (.r 0 1<|.b 1 5 hb2<|.r 2 1<|.x 3 c37<|.cs 4 (S.fcs hc41)<|.nil) (fun a E=>pla (t:=87) E S [iv 0,.slice none 0 0] fun b45 u46 hb45 S a E=>pls E S [iv ((nth qI.z x.f5 x27).f0),.slice A42 (((nth qI.z x.f5 x27).f1).length) c43] fun u47 hb45 S a E=>pld (hK36 _ _ (sq fun K48 hK48=>?_)))
  have J74:∀ kq72,kq72≤k30→∀(G:NV)(y70:Bool)(a:Act)(w':World),Env 113 G a→At G [(1,.pointer (pb b2)),(3,iv x27),(110,.bool y70)]→Sm W F w' F [box b45 #[iv ((nth qI.z x.f5 x27).f0),.slice A42 (((nth qI.z x.f5 x27).f1).length) c43] 87,box b2 #[iv x.f0,iv x.f1,iv x.f2,iv x.f3,.slice A0_4 x.f4.length c0_4,.slice (some ad38) x.f5.length c0_5,.slice A0_6 x.f6.length c0_6] 65]→qJ.j71 kq72 x x27 y70=some r→K48 a w':=by
   intro kq72 hkq G y70 a u75 E A S H
   obtain _ | k73:=kq72
   exact zz H
   rw [qJ.j71_s]at H
   obtain ⟨J,E⟩:=E.at A
   refine hK48 _ _ (E.ib 110 H (fun c76 E H=>?_) fun c76 E H=>?_)
   refine rr E fun a E=>(wp_ret (qAI (qAH (qAH (qAI (qAH ?_))))))
   replace S:=S.pm [] 2
   obtain rfl:=si H
   exact rt1 E ⟨_,rfl,_,rfl,S⟩
   refine wp_skip ?_
   refine qAL ?_
   refine hK35 _ _ (pl0 (plc E (.r 0 3 .nil) (fun a E=>pld ?_)))
   replace S:=S.tail
   exact qAM ⟨k73,by omega,_,(w64 (x27+1)),by omega,E,.of,S,H⟩
  refine drawn 48 ⟨[],[],fun q=>False⟩ mixed rfl (by kernel_rfl) (fun hst=>?_)
  replace S:=S.drew
  have hb45:=S.ba 0
  refine mny 44 hst E (.r 0 1<|.b 1 0 hb45<|.r 2 2<|.nil) (fun a E=>?_)
  refine E.fk 66 H (fun c49 E H=>?_) fun c49 E H=>?_
  refine mny 0 hst E (.r 4 44 .nil) (fun a E=>?_)
  refine dn ?_
  exact J74 _ (by omega) _ true _ _ E .of S H
  have hb2:=S.ba 1
  refine mny 37 hst E (.r 4 1<|.b 5 0 hb45<|.r 6 1<|.b 7 3 hb2<|.r 8 3<|.nil) (fun a E=>?_)
  refine E.fk 73 H (fun c50 E H=>?_) fun c50 E H=>?_
  refine mny 0 hst E (.r 11 37 .nil) (fun a E=>?_)
  refine dn ?_
  exact J74 _ (by omega) _ true _ _ E .of S H
  refine mny 34 hst E (.r 11 3 .nil) (fun a E=>?_)
  refine E.fk 76 H (fun c51 E H=>?_) fun c51 E H=>?_
  obtain ⟨c52,H⟩:=gd H
  obtain ⟨cs54,⟨A56,c57,rfl,g58⟩,hc55⟩:=g0_5.el qI.z (w64 (x27 - 1)) c52.1 c52.2
  refine mny 21 hst E (.r 14 1<|.b 15 5 hb2<|.r 16 2<|.x 18 c52<|.r 19 1<|.c 20 (S.fc hc55 0)<|.r 21 1<|.b 22 0 hb45<|.r 23 4<|.nil) (fun a E=>?_)
  refine E.fk 89 H (fun c59 E H=>?_) fun c59 E H=>?_
  refine mny 0 hst E (.r 27 21 .nil) (fun a E=>?_)
  refine dn ?_
  exact J74 _ (by omega) _ true _ _ E .of S H
  refine mny 15 hst E (.r 27 1<|.b 28 1 hb45<|.r 29 4<|.nil) (fun a E=>?_)
  refine E.fk 95 H (fun c60 E H=>?_) fun c60 E H=>?_
  refine mny 0 hst E (.r 33 15 .nil) (fun a E=>?_)
  refine dn ?_
  exact J74 _ (by omega) _ true _ _ E .of S H
  refine mny 7 hst E (.r 33 1<|.b 34 1 hb45<|.r 35 2<|.b 37 1 hb2<|.r 38 3<|.nil) (fun a E=>?_)
  refine E.fk 103 H (fun c61 E H=>?_) fun c61 E H=>?_
  refine mny 0 hst E (.r 41 7 .nil) (fun a E=>?_)
  refine dn ?_
  exact J74 _ (by omega) _ true _ _ E .of S H
  refine mny 3 hst E (.r 41 1<|.b 42 4 hb2<|.r 43 1<|.b 44 1 hb45<|.nil) (fun a E=>?_)
  obtain ⟨t63,h64,H⟩:=bd H
  refine on1 45 E (.cl en38 (qN.calls k30 x.f4 ((nth qI.z x.f5 x27).f1) _ _ _ _ _ _ _ S.own.sub g0_4 g44 h64)) ?_
  rintro _ u62 a ⟨_,rfl,hC⟩ E
  refine ⟨.of hC.agr,?_⟩
  replace S:=S.lent hC
  refine mny 0 hst E (.r 46 2 .nil) (fun a E=>?_)
  refine dn ?_
  exact J74 _ (by omega) _ (!t63) _ _ E .of S H
  refine mny 15 hst E (.r 14 14<|.b 28 1 hb45<|.r 29 4<|.nil) (fun a E=>?_)
  refine E.fk 95 H (fun c65 E H=>?_) fun c65 E H=>?_
  refine mny 0 hst E (.r 33 15 .nil) (fun a E=>?_)
  refine dn ?_
  exact J74 _ (by omega) _ true _ _ E .of S H
  refine mny 7 hst E (.r 33 1<|.b 34 1 hb45<|.r 35 2<|.b 37 1 hb2<|.r 38 3<|.nil) (fun a E=>?_)
  refine E.fk 103 H (fun c66 E H=>?_) fun c66 E H=>?_
  refine mny 0 hst E (.r 41 7 .nil) (fun a E=>?_)
  refine dn ?_
  exact J74 _ (by omega) _ true _ _ E .of S H
  refine mny 3 hst E (.r 41 1<|.b 42 4 hb2<|.r 43 1<|.b 44 1 hb45<|.nil) (fun a E=>?_)
  obtain ⟨t68,h69,H⟩:=bd H
  refine on1 45 E (.cl en38 (qN.calls k30 x.f4 ((nth qI.z x.f5 x27).f1) _ _ _ _ _ _ _ S.own.sub g0_4 g44 h69)) ?_
  rintro _ u67 a ⟨_,rfl,hC⟩ E
  refine ⟨.of hC.agr,?_⟩
  replace S:=S.lent hC
  refine mny 0 hst E (.r 46 2 .nil) (fun a E=>?_)
  refine dn ?_
  exact J74 _ (by omega) _ (!t68) _ _ E .of S H
  refine wp_exit ?_
  refine hK25 _ _ (sq fun K78 hK78=>pl0 (plc E (.bn 0 0 7 hb2 .nil) (fun a E=>?_)))
  obtain ⟨t80,h81,H⟩:=bd H
  refine plq E S en39 (qB.calls k30 x _ _ _ _ _ _ _ _ _ S.own.sub g0_4 g0_5 g0_6 h81) fun u79 S a E=>plc E (.r 2 1 .nil) (fun a E=>pld (hK78 _ _ (wp_ret ?_)))
  replace S:=S.tail
  obtain rfl:=si H
  exact rt1 E ⟨_,rfl,_,rfl,S⟩
 refine pl0 (plc E (.r 0 1<|.b 1 0 hb2<|.r 2 2<|.nil) (fun a E=>E.fk 8 H (fun c6 E H=>?_) fun c6 E H=>?_))
 refine plc E (.r 4 42 .nil) (fun a E=>pld ?_)
 exact J21 _ (by omega) _ true _ _ E .of S H
 refine plc E (.r 4 1<|.b 5 0 hb2<|.r 6 3<|.nil) (fun a E=>E.fk 13 H (fun c7 E H=>?_) fun c7 E H=>?_)
 refine plc E (.r 9 37 .nil) (fun a E=>pld ?_)
 exact J21 _ (by omega) _ true _ _ E .of S H
 refine plc E (.r 9 1<|.b 10 1 hb2<|.r 11 3<|.nil) (fun a E=>E.fk 18 H (fun c8 E H=>?_) fun c8 E H=>?_)
 refine plc E (.r 14 32 .nil) (fun a E=>pld ?_)
 exact J21 _ (by omega) _ true _ _ E .of S H
 refine plc E (.r 14 1<|.b 15 1 hb2<|.r 16 3<|.nil) (fun a E=>E.fk 23 H (fun c9 E H=>?_) fun c9 E H=>?_)
 refine plc E (.r 19 27 .nil) (fun a E=>pld ?_)
 exact J21 _ (by omega) _ true _ _ E .of S H
 refine plc E (.r 19 1<|.b 20 2 hb2<|.r 21 3<|.nil) (fun a E=>E.fk 28 H (fun c10 E H=>?_) fun c10 E H=>?_)
 refine plc E (.r 24 22 .nil) (fun a E=>pld ?_)
 exact J21 _ (by omega) _ true _ _ E .of S H
 refine plc E (.r 24 1<|.b 25 2 hb2<|.r 26 1<|.b 27 1 hb2<|.r 28 3<|.nil) (fun a E=>E.fk 35 H (fun c11 E H=>?_) fun c11 E H=>?_)
 refine plc E (.r 31 15 .nil) (fun a E=>pld ?_)
 exact J21 _ (by omega) _ true _ _ E .of S H
 refine plc E (.r 31 1<|.b 32 3 hb2<|.r 33 3<|.nil) (fun a E=>E.fk 40 H (fun c12 E H=>?_) fun c12 E H=>?_)
 refine plc E (.r 36 10 .nil) (fun a E=>pld ?_)
 exact J21 _ (by omega) _ true _ _ E .of S H
 refine plc E (.r 36 1<|.b 37 3 hb2<|.r 38 3<|.nil) (fun a E=>E.fk 45 H (fun c13 E H=>?_) fun c13 E H=>?_)
 refine plc E (.r 41 5 .nil) (fun a E=>pld ?_)
 exact J21 _ (by omega) _ true _ _ E .of S H
 refine plc E (.r 41 1<|.b 42 4 hb2<|.nil) (fun a E=>?_)
 obtain ⟨t15,h16,H⟩:=bd H
 refine plq E S en37 (qO.calls k x.f4 _ _ _ _ _ S.own.sub g0_4 h16) fun u14 S a E=>plc E (.r 44 2 .nil) (fun a E=>pld ?_)
 exact J21 _ (by omega) _ (!t15) _ _ E .of S H
def qb.l9:Nat→List ByteArray→List ByteArray→Int→Option Bool
 | 0,_,_,_=>none
 | k+1,x,y,x8=>if x8<(x.length:Int) then (if 0≤x8∧x8<(x.length:Int) then (if 0≤x8∧x8<(y.length:Int) then (if (nth ByteArray.empty x x8).toList=(nth ByteArray.empty y x8).toList then (qb.l9 k x y (w64 (x8+1))) else (some false)) else (none)) else (none)) else (some true)
theorem qb.l9_s k x y x8:type_of% (qb.l9.eq_2 x y x8 k):=qb.l9.eq_2 x y x8 k
def qb.f(k:Nat)(x:List ByteArray)(y:List ByteArray):Option Bool:=if (x.length:Int)=(y.length:Int) then (qb.l9 k x y 0) else (some false)
def qb.Post(W F:World)(r:Bool)(v:Value)(w':World):Prop:=∃(F':World),v = .bool r∧Sm W F w' F' []
theorem qb.calls(k:Nat)(x:List ByteArray)(y:List ByteArray)(A0_0:OA)(c0_0:Nat)(A1_0:OA)(c1_0:Nat)(r:Bool)(W F:World)(hown:Sub F W)(g0_0:Rd Kn.string F A0_0 c0_0 x)(g1_0:Rd Kn.string F A1_0 c1_0 y)(H:qb.f k x y=some r):
    Cr 40 #[.slice A0_0 x.length c0_0,.slice A1_0 y.length c1_0] W (qb.Post W F r):=by
 have S:=sT hown
 unfold qb.f at H
 refine ent 26 rfl rfl rfl (fun a E=>?_)
 refine rr E fun a E=>(sq fun K2 hK2=>rr E fun a E=>(E.ikn 10 H (fun c4 E H=>?_) fun c4 E H=>?_))
 refine wp_skip (hK2 _ _ (sq fun K6 hK6=>rr E fun a E=>(wp_block ?_)))
 refine wp_loop_ghost (fun kq10 a w'=>∃(G:NV)(x8:Int),kq10≤k∧Env 26 G a∧At G [(0,.slice A0_0 x.length c0_0),(1,.slice A1_0 y.length c1_0),(5,iv x8)]∧Sm W F w' F []∧qb.l9 kq10 x y x8=some r) k ⟨_,0,Nat.le_refl _,E,.of,S,H⟩ ?_
 rintro kq10 a u12 ⟨G,x8,hkq,E,A,S,H⟩
 obtain _ | k11:=kq10
 exact zz H
 rw [qb.l9_s]at H
 obtain ⟨J,E⟩:=E.at A
 refine sq fun K13 hK13=>rr E fun a E=>(E.ik 14 H (fun c15 E H=>?_) fun c15 E H=>?_)
 refine wp_skip (hK13 _ _ (sq fun K16 hK16=>wp_block (sq fun K17 hK17=>?_)))
 refine drawn 9 ⟨[],[],fun q=>False⟩ mixed rfl (by kernel_rfl) (fun hst=>?_)
 replace S:=S.drew
 obtain ⟨c18,H⟩:=gd H
 have hE_:=E
 obtain ⟨ad19,rfl⟩:=g0_0.addr c18.1 c18.2
 replace E:=hE_
 obtain ⟨cs21,rfl,hc22⟩:=g0_0.el ByteArray.empty x8 c18.1 c18.2
 obtain ⟨c23,H⟩:=gd H
 have hE_:=E
 obtain ⟨ad24,rfl⟩:=g1_0.addr c23.1 c23.2
 replace E:=hE_
 obtain ⟨cs26,rfl,hc27⟩:=g1_0.el ByteArray.empty x8 c23.1 c23.2
 refine mny 0 hst E (.r 0 2<|.x 2 c18<|.c 3 (S.fc hc22 0)<|.r 4 2<|.x 6 c23<|.c 7 (S.fc hc27 0)<|.r 8 1<|.nil) (fun a E=>?_)
 refine dn ?_
 refine hK17 _ _ ?_
 rcases sp H with ⟨c28,H⟩ | ⟨c28,H⟩
 replace E:=E.etn 25 c28
 refine cf E (wp_skip ?_)
 refine qAL ?_
 refine hK16 _ _ (pl0 (plc E (.r 0 3 .nil) (fun a E=>pld ?_)))
 exact qAM ⟨k11,by omega,_,(w64 (x8+1)),by omega,E,.of,S,H⟩
 replace E:=E.efn 25 c28
 refine ct E (rr E fun a E=>(wp_ret (qAI (qAH (qAH (qAI (qAH ?_)))))))
 obtain rfl:=si H
 exact rt1 E ⟨_,rfl,_,rfl,S⟩
 refine wp_exit ?_
 refine hK6 _ _ (rr E fun a E=>(wp_ret ?_))
 obtain rfl:=si H
 exact rt1 E ⟨_,rfl,_,rfl,S⟩
 refine rr E fun a E=>(wp_ret (qAH ?_))
 obtain rfl:=si H
 exact rt1 E ⟨_,rfl,_,rfl,S⟩
def ql.f(k:Nat)(x:qP)(y:qP):Option Bool:=(qV.f k x.f0 y.f0).bind fun t8=>(if t8=true then ((qb.f k x.f1 y.f1).bind fun t12=>(some t12)) else (some false))
def ql.Post(W F:World)(r:Bool)(v:Value)(w':World):Prop:=∃(F':World),v = .bool r∧Sm W F w' F' []
theorem ql.calls(k:Nat)(x:qP)(y:qP)(A0_0:OA)(c0_0:Nat)(A0_1:OA)(c0_1:Nat)(A1_0:OA)(c1_0:Nat)(A1_1:OA)(c1_1:Nat)(r:Bool)(W F:World)(hown:Sub F W)(g0_0:Rd ki F A0_0 c0_0 x.f0)(g0_1:Rd Kn.string F A0_1 c0_1 x.f1)(g1_0:Rd ki F A1_0 c1_0 y.f0)(g1_1:Rd Kn.string F A1_1 c1_1 y.f1)(H:ql.f k x y=some r):
    Cr 19 #[.agg #[.slice A0_0 x.f0.length c0_0,.slice A0_1 x.f1.length c0_1],.agg #[.slice A1_0 y.f0.length c1_0,.slice A1_1 y.f1.length c1_1]] W (ql.Post W F r):=by
 have S:=sT hown
 unfold ql.f at H
 refine ent 17 rfl rfl rfl (fun a E=>?_)
 refine sq fun K1 hK1=>pl0 (plx (t:=69) E S [.slice A0_0 x.f0.length c0_0,.slice A0_1 x.f1.length c0_1] fun b2 u3 hb2 S a E=>plx (t:=69) E S [.slice A1_0 y.f0.length c1_0,.slice A1_1 y.f1.length c1_1] fun b4 u5 hb4 S a E=>plc E (.r 2 1 .nil) (fun a E=>pld (hK1 _ _ (sq fun K6 hK6=>pl0 ?_))))
 have hb2:=S.ba 1
 refine plc E (.r 0 1<|.b 1 0 hb2<|.r 2 1<|.b 3 0 hb4<|.nil) (fun a E=>?_)
 obtain ⟨t8,h9,H⟩:=bd H
 refine plq E S en31 (qV.calls k x.f0 y.f0 _ _ _ _ _ _ _ S.own.sub g0_0 g1_0 h9) fun u7 S a E=>plc E (.r 5 1 .nil) (fun a E=>E.fb 10 H (fun c10 E H=>?_) fun c10 E H=>?_)
 refine plc E (.r 6 1<|.b 7 1 (S.ba 1)<|.r 8 1<|.b 9 1 (S.ba 0)<|.nil) (fun a E=>?_)
 obtain ⟨t12,h13,H⟩:=bd H
 refine plq E S en40 (qb.calls k x.f1 y.f1 _ _ _ _ _ _ _ S.own.sub g0_1 g1_1 h13) fun u11 S a E=>plc E (.r 11 2 .nil) (fun a E=>pld (hK6 _ _ (wp_ret ?_)))
 replace S:=S.pm [] 2
 obtain rfl:=si H
 exact rt1 E ⟨_,rfl,_,rfl,S⟩
 refine plc E (.r 6 7 .nil) (fun a E=>pld (hK6 _ _ (wp_ret ?_)))
 replace S:=S.pm [] 2
 obtain rfl:=si H
 exact rt1 E ⟨_,rfl,_,rfl,S⟩
def qv.f(x:Bool):Option Int:=if x=true then (some 1) else (some 0)
def qv.Post(W F:World)(r:Int)(v:Value)(w':World):Prop:=∃(F':World),v=iv r∧Sm W F w' F' []
theorem qv.calls(x:Bool)(r:Int)(W F:World)(hown:Sub F W)(H:qv.f x=some r):
    Cr 41 #[.bool x] W (qv.Post W F r):=by
 have S:=sT hown
 unfold qv.f at H
 refine ent 4 rfl rfl rfl (fun a E=>?_)
 refine rr E fun a E=>(sq fun K2 hK2=>rr E fun a E=>(E.ib 3 H (fun c4 E H=>?_) fun c4 E H=>?_))
 refine rr E fun a E=>(wp_ret (qAH ?_))
 obtain rfl:=si H
 exact rt1 E ⟨_,rfl,_,rfl,S⟩
 refine wp_skip (hK2 _ _ (rr E fun a E=>(wp_ret ?_)))
 obtain rfl:=si H
 exact rt1 E ⟨_,rfl,_,rfl,S⟩
def qq.f(x:List Int):Option (List Int):=if (([(x.length:Int)].length:Int)+(x.length:Int)) * 8≤140737488355328 then (some ([(x.length:Int)]++x)) else (none)
def qq.Post(W F:World)(r:List Int)(v:Value)(w':World):Prop:=∃(F':World)(RA0_0:OA)(rc0_0:Nat),v = .slice RA0_0 r.length rc0_0∧Sm W F w' F' [row ki 3 (.slice RA0_0 r.length rc0_0) r]
theorem qq.calls(x:List Int)(A0_0:OA)(c0_0:Nat)(r:List Int)(W F:World)(hown:Sub F W)(g0_0:Rd ki F A0_0 c0_0 x)(H:qq.f x=some r):
    Cr 42 #[.slice A0_0 x.length c0_0] W (qq.Post W F r):=by
 have S:=sT hown
 unfold qq.f at H
 refine ent 8 rfl rfl rfl (fun a E=>?_)
 refine rr E fun a E=>(sq fun K2 hK2=>pl0 (plc E (.r 0 2 .nil) (fun a E=>ple E (.lit (d:=ki) (e:=3) S [(x.length:Int)] (.cons rfl .nil)) ?_)))
 rintro _ u3 a ⟨A4,c5,rfl,S,hg⟩ E
 refine plc E (.r 3 1 .nil) (fun a E=>?_)
 obtain ⟨c7,H⟩:=gd H
 refine ple E (.ap (d:=ki) 8 S (g0_0.src S.own.sub) c7 c0_0) ?_
 rintro _ u10 a ⟨A8,c9,rfl,S,hz⟩ E
 refine plc E (.r 5 1 .nil) (fun a E=>pld (hK2 _ _ (wp_ret ?_)))
 obtain rfl:=si H
 exact rt1 E ⟨_,rfl,_,_,_,rfl,S⟩
mutual
def qL.l18:Nat→qK→List Int→Int→Option qP
 | 0,_,_,_=>none
 | k+1,x,l16,x17=>if x17<(x.f4.length:Int) then (if 0≤x17∧x17<(x.f4.length:Int) then ((qv.f ((nth qA.z x.f4 x17).f4)).bind fun t36=>((qv.f ((nth qA.z x.f4 x17).f5)).bind fun t39=>(if ((l16.length:Int)+((6:Nat):Int)) * 8≤140737488355328 then (qL.l18 k x (l16++[(nth qA.z x.f4 x17).f0,(nth qA.z x.f4 x17).f1,(nth qA.z x.f4 x17).f2,(nth qA.z x.f4 x17).f3,t36,t39]) (w64 (x17+1))) else (none)))) else (none)) else (if ((l16.length:Int)+((1:Nat):Int)) * 8≤140737488355328 then (qL.l66 k x (l16++[(x.f5.length:Int)]) 0) else (none))
def qL.l66:Nat→qK→List Int→Int→Option qP
 | 0,_,_,_=>none
 | k+1,x,l63,x64=>if x64<(x.f5.length:Int) then (if 0≤x64∧x64<(x.f5.length:Int) then (if ((l63.length:Int)+((1:Nat):Int)) * 8≤140737488355328 then ((qq.f ((nth qI.z x.f5 x64).f1)).bind fun t95=>(if (((l63++[(nth qI.z x.f5 x64).f0]).length:Int)+(t95.length:Int)) * 8≤140737488355328 then (qL.l66 k x ((l63++[(nth qI.z x.f5 x64).f0])++t95) (w64 (x64+1))) else (none))) else (none)) else (none)) else (qL.l114 k x l63 0)
def qL.l114:Nat→qK→List Int→Int→Option qP
 | 0,_,_,_=>none
 | k+1,x,l111,x112=>if x112<(x.f6.length:Int) then (if 0≤x112∧x112<(x.f6.length:Int) then (if ((l111.length:Int)+((2:Nat):Int)) * 8≤140737488355328 then (qL.l150 k x x112 (l111++[(nth qC.z x.f6 x112).f0,(((nth qC.z x.f6 x112).f1).length:Int)]) 0) else (none)) else (none)) else (some (⟨l111,[]⟩:qP))
def qL.l150:Nat→qK→Int→List Int→Int→Option qP
 | 0,_,_,_,_=>none
 | k+1,x,x112,l147,x148=>if x148<(((nth qC.z x.f6 x112).f1).length:Int) then (if 0≤x148∧x148<(((nth qC.z x.f6 x112).f1).length:Int) then (if ((l147.length:Int)+((1:Nat):Int)) * 8≤140737488355328 then ((qq.f ((nth qD.z ((nth qC.z x.f6 x112).f1) x148).f1)).bind fun t179=>(if (((l147++[(nth qD.z ((nth qC.z x.f6 x112).f1) x148).f0]).length:Int)+(t179.length:Int)) * 8≤140737488355328 then (qL.l150 k x x112 ((l147++[(nth qD.z ((nth qC.z x.f6 x112).f1) x148).f0])++t179) (w64 (x148+1))) else (none))) else (none)) else (none)) else (qL.l114 k x l147 (w64 (x112+1)))
end
theorem qL.l18_s k x l16 x17:type_of% (qL.l18.eq_2 x l16 x17 k):=qL.l18.eq_2 x l16 x17 k
theorem qL.l66_s k x l63 x64:type_of% (qL.l66.eq_2 x l63 x64 k):=qL.l66.eq_2 x l63 x64 k
theorem qL.l114_s k x l111 x112:type_of% (qL.l114.eq_2 x l111 x112 k):=qL.l114.eq_2 x l111 x112 k
theorem qL.l150_s k x x112 l147 x148:type_of% (qL.l150.eq_2 x x112 l147 x148 k):=qL.l150.eq_2 x x112 l147 x148 k
def qL.f(k:Nat)(x:qK):Option qP:=qL.l18 k x [x.f0,x.f1,x.f2,x.f3,(x.f4.length:Int)] 0
def qL.Post(W F:World)(r:qP)(v:Value)(w':World):Prop:=∃(F':World)(RA0_0:OA)(rc0_0:Nat)(RA0_1:OA)(rc0_1:Nat),v = .agg #[.slice RA0_0 r.f0.length rc0_0,.slice RA0_1 r.f1.length rc0_1]∧Sm W F w' F' [row ki 3 (.slice RA0_0 r.f0.length rc0_0) r.f0]∧Rd Kn.string F' RA0_1 rc0_1 r.f1
theorem qL.calls(k:Nat)(x:qK)(A0_4:OA)(c0_4:Nat)(A0_5:OA)(c0_5:Nat)(A0_6:OA)(c0_6:Nat)(r:qP)(W F:World)(hown:Sub F W)(g0_4:Rd qA.k F A0_4 c0_4 x.f4)(g0_5:Rd qI.k F A0_5 c0_5 x.f5)(g0_6:Rd qC.k F A0_6 c0_6 x.f6)(H:qL.f k x=some r):
    Cr 20 #[.agg #[iv x.f0,iv x.f1,iv x.f2,iv x.f3,.slice A0_4 x.f4.length c0_4,.slice A0_5 x.f5.length c0_5,.slice A0_6 x.f6.length c0_6]] W (qL.Post W F r):=by
 have S:=sT hown
 unfold qL.f at H
 refine ent 129 rfl rfl rfl (fun a E=>?_)
 refine sq fun K1 hK1=>pl0 (plx (t:=65) E S [iv x.f0,iv x.f1,iv x.f2,iv x.f3,.slice A0_4 x.f4.length c0_4,.slice A0_5 x.f5.length c0_5,.slice A0_6 x.f6.length c0_6] fun b2 u3 hb2 S a E=>pla (t:=69) E S [.slice none 0 0,.slice none 0 0] fun b4 u5 hb4 S a E=>pld (hK1 _ _ (sq fun K6 hK6=>pl0 ?_)))
 have hb2:=S.ba 1
 refine plc E (.r 0 1<|.b 1 0 hb2<|.r 2 1<|.b 3 1 hb2<|.r 4 1<|.b 5 2 hb2<|.r 6 1<|.b 7 3 hb2<|.r 8 1<|.b 9 4 hb2<|.r 10 1<|.nil) (fun a E=>ple E (.lit (d:=ki) (e:=3) S [x.f0,x.f1,x.f2,x.f3,(x.f4.length:Int)] (.cons rfl<|.cons rfl<|.cons rfl<|.cons rfl<|.cons rfl .nil)) ?_)
 rintro _ u7 a ⟨A8,c9,rfl,S,hg⟩ E
 refine plc E (.r 12 1 .nil) (fun a E=>pld (hK6 _ _ (sq fun K11 hK11=>rr E fun a E=>(wp_block ?_))))
 replace S:=S.pm [1,2,0] 3
 refine wp_loop_ghost (fun kq19 a w'=>∃(G:NV)(A14:OA)(c15:Nat)(l16:List Int)(x17:Int),kq19≤k∧Env 129 G a∧At G [(1,.pointer (pb b2)),(2,.pointer (pb b4)),(3,.slice A14 l16.length c15),(4,iv x17)]∧Sm W F w' F [box b4 #[.slice none 0 0,.slice none 0 0] 69,box b2 #[iv x.f0,iv x.f1,iv x.f2,iv x.f3,.slice A0_4 x.f4.length c0_4,.slice A0_5 x.f5.length c0_5,.slice A0_6 x.f6.length c0_6] 65,row ki 3 (.slice A14 l16.length c15) l16]∧qL.l18 kq19 x l16 x17=some r) k ⟨_,A8,c9,[x.f0,x.f1,x.f2,x.f3,(x.f4.length:Int)],0,Nat.le_refl _,E,.of,S,H⟩ ?_
 rintro kq19 a u21 ⟨G,A14,c15,l16,x17,hkq,E,A,S,H⟩
 obtain _ | k20:=kq19
 exact zz H
 rw [qL.l18_s]at H
 obtain ⟨J,E⟩:=E.at A
 refine sq fun K22 hK22=>sq fun K23 hK23=>pl0 ?_
 have hb2:=S.ba 1
 refine plc E (.r 0 2<|.b 2 4 hb2<|.r 3 2<|.nil) (fun a E=>pld (hK23 _ _ (E.ik 26 H (fun c24 E H=>?_) fun c24 E H=>?_)))
 refine wp_skip (hK22 _ _ (sq fun K25 hK25=>wp_block (sq fun K26 hK26=>pl0 ?_)))
 obtain ⟨c27,H⟩:=gd H
 have hE_:=E
 obtain ⟨ad28,rfl⟩:=g0_4.addr c27.1 c27.2
 replace E:=hE_
 obtain ⟨cs30,rfl,hc31⟩:=g0_4.el qA.z x17 c27.1 c27.2
 refine plc E (.r 0 1<|.b 1 4 hb2<|.r 2 1<|.x 3 c27<|.cs 4 (S.fcs hc31)<|.nil) (fun a E=>pla (t:=96) E S [iv 0,iv 0,iv 0,iv 0,.bool false,.bool false] fun b32 u33 hb32 S a E=>pls E S [iv ((nth qA.z x.f4 x17).f0),iv ((nth qA.z x.f4 x17).f1),iv ((nth qA.z x.f4 x17).f2),iv ((nth qA.z x.f4 x17).f3),.bool ((nth qA.z x.f4 x17).f4),.bool ((nth qA.z x.f4 x17).f5)] fun u34 hb32 S a E=>pld (hK26 _ _ ?_))
 refine drawn 18 ⟨[16],[],fun q=>False⟩ mixed rfl (by kernel_rfl) (fun hst=>?_)
 replace S:=S.drew
 have hb32:=S.ba 0
 refine mny 5 hst E (.r 0 2<|.b 2 0 hb32<|.r 3 1<|.b 4 1 hb32<|.r 5 1<|.b 6 2 hb32<|.r 7 1<|.b 8 3 hb32<|.r 9 1<|.b 10 4 hb32<|.r 12 1<|.b 13 5 hb32<|.nil) (fun a E=>?_)
 obtain ⟨t36,h37,H⟩:=bd H
 refine on1 11 E (.cl en41 (qv.calls ((nth qA.z x.f4 x17).f4) _ _ _ S.own.sub h37)) ?_
 rintro _ u35 a ⟨_,rfl,hC⟩ E
 refine ⟨.of hC.agr,?_⟩
 replace S:=S.lent hC
 obtain ⟨t39,h40,H⟩:=bd H
 refine on1 14 E (.cl en41 (qv.calls ((nth qA.z x.f4 x17).f5) _ _ _ S.own.sub h40)) ?_
 rintro _ u38 a ⟨_,rfl,hC⟩ E
 refine ⟨.of hC.agr,?_⟩
 replace S:=S.lent hC
 refine on1 15 E (.lit (d:=ki) (e:=3) S [(nth qA.z x.f4 x17).f0,(nth qA.z x.f4 x17).f1,(nth qA.z x.f4 x17).f2,(nth qA.z x.f4 x17).f3,t36,t39] (.cons rfl<|.cons rfl<|.cons rfl<|.cons rfl<|.cons rfl<|.cons rfl .nil)) ?_
 rintro _ u41 a ⟨A42,c43,rfl,S,hg⟩ E
 refine ⟨.of hg,?_⟩
 obtain ⟨c45,H⟩:=gd H
 replace S:=S.front 4 rfl
 refine on1 16 E (.ap (d:=ki) 8 S (qAN (S.row_at (i:=1) rfl)) c45 c43) ?_
 rintro _ u48 a ⟨A46,c47,rfl,S,hz⟩ E
 refine ⟨.d,?_⟩
 refine mny 0 hst E (.r 17 1 .nil) (fun a E=>?_)
 refine dn ?_
 refine qAL ?_
 refine hK25 _ _ (pl0 (plc E (.r 0 3 .nil) (fun a E=>pld ?_)))
 replace S:=S.pm [3,4,0] 5
 exact qAM ⟨k20,by omega,_,A46,c47,(l16++[(nth qA.z x.f4 x17).f0,(nth qA.z x.f4 x17).f1,(nth qA.z x.f4 x17).f2,(nth qA.z x.f4 x17).f3,t36,t39]),(w64 (x17+1)),by omega,E,.of,S,H⟩
 refine wp_exit ?_
 refine hK11 _ _ (sq fun K49 hK49=>pl0 (plc E (.r 0 2<|.b 2 5 hb2<|.r 3 1<|.nil) (fun a E=>ple E (.lit (d:=ki) (e:=3) S [(x.f5.length:Int)] (.cons rfl .nil)) ?_)))
 rintro _ u50 a ⟨A51,c52,rfl,S,hg⟩ E
 obtain ⟨c54,H⟩:=gd H
 replace S:=S.front 3 rfl
 refine ple E (.ap (d:=ki) 8 S (qAN (S.row_at (i:=1) rfl)) c54 c52) ?_
 rintro _ u57 a ⟨A55,c56,rfl,S,hz⟩ E
 refine plc E (.r 6 1 .nil) (fun a E=>pld (hK49 _ _ (sq fun K58 hK58=>rr E fun a E=>(wp_block ?_))))
 replace S:=S.pm [2,3,0] 4
 refine wp_loop_ghost (fun kq67 a w'=>∃(G:NV)(A61:OA)(c62:Nat)(l63:List Int)(x64:Int)(F65:World),kq67≤k20∧Env 129 G a∧At G [(1,.pointer (pb b2)),(2,.pointer (pb b4)),(3,.slice A61 l63.length c62),(6,iv x64)]∧Sm W F w' F65 [box b4 #[.slice none 0 0,.slice none 0 0] 69,box b2 #[iv x.f0,iv x.f1,iv x.f2,iv x.f3,.slice A0_4 x.f4.length c0_4,.slice A0_5 x.f5.length c0_5,.slice A0_6 x.f6.length c0_6] 65,row ki 3 (.slice A61 l63.length c62) l63]∧Rd qA.k F65 A0_4 c0_4 x.f4∧Rd qI.k F65 A0_5 c0_5 x.f5∧Rd qC.k F65 A0_6 c0_6 x.f6∧qL.l66 kq67 x l63 x64=some r) k20 ⟨_,A55,c56,(l16++[(x.f5.length:Int)]),0,F,Nat.le_refl _,E,.of,S,g0_4,g0_5,g0_6,H⟩ ?_
 rintro kq67 a u69 ⟨G,A61,c62,l63,x64,F65,hkq,E,A,S,g0_4,g0_5,g0_6,H⟩
 obtain _ | k68:=kq67
 exact zz H
 rw [qL.l66_s]at H
 obtain ⟨J,E⟩:=E.at A
 refine sq fun K70 hK70=>sq fun K71 hK71=>pl0 ?_
 have hb2:=S.ba 1
 refine plc E (.r 0 2<|.b 2 5 hb2<|.r 3 2<|.nil) (fun a E=>pld (hK71 _ _ (E.ik 61 H (fun c72 E H=>?_) fun c72 E H=>?_)))
 refine wp_skip (hK70 _ _ (sq fun K73 hK73=>wp_block (sq fun K74 hK74=>pl0 ?_)))
 obtain ⟨c75,H⟩:=gd H
 have hE_:=E
 obtain ⟨ad76,rfl⟩:=g0_5.addr c75.1 c75.2
 replace E:=hE_
 obtain ⟨cs78,⟨A80,c81,rfl,g82⟩,hc79⟩:=g0_5.el qI.z x64 c75.1 c75.2
 refine plc E (.r 0 2<|.b 2 5 hb2<|.r 3 1<|.x 4 c75<|.r 5 1<|.c 6 (S.fc hc79 0)<|.nil) (fun a E=>ple E (.lit (d:=ki) (e:=3) S [(nth qI.z x.f5 x64).f0] (.cons rfl .nil)) ?_)
 rintro _ u83 a ⟨A84,c85,rfl,S,hg⟩ E
 obtain ⟨c87,H⟩:=gd H
 replace S:=S.front 3 rfl
 refine ple E (.ap (d:=ki) 8 S (qAN (S.row_at (i:=1) rfl)) c87 c85) ?_
 rintro _ u90 a ⟨A88,c89,rfl,S,hz⟩ E
 refine plc E (.r 9 1 .nil) (fun a E=>pld (hK74 _ _ (pl0 (plc E (.r 0 2<|.b 2 5 (S.ba 3)<|.r 3 1<|.x 4 c75<|.r 5 1<|.c 6 (S.fc hc79 1)<|.nil) (fun a E=>?_)))))
 obtain ⟨t95,h96,H⟩:=bd H
 refine ple E (.cl en42 (qq.calls ((nth qI.z x.f5 x64).f1) _ _ _ _ _ S.own.sub g82 h96)) ?_
 rintro _ u94 a ⟨F97,A98,c99,rfl,hC⟩ E
 have hs:=hC.sub
 replace S:=S.called (X:=[]) hC
 replace g0_5:=g0_5.mono hs
 replace g82:=g82.mono hs
 replace g0_4:=g0_4.mono hs
 replace g0_6:=g0_6.mono hs
 obtain ⟨c102,H⟩:=gd H
 replace S:=S.front 1 rfl
 refine ple E (.ap (d:=ki) 8 S (qAN (S.row_at (i:=1) rfl)) c102 c99) ?_
 rintro _ u105 a ⟨A103,c104,rfl,S,hz⟩ E
 refine plc E (.r 9 1 .nil) (fun a E=>pld ?_)
 refine qAL ?_
 refine hK73 _ _ (pl0 (plc E (.r 0 3 .nil) (fun a E=>pld ?_)))
 replace S:=S.pm [3,4,0] 5
 exact qAM ⟨k68,by omega,_,A103,c104,((l63++[(nth qI.z x.f5 x64).f0])++t95),(w64 (x64+1)),F97,by omega,E,.of,S,g0_4,g0_5,g0_6,H⟩
 refine wp_exit ?_
 refine hK58 _ _ (sq fun K106 hK106=>rr E fun a E=>(wp_block ?_))
 refine wp_loop_ghost (fun kq115 a w'=>∃(G:NV)(A109:OA)(c110:Nat)(l111:List Int)(x112:Int)(F113:World),kq115≤k68∧Env 129 G a∧At G [(1,.pointer (pb b2)),(2,.pointer (pb b4)),(3,.slice A109 l111.length c110),(7,iv x112)]∧Sm W F w' F113 [box b4 #[.slice none 0 0,.slice none 0 0] 69,box b2 #[iv x.f0,iv x.f1,iv x.f2,iv x.f3,.slice A0_4 x.f4.length c0_4,.slice A0_5 x.f5.length c0_5,.slice A0_6 x.f6.length c0_6] 65,row ki 3 (.slice A109 l111.length c110) l111]∧Rd qA.k F113 A0_4 c0_4 x.f4∧Rd qI.k F113 A0_5 c0_5 x.f5∧Rd qC.k F113 A0_6 c0_6 x.f6∧qL.l114 kq115 x l111 x112=some r) k68 ⟨_,A61,c62,l63,0,F65,Nat.le_refl _,E,.of,S,g0_4,g0_5,g0_6,H⟩ ?_
 rintro kq115 a u117 ⟨G,A109,c110,l111,x112,F113,hkq,E,A,S,g0_4,g0_5,g0_6,H⟩
 obtain _ | k116:=kq115
 exact zz H
 rw [qL.l114_s]at H
 obtain ⟨J,E⟩:=E.at A
 refine sq fun K118 hK118=>sq fun K119 hK119=>pl0 ?_
 have hb2:=S.ba 1
 refine plc E (.r 0 2<|.b 2 6 hb2<|.r 3 2<|.nil) (fun a E=>pld (hK119 _ _ (E.ik 86 H (fun c120 E H=>?_) fun c120 E H=>?_)))
 refine wp_skip (hK118 _ _ (sq fun K121 hK121=>wp_block (sq fun K122 hK122=>pl0 ?_)))
 obtain ⟨c123,H⟩:=gd H
 have hE_:=E
 obtain ⟨ad124,rfl⟩:=g0_6.addr c123.1 c123.2
 replace E:=hE_
 obtain ⟨cs126,⟨A128,c129,rfl,g130⟩,hc127⟩:=g0_6.el qC.z x112 c123.1 c123.2
 refine plc E (.r 0 1<|.b 1 6 hb2<|.r 2 1<|.x 3 c123<|.cs 4 (S.fcs hc127)<|.nil) (fun a E=>pla (t:=90) E S [iv 0,.slice none 0 0] fun b131 u132 hb131 S a E=>pls E S [iv ((nth qC.z x.f6 x112).f0),.slice A128 (((nth qC.z x.f6 x112).f1).length) c129] fun u133 hb131 S a E=>pld (hK122 _ _ (sq fun K134 hK134=>pl0 (plc E (.r 0 2<|.b 2 0 hb131<|.r 3 1<|.b 4 1 hb131<|.r 5 1<|.nil) (fun a E=>ple E (.lit (d:=ki) (e:=3) S [(nth qC.z x.f6 x112).f0,(((nth qC.z x.f6 x112).f1).length:Int)] (.cons rfl<|.cons rfl .nil)) ?_)))))
 rintro _ u135 a ⟨A136,c137,rfl,S,hg⟩ E
 obtain ⟨c139,H⟩:=gd H
 replace S:=S.front 4 rfl
 refine ple E (.ap (d:=ki) 8 S (qAN (S.row_at (i:=1) rfl)) c139 c137) ?_
 rintro _ u142 a ⟨A140,c141,rfl,S,hz⟩ E
 refine plc E (.r 8 1 .nil) (fun a E=>pld (hK134 _ _ (rr E fun a E=>(wp_block ?_))))
 replace S:=S.pm [2,3,4,0] 5
 refine wp_loop_ghost (fun kq151 a w'=>∃(G:NV)(A145:OA)(c146:Nat)(l147:List Int)(x148:Int)(F149:World),kq151≤k116∧Env 129 G a∧At G [(1,.pointer (pb b2)),(2,.pointer (pb b4)),(3,.slice A145 l147.length c146),(7,iv x112),(8,.pointer (pb b131)),(9,iv x148)]∧Sm W F w' F149 [box b131 #[iv ((nth qC.z x.f6 x112).f0),.slice A128 (((nth qC.z x.f6 x112).f1).length) c129] 90,box b4 #[.slice none 0 0,.slice none 0 0] 69,box b2 #[iv x.f0,iv x.f1,iv x.f2,iv x.f3,.slice A0_4 x.f4.length c0_4,.slice A0_5 x.f5.length c0_5,.slice (some ad124) x.f6.length c0_6] 65,row ki 3 (.slice A145 l147.length c146) l147]∧Rd qD.k F149 A128 c129 ((nth qC.z x.f6 x112).f1)∧Rd qA.k F149 A0_4 c0_4 x.f4∧Rd qI.k F149 A0_5 c0_5 x.f5∧Rd qC.k F149 (some ad124) c0_6 x.f6∧qL.l150 kq151 x x112 l147 x148=some r) k116 ⟨_,A140,c141,(l111++[(nth qC.z x.f6 x112).f0,(((nth qC.z x.f6 x112).f1).length:Int)]),0,F113,Nat.le_refl _,E,.of,S,g130,g0_4,g0_5,g0_6,H⟩ ?_
 rintro kq151 a u153 ⟨G,A145,c146,l147,x148,F149,hkq,E,A,S,g130,g0_4,g0_5,g0_6,H⟩
 obtain _ | k152:=kq151
 exact zz H
 rw [qL.l150_s]at H
 obtain ⟨J,E⟩:=E.at A
 refine sq fun K154 hK154=>sq fun K155 hK155=>pl0 ?_
 have hb131:=S.ba 0
 refine plc E (.r 0 2<|.b 2 1 hb131<|.r 3 2<|.nil) (fun a E=>pld (hK155 _ _ (E.ik 106 H (fun c156 E H=>?_) fun c156 E H=>?_)))
 refine wp_skip (hK154 _ _ (sq fun K157 hK157=>wp_block (sq fun K158 hK158=>pl0 ?_)))
 obtain ⟨c159,H⟩:=gd H
 have hE_:=E
 obtain ⟨ad160,rfl⟩:=g130.addr c159.1 c159.2
 replace E:=hE_
 obtain ⟨cs162,⟨A164,c165,rfl,g166⟩,hc163⟩:=g130.el qD.z x148 c159.1 c159.2
 refine plc E (.r 0 2<|.b 2 1 hb131<|.r 3 1<|.x 4 c159<|.r 5 1<|.c 6 (S.fc hc163 0)<|.nil) (fun a E=>ple E (.lit (d:=ki) (e:=3) S [(nth qD.z ((nth qC.z x.f6 x112).f1) x148).f0] (.cons rfl .nil)) ?_)
 rintro _ u167 a ⟨A168,c169,rfl,S,hg⟩ E
 obtain ⟨c171,H⟩:=gd H
 replace S:=S.front 4 rfl
 refine ple E (.ap (d:=ki) 8 S (qAN (S.row_at (i:=1) rfl)) c171 c169) ?_
 rintro _ u174 a ⟨A172,c173,rfl,S,hz⟩ E
 refine plc E (.r 9 1 .nil) (fun a E=>pld (hK158 _ _ (pl0 (plc E (.r 0 2<|.b 2 1 (S.ba 2)<|.r 3 1<|.x 4 c159<|.r 5 1<|.c 6 (S.fc hc163 1)<|.nil) (fun a E=>?_)))))
 obtain ⟨t179,h180,H⟩:=bd H
 refine ple E (.cl en42 (qq.calls ((nth qD.z ((nth qC.z x.f6 x112).f1) x148).f1) _ _ _ _ _ S.own.sub g166 h180)) ?_
 rintro _ u178 a ⟨F181,A182,c183,rfl,hC⟩ E
 have hs:=hC.sub
 replace S:=S.called (X:=[]) hC
 replace g130:=g130.mono hs
 replace g166:=g166.mono hs
 replace g0_4:=g0_4.mono hs
 replace g0_5:=g0_5.mono hs
 replace g0_6:=g0_6.mono hs
 obtain ⟨c186,H⟩:=gd H
 replace S:=S.front 1 rfl
 refine ple E (.ap (d:=ki) 8 S (qAN (S.row_at (i:=1) rfl)) c186 c183) ?_
 rintro _ u189 a ⟨A187,c188,rfl,S,hz⟩ E
 refine plc E (.r 9 1 .nil) (fun a E=>pld ?_)
 refine qAL ?_
 refine hK157 _ _ (pl0 (plc E (.r 0 3 .nil) (fun a E=>pld ?_)))
 replace S:=S.pm [3,4,5,0] 6
 exact qAM ⟨k152,by omega,_,A187,c188,((l147++[(nth qD.z ((nth qC.z x.f6 x112).f1) x148).f0])++t179),(w64 (x148+1)),F181,by omega,E,.of,S,g130,g0_4,g0_5,g0_6,H⟩
 refine wp_exit ?_
 refine hK121 _ _ (pl0 (plc E (.r 0 3 .nil) (fun a E=>pld ?_)))
 replace S:=S.tail
 exact qAM ⟨k152,by omega,_,A145,c146,l147,(w64 (x112+1)),F149,by omega,E,.of,S,g0_4,g0_5,g0_6,H⟩
 refine wp_exit ?_
 refine hK106 _ _ (sq fun K190 hK190=>pl0 (plc E (.r 0 2 .nil) (fun a E=>pls E S [.slice A109 l111.length c110,.slice none 0 0] fun u191 hb4 S a E=>pld (hK190 _ _ (wp_ret ?_)))))
 replace S:=S.pm [] 2
 obtain rfl:=si H
 exact ret1 E rfl (.cell (by kernel_rfl) (qBJ [.slice A109 l111.length c110,.slice none 0 0] ag69 sz69 hb4 rfl) .nil) ⟨_,rfl,_,_,_,_,_,rfl,S,(Rd.nil _ _)⟩
def qg.f:Nat→Int→Option (List Int)
 | 0,_=>none
 | k+1,x=>if x<128 then (some [(IntKind.u8.wrap x)]) else ((qg.f k (IntKind.u64.wrap (x.tdiv 128))).bind fun t16=>(if (([(IntKind.u8.wrap (IntKind.u64.wrap ((x.tmod 128)+128)))].length:Int)+(t16.length:Int)) * 1≤140737488355328 then (some ([(IntKind.u8.wrap (IntKind.u64.wrap ((x.tmod 128)+128)))]++t16)) else (none)))
theorem qg.f_s k x:type_of% (qg.f.eq_2 x k):=qg.f.eq_2 x k
def qg.Post(W F:World)(r:List Int)(v:Value)(w':World):Prop:=∃(F':World)(RA0_0:OA)(rc0_0:Nat),v = .slice RA0_0 r.length rc0_0∧Sm W F w' F' [row (Kn.int .u8) 5 (.slice RA0_0 r.length rc0_0) r]
theorem qg.calls:∀(k:Nat)(x:Int)(r:List Int)(W F:World)(hown:Sub F W)(H:qg.f k x=some r),
    Cr 71 #[.int .u64 x] W (qg.Post W F r):=by
 intro k
 induction k using Nat.strongRecOn
 rename_i k ih
 intro x r W F hown H
 obtain _ | k1:=k
 exact zz H
 have S:=sT hown
 rw [qg.f_s]at H
 refine ent 17 rfl rfl rfl (fun a E=>?_)
 refine rr E fun a E=>(sq fun K2 hK2=>rr E fun a E=>(E.ik 4 H (fun c4 E H=>?_) fun c4 E H=>?_))
 refine sq fun K5 hK5=>pl0 (plc E (.r 0 2 .nil) (fun a E=>ple E (.lit (d:=(Kn.int .u8)) (e:=5) S [(IntKind.u8.wrap x)] (.cons rfl .nil)) ?_))
 rintro _ u6 a ⟨A7,c8,rfl,S,hg⟩ E
 refine plc E (.r 3 1 .nil) (fun a E=>pld (hK5 _ _ (wp_ret (qAH ?_))))
 obtain rfl:=si H
 exact rt1 E ⟨_,rfl,_,_,_,rfl,S⟩
 refine wp_skip (hK2 _ _ (sq fun K10 hK10=>pl0 (plc E (.r 0 4 .nil) (fun a E=>ple E (.lit (d:=(Kn.int .u8)) (e:=5) S [(IntKind.u8.wrap (IntKind.u64.wrap ((x.tmod 128)+128)))] (.cons rfl .nil)) ?_))))
 rintro _ u11 a ⟨A12,c13,rfl,S,hg⟩ E
 refine plc E (.r 5 2 .nil) (fun a E=>?_)
 obtain ⟨t16,h17,H⟩:=bd H
 refine ple E (.cl en71 (ih k1 (by omega) (IntKind.u64.wrap (x.tdiv 128)) _ _ _ S.own.sub h17)) ?_
 rintro _ u15 a ⟨F18,A19,c20,rfl,hC⟩ E
 have hs:=hC.sub
 replace S:=S.called (X:=[]) hC
 obtain ⟨c23,H⟩:=gd H
 replace S:=S.front 1 rfl
 refine ple E (.ap (d:=(Kn.int .u8)) 1 S (qAN (S.row_at (i:=1) rfl)) c23 c20) ?_
 rintro _ u26 a ⟨A24,c25,rfl,S,hz⟩ E
 refine plc E (.r 9 1 .nil) (fun a E=>pld (hK10 _ _ (wp_ret ?_)))
 replace S:=S.pm [0] 2
 obtain rfl:=si H
 exact rt1 E ⟨_,rfl,_,_,_,rfl,S⟩
def qm.f(k:Nat)(x:Int):Option (List Int):=(qg.f k (IntKind.u64.wrap x)).bind fun t4=>(some t4)
def qm.Post(W F:World)(r:List Int)(v:Value)(w':World):Prop:=∃(F':World)(RA0_0:OA)(rc0_0:Nat),v = .slice RA0_0 r.length rc0_0∧Sm W F w' F' [row (Kn.int .u8) 5 (.slice RA0_0 r.length rc0_0) r]
theorem qm.calls(k:Nat)(x:Int)(r:List Int)(W F:World)(hown:Sub F W)(H:qm.f k x=some r):
    Cr 63 #[iv x] W (qm.Post W F r):=by
 have S:=sT hown
 unfold qm.f at H
 refine ent 6 rfl rfl rfl (fun a E=>?_)
 refine rr E fun a E=>(sq fun K2 hK2=>pl0 (plc E (.r 0 2 .nil) (fun a E=>?_)))
 obtain ⟨t4,h5,H⟩:=bd H
 refine ple E (.cl en71 (qg.calls k (IntKind.u64.wrap x) _ _ _ S.own.sub h5)) ?_
 rintro _ u3 a ⟨F6,A7,c8,rfl,hC⟩ E
 have hs:=hC.sub
 replace S:=S.called (X:=[]) hC
 refine plc E (.r 3 1 .nil) (fun a E=>pld (hK2 _ _ (wp_ret ?_)))
 obtain rfl:=si H
 exact rt1 E ⟨_,rfl,_,_,_,rfl,S⟩
def qr.f(k:Nat)(x:Int):Option (List Int):=if x≥0 then ((qg.f k (IntKind.u64.wrap ((IntKind.u64.wrap x) * 2))).bind fun t7=>(some t7)) else ((qg.f k (IntKind.u64.wrap ((IntKind.u64.wrap ((IntKind.u64.wrap (w64 ((-1) - x))) * 2))+1))).bind fun t16=>(some t16))
def qr.Post(W F:World)(r:List Int)(v:Value)(w':World):Prop:=∃(F':World)(RA0_0:OA)(rc0_0:Nat),v = .slice RA0_0 r.length rc0_0∧Sm W F w' F' [row (Kn.int .u8) 5 (.slice RA0_0 r.length rc0_0) r]
theorem qr.calls(k:Nat)(x:Int)(r:List Int)(W F:World)(hown:Sub F W)(H:qr.f k x=some r):
    Cr 64 #[iv x] W (qr.Post W F r):=by
 have S:=sT hown
 unfold qr.f at H
 refine ent 15 rfl rfl rfl (fun a E=>?_)
 refine rr E fun a E=>(sq fun K2 hK2=>rr E fun a E=>(E.ik 4 H (fun c4 E H=>?_) fun c4 E H=>?_))
 refine sq fun K5 hK5=>pl0 (plc E (.r 0 3 .nil) (fun a E=>?_))
 obtain ⟨t7,h8,H⟩:=bd H
 refine ple E (.cl en71 (qg.calls k (IntKind.u64.wrap ((IntKind.u64.wrap x) * 2)) _ _ _ S.own.sub h8)) ?_
 rintro _ u6 a ⟨F9,A10,c11,rfl,hC⟩ E
 have hs:=hC.sub
 replace S:=S.called (X:=[]) hC
 refine plc E (.r 4 1 .nil) (fun a E=>pld (hK5 _ _ (wp_ret (qAH ?_))))
 obtain rfl:=si H
 exact rt1 E ⟨_,rfl,_,_,_,rfl,S⟩
 refine wp_skip (hK2 _ _ (sq fun K14 hK14=>pl0 (plc E (.r 0 5 .nil) (fun a E=>?_))))
 obtain ⟨t16,h17,H⟩:=bd H
 refine ple E (.cl en71 (qg.calls k (IntKind.u64.wrap ((IntKind.u64.wrap ((IntKind.u64.wrap (w64 ((-1) - x))) * 2))+1)) _ _ _ S.own.sub h17)) ?_
 rintro _ u15 a ⟨F18,A19,c20,rfl,hC⟩ E
 have hs:=hC.sub
 replace S:=S.called (X:=[]) hC
 refine plc E (.r 6 1 .nil) (fun a E=>pld (hK14 _ _ (wp_ret ?_)))
 obtain rfl:=si H
 exact rt1 E ⟨_,rfl,_,_,_,rfl,S⟩
end Go.Proofs.Ytpabbpebefdafaa.PM
