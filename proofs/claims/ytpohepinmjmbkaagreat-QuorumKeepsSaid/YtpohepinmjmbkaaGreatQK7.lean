import Derived.Test.YtpohepinmjmbkaaGreatQK6
namespace Go.Proofs.YtpohepinmjmbkaaGreat.QK
open Go Go.RowKit Go.Proofs.YtpohepinmjmbkaaGreat.Sl
set_option linter.unusedVariables false
set_option linter.unusedSimpArgs false
set_option maxHeartbeats 4000000
set_option maxRecDepth 100000
def qAX.f(k:Nat):Option Bool:=(qBw.f k 2 1 1).bind fun t4=>((qAk.f k t4.1 (⟨1,5,1,1,3,0,[]⟩:qd)).bind fun t24=>((qAk.f k t24.1 (⟨3,5,0,0,0,0,[]⟩:qd)).bind fun t42=>((qm.f k t42.1 0 []).bind fun t60=>((qm.f k t42.1 0 [(⟨5,0,0,0,0⟩:qJ)]).bind fun t82=>(if t60.2=0 then (if t82.2=0 then (if t60.1.f0=true then (some false) else ((qAM.f k t60.1.f2 [5]).bind fun t105=>(if t105=true then (if t82.1.f0=true then (some (t82.1.f1 == 5)) else (some false)) else (some false)))) else (some false)) else (some false))))))
def qAX.Post(W F:World)(r:Bool)(v:Value)(w':World):Prop:=∃(F':World),v = .bool r∧Sm W F w' F' []
theorem qAX.calls(k:Nat)(r:Bool)(W F:World)(hown:Sub F W)(H:qAX.f k=some r):
    Cr 49 #[] W (qAX.Post W F r):=by
 have S:=sT hown
 unfold qAX.f at H
 refine ent 61 rfl rfl rfl (fun a E=>?_)
 refine rr E fun a E=>(sq fun K2 hK2=>pl0 ?_)
 obtain ⟨t4,h5,H⟩:=bd H
 refine ple E (.cl en15 (qBw.calls k 2 1 1 _ _ _ S.own.sub h5)) ?_
 rintro _ u3 a ⟨F6,A7,c8,A10,c11,A13,c14,rfl,hC,g9,g12⟩ E
 have hs:=hC.sub
 replace S:=S.called (X:=[]) hC
 refine plc E (.r 1 3 .nil) (fun a E=>pla (t:=26) E S [iv 0,iv 0,iv 0,iv 0,.slice none 0 0,.slice none 0 0,.slice none 0 0] fun b17 u18 hb17 S a E=>pls E S [iv t4.1.f0,iv t4.1.f1,iv t4.1.f2,iv t4.1.f3,.slice A7 t4.1.f4.length c8,.slice A10 t4.1.f5.length c11,.slice A13 t4.1.f6.length c14] fun u19 hb17 S a E=>plc E (.r 6 1 .nil) (fun a E=>pld (hK2 _ _ (sq fun K20 hK20=>pl0 (plc E (.bn 0 0 7 hb17<|.r 1 1<|.nil) (fun a E=>?_))))))
 replace S:=S.front 1 rfl
 obtain ⟨F21,hs,g22,S⟩:=S.give
 replace g9:=g9.mono hs
 replace g12:=g12.mono hs
 obtain ⟨t24,h25,H⟩:=bd H
 refine ple E (.cl en26 (qAk.calls k t4.1 (⟨1,5,1,1,3,0,[]⟩:qd) _ _ _ _ _ _ _ _ _ _ _ S.own.sub g9 g12 g22 (Rd.nil _ _) h25)) ?_
 rintro _ u23 a ⟨F26,A27,c28,A30,c31,A33,c34,rfl,hC,g29,g32⟩ E
 have hs:=hC.sub
 replace S:=S.called (X:=[]) hC
 replace g9:=g9.mono hs
 replace g12:=g12.mono hs
 replace g22:=g22.mono hs
 refine plc E (.r 3 3 .nil) (fun a E=>?_)
 replace S:=S.front 1 rfl
 refine pls E S [iv t24.1.f0,iv t24.1.f1,iv t24.1.f2,iv t24.1.f3,.slice A27 t24.1.f4.length c28,.slice A30 t24.1.f5.length c31,.slice A33 t24.1.f6.length c34] fun u37 hb17 S a E=>pld (hK20 _ _ (sq fun K38 hK38=>pl0 (plc E (.bn 0 0 7 hb17<|.r 1 1<|.nil) (fun a E=>?_))))
 replace S:=S.front 1 rfl
 obtain ⟨F39,hs,g40,S⟩:=S.give
 replace g9:=g9.mono hs
 replace g12:=g12.mono hs
 replace g22:=g22.mono hs
 replace g29:=g29.mono hs
 replace g32:=g32.mono hs
 obtain ⟨t42,h43,H⟩:=bd H
 refine ple E (.cl en26 (qAk.calls k t24.1 (⟨3,5,0,0,0,0,[]⟩:qd) _ _ _ _ _ _ _ _ _ _ _ S.own.sub g29 g32 g40 (Rd.nil _ _) h43)) ?_
 rintro _ u41 a ⟨F44,A45,c46,A48,c49,A51,c52,rfl,hC,g47,g50⟩ E
 have hs:=hC.sub
 replace S:=S.called (X:=[]) hC
 replace g9:=g9.mono hs
 replace g12:=g12.mono hs
 replace g22:=g22.mono hs
 replace g29:=g29.mono hs
 replace g32:=g32.mono hs
 replace g40:=g40.mono hs
 refine plc E (.r 3 3 .nil) (fun a E=>?_)
 replace S:=S.front 1 rfl
 refine pls E S [iv t42.1.f0,iv t42.1.f1,iv t42.1.f2,iv t42.1.f3,.slice A45 t42.1.f4.length c46,.slice A48 t42.1.f5.length c49,.slice A51 t42.1.f6.length c52] fun u55 hb17 S a E=>pld (hK38 _ _ (sq fun K56 hK56=>pl0 (plc E (.bn 0 0 7 hb17 .nil) (fun a E=>?_))))
 replace S:=S.front 1 rfl
 obtain ⟨F57,hs,g58,S⟩:=S.give
 replace g9:=g9.mono hs
 replace g12:=g12.mono hs
 replace g22:=g22.mono hs
 replace g29:=g29.mono hs
 replace g32:=g32.mono hs
 replace g40:=g40.mono hs
 replace g47:=g47.mono hs
 replace g50:=g50.mono hs
 obtain ⟨t60,h61,H⟩:=bd H
 refine ple E (.cl en50 (qm.calls k t42.1 0 [] _ _ _ _ _ _ _ _ _ _ _ S.own.sub g47 g50 g58 (Rd.nil _ _) h61)) ?_
 rintro _ u59 a ⟨F62,A63,c64,A67,c68,rfl,hC⟩ E
 have hs:=hC.sub
 replace S:=S.called (X:=[]) hC
 replace g9:=g9.mono hs
 replace g12:=g12.mono hs
 replace g22:=g22.mono hs
 replace g29:=g29.mono hs
 replace g32:=g32.mono hs
 replace g40:=g40.mono hs
 replace g47:=g47.mono hs
 replace g50:=g50.mono hs
 replace g58:=g58.mono hs
 refine plc E (.r 2 3 .nil) (fun a E=>pla (t:=74) E S [.bool false,iv 0,.slice none 0 0,.slice none 0 0] fun b71 u72 hb71 S a E=>pls E S [.bool t60.1.f0,iv t60.1.f1,.slice A63 t60.1.f2.length c64,.slice A67 t60.1.f3.length c68] fun u73 hb71 S a E=>plc E (.r 7 1 .nil) (fun a E=>pld (hK56 _ _ (sq fun K74 hK74=>pl0 (plc E (.bn 0 0 7 (S.ba 3)<|.r 1 1<|.nil) (fun a E=>ple E (.lit (d:=qJ.k) (e:=86) S [(⟨5,0,0,0,0⟩:qJ)] (.cons rfl .nil)) ?_))))))
 rintro _ u75 a ⟨A76,c77,rfl,S,hg⟩ E
 obtain ⟨F79,hs,g80,S⟩:=S.give
 replace g9:=g9.mono hs
 replace g12:=g12.mono hs
 replace g22:=g22.mono hs
 replace g29:=g29.mono hs
 replace g32:=g32.mono hs
 replace g40:=g40.mono hs
 replace g47:=g47.mono hs
 replace g50:=g50.mono hs
 replace g58:=g58.mono hs
 obtain ⟨t82,h83,H⟩:=bd H
 refine ple E (.cl en50 (qm.calls k t42.1 0 [(⟨5,0,0,0,0⟩:qJ)] _ _ _ _ _ _ _ _ _ _ _ S.own.sub g47 g50 g58 g80 h83)) ?_
 rintro _ u81 a ⟨F84,A85,c86,A89,c90,rfl,hC⟩ E
 have hs:=hC.sub
 replace S:=S.called (X:=[]) hC
 replace g9:=g9.mono hs
 replace g12:=g12.mono hs
 replace g22:=g22.mono hs
 replace g29:=g29.mono hs
 replace g32:=g32.mono hs
 replace g40:=g40.mono hs
 replace g47:=g47.mono hs
 replace g50:=g50.mono hs
 replace g58:=g58.mono hs
 replace g80:=g80.mono hs
 refine plc E (.r 4 3 .nil) (fun a E=>pla (t:=74) E S [.bool false,iv 0,.slice none 0 0,.slice none 0 0] fun b93 u94 hb93 S a E=>pls E S [.bool t82.1.f0,iv t82.1.f1,.slice A85 t82.1.f2.length c86,.slice A89 t82.1.f3.length c90] fun u95 hb93 S a E=>plc E (.r 9 1 .nil) (fun a E=>pld (hK74 _ _ (sq fun K96 hK96=>pl0 (plc E (.r 0 3 .nil) (fun a E=>E.fk 37 H (fun c97 E H=>?_) fun c97 E H=>?_))))))
 refine plc E (.r 3 4 .nil) (fun a E=>E.fk 41 H (fun c98 E H=>?_) fun c98 E H=>?_)
 have hb71:=S.ba 3
 refine plc E (.r 7 1<|.b 8 0 hb71<|.r 9 3<|.nil) (fun a E=>E.fbn 46 H (fun c99 E H=>?_) fun c99 E H=>?_)
 refine plc E (.r 12 15 .nil) (fun a E=>pld (hK96 _ _ (wp_ret ?_)))
 replace S:=S.pm [] 7
 obtain rfl:=si H
 exact rt1 E ⟨_,rfl,_,rfl,S⟩
 refine plc E (.r 12 1<|.b 13 2 hb71<|.nil) (fun a E=>ple E (.lit (d:=ki) (e:=3) S [5] (.cons rfl .nil)) ?_)
 rintro _ u100 a ⟨A101,c102,rfl,S,hg⟩ E
 obtain ⟨t105,h106,H⟩:=bd H
 refine plq E S en21 (qAM.calls k t60.1.f2 [5] _ _ _ _ _ _ _ (Sub.refl _) (S.rd_at (i:=5) rfl) (S.rd_at (i:=0) rfl) h106) fun u104 S a E=>plc E (.r 16 2 .nil) (fun a E=>E.fb 52 H (fun c107 E H=>?_) fun c107 E H=>?_)
 have hb93:=S.ba 1
 refine plc E (.r 18 1<|.b 19 0 hb93<|.r 20 2<|.nil) (fun a E=>E.fb 56 H (fun c108 E H=>?_) fun c108 E H=>?_)
 refine plc E (.r 22 1<|.b 23 1 hb93<|.r 24 3<|.nil) (fun a E=>pld (hK96 _ _ (wp_ret ?_)))
 replace S:=S.pm [] 8
 obtain rfl:=si H
 exact rt1 E ⟨_,rfl,_,rfl,S⟩
 refine plc E (.r 22 5 .nil) (fun a E=>pld (hK96 _ _ (wp_ret ?_)))
 replace S:=S.pm [] 8
 obtain rfl:=si H
 exact rt1 E ⟨_,rfl,_,rfl,S⟩
 refine plc E (.r 18 9 .nil) (fun a E=>pld (hK96 _ _ (wp_ret ?_)))
 replace S:=S.pm [] 8
 obtain rfl:=si H
 exact rt1 E ⟨_,rfl,_,rfl,S⟩
 refine plc E (.r 7 20 .nil) (fun a E=>pld (hK96 _ _ (wp_ret ?_)))
 replace S:=S.pm [] 7
 obtain rfl:=si H
 exact rt1 E ⟨_,rfl,_,rfl,S⟩
 refine plc E (.r 3 24 .nil) (fun a E=>pld (hK96 _ _ (wp_ret ?_)))
 replace S:=S.pm [] 7
 obtain rfl:=si H
 exact rt1 E ⟨_,rfl,_,rfl,S⟩
def qBA.f(k:Nat)(x:qG)(y:Int):Option Bool:=(qAI.f k x.f4 y).bind fun t6=>(if t6.2=true then (some t6.1.f4) else (some false))
def qBA.Post(W F:World)(r:Bool)(v:Value)(w':World):Prop:=∃(F':World),v = .bool r∧Sm W F w' F' []
theorem qBA.calls(k:Nat)(x:qG)(y:Int)(A0_4:OA)(c0_4:Nat)(A0_5:OA)(c0_5:Nat)(A0_6:OA)(c0_6:Nat)(r:Bool)(W F:World)(hown:Sub F W)(g0_4:Rd qA.k F A0_4 c0_4 x.f4)(g0_5:Rd qE.k F A0_5 c0_5 x.f5)(g0_6:Rd qC.k F A0_6 c0_6 x.f6)(H:qBA.f k x y=some r):
    Cr 56 #[.agg #[iv x.f0,iv x.f1,iv x.f2,iv x.f3,.slice A0_4 x.f4.length c0_4,.slice A0_5 x.f5.length c0_5,.slice A0_6 x.f6.length c0_6],iv y] W (qBA.Post W F r):=by
 have S:=sT hown
 unfold qBA.f at H
 refine ent 19 rfl rfl rfl (fun a E=>?_)
 refine sq fun K1 hK1=>pl0 (plx (t:=26) E S [iv x.f0,iv x.f1,iv x.f2,iv x.f3,.slice A0_4 x.f4.length c0_4,.slice A0_5 x.f5.length c0_5,.slice A0_6 x.f6.length c0_6] fun b2 u3 hb2 S a E=>plc E (.r 1 1 .nil) (fun a E=>pld (hK1 _ _ (sq fun K4 hK4=>pl0 (plc E (.r 0 1<|.b 1 4 hb2<|.r 2 1<|.nil) (fun a E=>?_))))))
 obtain ⟨t6,h7,H⟩:=bd H
 refine plq E S en75 (qAI.calls k x.f4 y _ _ _ _ _ S.own.sub g0_4 h7) fun u5 S a E=>plc E (.r 4 3 .nil) (fun a E=>pla (t:=104) E S [iv 0,iv 0,iv 0,iv 0,.bool false,.bool false] fun b8 u9 hb8 S a E=>pls E S [iv t6.1.f0,iv t6.1.f1,iv t6.1.f2,iv t6.1.f3,.bool t6.1.f4,.bool t6.1.f5] fun u10 hb8 S a E=>plc E (.r 9 1 .nil) (fun a E=>pld (hK4 _ _ (sq fun K11 hK11=>pl0 (plc E (.r 0 2 .nil) (fun a E=>E.fb 15 H (fun c12 E H=>?_) fun c12 E H=>?_))))))
 refine plc E (.r 2 1<|.b 3 4 hb8<|.r 4 2<|.nil) (fun a E=>pld (hK11 _ _ (wp_ret ?_)))
 replace S:=S.pm [] 2
 obtain rfl:=si H
 exact rt1 E ⟨_,rfl,_,rfl,S⟩
 refine plc E (.r 2 4 .nil) (fun a E=>pld (hK11 _ _ (wp_ret ?_)))
 replace S:=S.pm [] 2
 obtain rfl:=si H
 exact rt1 E ⟨_,rfl,_,rfl,S⟩
mutual
def qD.j19:Nat→qG→List qd→List Int→Bool→Option Bool
 | 0,_,_,_,_=>none
 | k+1,x,y,z,y18=>if y18=true then ((qAX.f k).bind fun t27=>(some t27)) else (qD.l32 k x y z 0)
def qD.l32:Nat→qG→List qd→List Int→Int→Option Bool
 | 0,_,_,_,_=>none
 | k+1,x,y,z,x31=>if x31<x.f3 then (if 0≤x31∧x31<(x.f6.length:Int) then (if (((nth qC.z x.f6 x31).f1).length:Int)>0 then ((qAX.f k).bind fun t52=>(some t52)) else (qD.l32 k x y z (w64 (x31+1)))) else (none)) else ((qBD.f k x 0).bind fun t57=>(if (t57.length:Int)>0 then ((qAX.f k).bind fun t67=>(some t67)) else (if ((([]:List qC).length:Int)+(x.f6.length:Int)) * 32≤140737488355328 then (qD.l105 k y z 0 0 [] x.f0 x.f1 x.f2 x.f3 x.f4 x.f5 (([]:List qC)++x.f6)) else (none))))
def qD.l105:Nat→List qd→List Int→Int→Int→List (Int × qK)→Int→Int→Int→Int→List qA→List qE→List qC→Option Bool
 | 0,_,_,_,_,_,_,_,_,_,_,_,_=>none
 | k+1,y,z,x85,x86,l87,x88,x89,x90,x91,l94,l98,l102=>if x86<(y.length:Int) then (if 0≤x86∧x86<(y.length:Int) then ((qAk.f k (⟨x88,x89,x90,x91,l94,l98,l102⟩:qG) (nth qd.z y x86)).bind fun t122=>(if t122.2=0 then (qD.j152 k y z x85 x86 l87 x88 x89 x90 x91 l94 l98 l102 t122 ((nth qd.z y x86).f0 == 10)) else (qD.j152 k y z x85 x86 l87 x88 x89 x90 x91 l94 l98 l102 t122 true))) else (none)) else ((qAX.f k).bind fun t349=>(some t349))
def qD.j152:Nat→List qd→List Int→Int→Int→List (Int × qK)→Int→Int→Int→Int→List qA→List qE→List qC→qG × Int→Bool→Option Bool
 | 0,_,_,_,_,_,_,_,_,_,_,_,_,_,_=>none
 | k+1,y,z,x85,x86,l87,x88,x89,x90,x91,l94,l98,l102,t122,y151=>if y151=true then (qD.l105 k y z x85 (w64 (x86+1)) l87 x88 x89 x90 x91 l94 l98 l102) else (if x86<(z.length:Int) then (if 0≤x86∧x86<(z.length:Int) then (qD.j170 k y z x85 x86 l87 t122 (w64 (nth 0 z x86))) else (none)) else (qD.j170 k y z x85 x86 l87 t122 0))
def qD.j170:Nat→List qd→List Int→Int→Int→List (Int × qK)→qG × Int→Int→Option Bool
 | 0,_,_,_,_,_,_,_=>none
 | k+1,y,z,x85,x86,l87,t122,x169=>qD.l187 k y z x85 x86 l87 t122 x169 ([]:List qJ) 1
def qD.l187:Nat→List qd→List Int→Int→Int→List (Int × qK)→qG × Int→Int→List qJ→Int→Option Bool
 | 0,_,_,_,_,_,_,_,_,_=>none
 | k+1,y,z,x85,x86,l87,t122,x169,l185,x186=>if x186≤9 then ((qBA.f k t122.1 x186).bind fun t197=>(if t197=true then (if 0≤(IntKind.u64.wrap (x186.tmod 7)) then (qD.j202 k y z x85 x86 l87 t122 x169 l185 x186 (((x169.fdiv (2 ^ (min (IntKind.u64.wrap (x186.tmod 7)).toNat 64))).tmod 2) == 0)) else (none)) else (qD.j202 k y z x85 x86 l87 t122 x169 l185 x186 false))) else ((qm.f k t122.1 0 l185).bind fun t227=>(if t227.2=0 then (if t227.1.f0=true then (if -9223372036854775808≤t227.1.f1∧t227.1.f1≤9223372036854775807 then (if (mget qK.z l87 t227.1.f1).f1=x85 then (if 0≤(0:Int)∧0<(t122.1.f6.length:Int) then ((qBD.f k t122.1 0).bind fun t268=>(qD.l279 k y z x85 x86 t122 x169 t268 0 l87)) else (none)) else (some false)) else (none)) else (qD.l105 k y z x85 (w64 (x86+1)) l87 t122.1.f0 t122.1.f1 t122.1.f2 t122.1.f3 t122.1.f4 t122.1.f5 t122.1.f6)) else (some false)))
def qD.j202:Nat→List qd→List Int→Int→Int→List (Int × qK)→qG × Int→Int→List qJ→Int→Bool→Option Bool
 | 0,_,_,_,_,_,_,_,_,_,_=>none
 | k+1,y,z,x85,x86,l87,t122,x169,l185,x186,y201=>if y201=true then (if -9223372036854775808≤x186∧x186≤9223372036854775807 then (if ((l185.length:Int)+((1:Nat):Int)) * 40≤140737488355328 then (qD.l187 k y z x85 x86 l87 t122 x169 (l185++[(⟨x186,(mget qK.z l87 x186).f0,0,(mget qK.z l87 x186).f1,0⟩:qJ)]) (w64 (x186+1))) else (none)) else (none)) else (qD.l187 k y z x85 x86 l87 t122 x169 l185 (w64 (x186+1)))
def qD.l279:Nat→List qd→List Int→Int→Int→qG × Int→Int→List Int→Int→List (Int × qK)→Option Bool
 | 0,_,_,_,_,_,_,_,_,_=>none
 | k+1,y,z,x85,x86,t122,x169,t268,x277,l278=>if x277<(t268.length:Int) then (if 0≤x277∧x277<(t268.length:Int) then (if -9223372036854775808≤(nth 0 t268 x277)∧(nth 0 t268 x277)≤9223372036854775807 then (if x277=0 then (qD.j304 k y z x85 x86 t122 x169 t268 x277 l278 true) else (qD.j304 k y z x85 x86 t122 x169 t268 x277 l278 (decide ((x169.tmod 3)>0)))) else (none)) else (none)) else (if (x169.tmod 3)>0 then (qD.l329 k y z x85 x86 t122 t268 0 l278) else (qD.l105 k y z x85 (w64 (x86+1)) l278 t122.1.f0 t122.1.f1 t122.1.f2 t122.1.f3 t122.1.f4 t122.1.f5 t122.1.f6))
def qD.j304:Nat→List qd→List Int→Int→Int→qG × Int→Int→List Int→Int→List (Int × qK)→Bool→Option Bool
 | 0,_,_,_,_,_,_,_,_,_,_=>none
 | k+1,y,z,x85,x86,t122,x169,t268,x277,l278,y303=>if y303=true then (qD.j312 k y z x85 x86 t122 x169 t268 x277 l278 ((nth qC.z t122.1.f6 0).f0)) else (qD.j312 k y z x85 x86 t122 x169 t268 x277 l278 ((mget qK.z l278 (nth 0 t268 x277)).f0))
def qD.j312:Nat→List qd→List Int→Int→Int→qG × Int→Int→List Int→Int→List (Int × qK)→Int→Option Bool
 | 0,_,_,_,_,_,_,_,_,_,_=>none
 | k+1,y,z,x85,x86,t122,x169,t268,x277,l278,x311=>if l278.length<1000000 ∧ -9223372036854775808≤(nth 0 t268 x277)∧(nth 0 t268 x277)≤9223372036854775807 then (qD.l279 k y z x85 x86 t122 x169 t268 (w64 (x277+1)) (((nth 0 t268 x277),(⟨x311,x85⟩:qK)) :: l278)) else (none)
def qD.l329:Nat→List qd→List Int→Int→Int→qG × Int→List Int→Int→List (Int × qK)→Option Bool
 | 0,_,_,_,_,_,_,_,_=>none
 | k+1,y,z,x85,x86,t122,t268,x327,l328=>if x327<(t268.length:Int) then (if 0≤x327∧x327<(t268.length:Int) then (if l328.length<1000000 ∧ -9223372036854775808≤(nth 0 t268 x327)∧(nth 0 t268 x327)≤9223372036854775807 then (qD.l329 k y z x85 x86 t122 t268 (w64 (x327+1)) (((nth 0 t268 x327),(⟨(nth qC.z t122.1.f6 0).f0,(w64 (x85+1))⟩:qK)) :: l328)) else (none)) else (none)) else (qD.l105 k y z (w64 (x85+1)) (w64 (x86+1)) l328 t122.1.f0 t122.1.f1 t122.1.f2 t122.1.f3 t122.1.f4 t122.1.f5 t122.1.f6)
end
theorem qD.j19_s k x y z y18:type_of% (qD.j19.eq_2 x y z y18 k):=qD.j19.eq_2 x y z y18 k
theorem qD.l32_s k x y z x31:type_of% (qD.l32.eq_2 x y z x31 k):=qD.l32.eq_2 x y z x31 k
theorem qD.l105_s k y z x85 x86 l87 x88 x89 x90 x91 l94 l98 l102:type_of% (qD.l105.eq_2 y z x85 x86 l87 x88 x89 x90 x91 l94 l98 l102 k):=qD.l105.eq_2 y z x85 x86 l87 x88 x89 x90 x91 l94 l98 l102 k
theorem qD.j152_s k y z x85 x86 l87 x88 x89 x90 x91 l94 l98 l102 t122 y151:type_of% (qD.j152.eq_2 y z x85 x86 l87 x88 x89 x90 x91 l94 l98 l102 t122 y151 k):=qD.j152.eq_2 y z x85 x86 l87 x88 x89 x90 x91 l94 l98 l102 t122 y151 k
theorem qD.j170_s k y z x85 x86 l87 t122 x169:type_of% (qD.j170.eq_2 y z x85 x86 l87 t122 x169 k):=qD.j170.eq_2 y z x85 x86 l87 t122 x169 k
theorem qD.l187_s k y z x85 x86 l87 t122 x169 l185 x186:type_of% (qD.l187.eq_2 y z x85 x86 l87 t122 x169 l185 x186 k):=qD.l187.eq_2 y z x85 x86 l87 t122 x169 l185 x186 k
theorem qD.j202_s k y z x85 x86 l87 t122 x169 l185 x186 y201:type_of% (qD.j202.eq_2 y z x85 x86 l87 t122 x169 l185 x186 y201 k):=qD.j202.eq_2 y z x85 x86 l87 t122 x169 l185 x186 y201 k
theorem qD.l279_s k y z x85 x86 t122 x169 t268 x277 l278:type_of% (qD.l279.eq_2 y z x85 x86 t122 x169 t268 x277 l278 k):=qD.l279.eq_2 y z x85 x86 t122 x169 t268 x277 l278 k
theorem qD.j304_s k y z x85 x86 t122 x169 t268 x277 l278 y303:type_of% (qD.j304.eq_2 y z x85 x86 t122 x169 t268 x277 l278 y303 k):=qD.j304.eq_2 y z x85 x86 t122 x169 t268 x277 l278 y303 k
theorem qD.j312_s k y z x85 x86 t122 x169 t268 x277 l278 x311:type_of% (qD.j312.eq_2 y z x85 x86 t122 x169 t268 x277 l278 x311 k):=qD.j312.eq_2 y z x85 x86 t122 x169 t268 x277 l278 x311 k
theorem qD.l329_s k y z x85 x86 t122 t268 x327 l328:type_of% (qD.l329.eq_2 y z x85 x86 t122 t268 x327 l328 k):=qD.l329.eq_2 y z x85 x86 t122 t268 x327 l328 k
def qD.f(k:Nat)(x:qG)(y:List qd)(z:List Int):Option Bool:=(qV.f k x).bind fun t7=>(if t7=true then ((qp.f k y).bind fun t11=>(if t11=true then ((qe.f k x).bind fun t15=>(if t15=true then (qD.j19 k x y z (decide (x.f0>100000))) else (qD.j19 k x y z true))) else (qD.j19 k x y z true))) else (qD.j19 k x y z true))
def qD.Post(W F:World)(r:Bool)(v:Value)(w':World):Prop:=∃(F':World),v = .bool r∧Sm W F w' F' []
theorem qD.calls(k:Nat)(x:qG)(y:List qd)(z:List Int)(A0_4:OA)(c0_4:Nat)(A0_5:OA)(c0_5:Nat)(A0_6:OA)(c0_6:Nat)(A1_0:OA)(c1_0:Nat)(A2_0:OA)(c2_0:Nat)(r:Bool)(W F:World)(hown:Sub F W)(g0_4:Rd qA.k F A0_4 c0_4 x.f4)(g0_5:Rd qE.k F A0_5 c0_5 x.f5)(g0_6:Rd qC.k F A0_6 c0_6 x.f6)(g1_0:Rd qd.k F A1_0 c1_0 y)(g2_0:Rd (Kn.int .u8) F A2_0 c2_0 z)(H:qD.f k x y z=some r):
    Cr 12 #[.agg #[iv x.f0,iv x.f1,iv x.f2,iv x.f3,.slice A0_4 x.f4.length c0_4,.slice A0_5 x.f5.length c0_5,.slice A0_6 x.f6.length c0_6],.slice A1_0 y.length c1_0,.slice A2_0 z.length c2_0] W (qD.Post W F r):=by
 have S:=sT hown
 unfold qD.f at H
 refine ent 209 rfl rfl rfl (fun a E=>?_)
 refine sq fun K1 hK1=>pl0 (plx (t:=26) E S [iv x.f0,iv x.f1,iv x.f2,iv x.f3,.slice A0_4 x.f4.length c0_4,.slice A0_5 x.f5.length c0_5,.slice A0_6 x.f6.length c0_6] fun b2 u3 hb2 S a E=>plc E (.r 1 1 .nil) (fun a E=>pld (hK1 _ _ (sq fun K4 hK4=>sq fun K5 hK5=>?_))))
 have J22:∀ kq20,kq20≤k→∀(G:NV)(y18:Bool)(a:Act)(w':World),Env 209 G a→At G [(1,.slice A1_0 y.length c1_0),(2,.slice A2_0 z.length c2_0),(3,.pointer (pb b2)),(42,.bool y18)]→Sm W F w' F [box b2 #[iv x.f0,iv x.f1,iv x.f2,iv x.f3,.slice A0_4 x.f4.length c0_4,.slice A0_5 x.f5.length c0_5,.slice A0_6 x.f6.length c0_6] 26]→qD.j19 kq20 x y z y18=some r→K5 a w':=by
  intro kq20 hkq G y18 a u23 E A S H
  obtain _ | k21:=kq20
  exact zz H
  rw [qD.j19_s]at H
  obtain ⟨J,E⟩:=E.at A
  refine hK5 _ _ (E.ib 42 H (fun c24 E H=>?_) fun c24 E H=>?_)
  refine sq fun K25 hK25=>pl0 ?_
  obtain ⟨t27,h28,H⟩:=bd H
  refine plq E S en49 (qAX.calls k21 _ _ _ S.own.sub h28) fun u26 S a E=>plc E (.r 1 1 .nil) (fun a E=>pld (hK25 _ _ (wp_ret (qCA ?_))))
  replace S:=S.tail
  obtain rfl:=si H
  exact rt1 E ⟨_,rfl,_,rfl,S⟩
  refine wp_skip (hK4 _ _ (sq fun K29 hK29=>rr E fun a E=>(wp_block ?_)))
  refine wp_loop_ghost (fun kq33 a w'=>∃(G:NV)(x31:Int),kq33≤k21∧Env 209 G a∧At G [(1,.slice A1_0 y.length c1_0),(2,.slice A2_0 z.length c2_0),(3,.pointer (pb b2)),(7,iv x31)]∧Sm W F w' F [box b2 #[iv x.f0,iv x.f1,iv x.f2,iv x.f3,.slice A0_4 x.f4.length c0_4,.slice A0_5 x.f5.length c0_5,.slice A0_6 x.f6.length c0_6] 26]∧qD.l32 kq33 x y z x31=some r) k21 ⟨_,0,Nat.le_refl _,E,.of,S,H⟩ ?_
  rintro kq33 a u35 ⟨G,x31,hkq,E,A,S,H⟩
  obtain _ | k34:=kq33
  exact zz H
  rw [qD.l32_s]at H
  obtain ⟨J,E⟩:=E.at A
  refine sq fun K36 hK36=>sq fun K37 hK37=>pl0 ?_
  have hb2:=S.ba 0
  refine plc E (.r 0 2<|.b 2 3 hb2<|.r 3 1<|.nil) (fun a E=>pld (hK37 _ _ (E.ik 47 H (fun c38 E H=>?_) fun c38 E H=>?_)))
  refine wp_skip (hK36 _ _ (sq fun K39 hK39=>wp_block (sq fun K40 hK40=>pl0 ?_)))
  obtain ⟨c41,H⟩:=gd H
  have hE_:=E
  obtain ⟨ad42,rfl⟩:=g0_6.addr c41.1 c41.2
  replace E:=hE_
  obtain ⟨cs44,⟨A46,c47,rfl,g48⟩,hc45⟩:=g0_6.el qC.z x31 c41.1 c41.2
  refine plc E (.r 0 1<|.b 1 6 hb2<|.r 2 1<|.x 3 c41<|.r 4 1<|.c 5 (S.fc hc45 1)<|.r 6 2<|.nil) (fun a E=>pld (hK40 _ _ (E.ik 57 H (fun c49 E H=>?_) fun c49 E H=>?_)))
  refine sq fun K50 hK50=>pl0 ?_
  obtain ⟨t52,h53,H⟩:=bd H
  refine plq E S en49 (qAX.calls k34 _ _ _ S.own.sub h53) fun u51 S a E=>plc E (.r 1 1 .nil) (fun a E=>pld (hK50 _ _ (wp_ret (qCB (qCA (qCA (qCB (qCA ?_))))))))
  replace S:=S.tail
  obtain rfl:=si H
  exact rt1 E ⟨_,rfl,_,rfl,S⟩
  refine wp_skip ?_
  refine qCC ?_
  refine hK39 _ _ (pl0 (plc E (.r 0 3 .nil) (fun a E=>pld ?_)))
  exact qCD ⟨k34,by omega,_,(w64 (x31+1)),by omega,E,.of,S,H⟩
  refine wp_exit ?_
  refine hK29 _ _ (sq fun K54 hK54=>sq fun K55 hK55=>pl0 (plc E (.bn 0 0 7 hb2 .nil) (fun a E=>?_)))
  obtain ⟨t57,h58,H⟩:=bd H
  refine ple E (.cl en24 (qBD.calls k34 x 0 _ _ _ _ _ _ _ _ _ S.own.sub g0_4 g0_5 g0_6 h58)) ?_
  rintro _ u56 a ⟨F59,A60,c61,rfl,hC⟩ E
  have hs:=hC.sub
  replace S:=S.called (X:=[]) hC
  replace g1_0:=g1_0.mono hs
  replace g2_0:=g2_0.mono hs
  replace g0_4:=g0_4.mono hs
  replace g0_5:=g0_5.mono hs
  replace g0_6:=g0_6.mono hs
  refine plc E (.r 2 2 .nil) (fun a E=>pld (hK55 _ _ (E.ik 62 H (fun c64 E H=>?_) fun c64 E H=>?_)))
  refine sq fun K65 hK65=>pl0 ?_
  obtain ⟨t67,h68,H⟩:=bd H
  refine plq E S en49 (qAX.calls k34 _ _ _ S.own.sub h68) fun u66 S a E=>plc E (.r 1 1 .nil) (fun a E=>pld (hK65 _ _ (wp_ret (qCA ?_))))
  replace S:=S.pm [] 2
  obtain rfl:=si H
  exact rt1 E ⟨_,rfl,_,rfl,S⟩
  refine wp_skip (hK54 _ _ (sq fun K69 hK69=>pl0 (ple E (.lit (d:=qC.k) (e:=49) S ([]:List qC) (.nil)) ?_)))
  rintro _ u70 a ⟨A71,c72,rfl,S,hg⟩ E
  refine plc E (.r 1 1<|.b 2 6 (S.ba 2)<|.nil) (fun a E=>?_)
  obtain ⟨c74,H⟩:=gd H
  refine ple E (.ap (d:=qC.k) 32 S (g0_6.src S.own.sub) c74 c0_6) ?_
  rintro _ u77 a ⟨A75,c76,rfl,S,hz⟩ E
  refine plc E (.r 4 1 .nil) (fun a E=>?_)
  replace S:=S.front 2 rfl
  refine pls E S [iv x.f0,iv x.f1,iv x.f2,iv x.f3,.slice A0_4 x.f4.length c0_4,.slice A0_5 x.f5.length c0_5,.slice A75 ((([]:List qC)++x.f6).length) c76] fun u78 hb2 S a E=>pld (hK69 _ _ (sq fun K79 hK79=>pl0 (ple E (.mkm (kt:=3) S qK.mv qK.z) ?_)))
  rintro _ u81 a ⟨b80,rfl,S,hg⟩ E
  refine plc E (.r 1 1 .nil) (fun a E=>pld (hK79 _ _ (rr E fun a E=>(sq fun K83 hK83=>rr E fun a E=>(wp_block ?_)))))
  replace S:=S.front 2 rfl
  obtain ⟨F345,hs,g346,S⟩:=S.give
  replace g1_0:=g1_0.mono hs
  replace g2_0:=g2_0.mono hs
  replace g0_4:=g0_4.mono hs
  replace g0_5:=g0_5.mono hs
  replace g0_6:=g0_6.mono hs
  replace S:=S.pm [0,1] 3
  refine wp_loop_ghost (fun kq106 a w'=>∃(G:NV)(x85:Int)(x86:Int)(l87:List (Int × qK))(x88:Int)(x89:Int)(x90:Int)(x91:Int)(A92:OA)(c93:Nat)(l94:List qA)(A96:OA)(c97:Nat)(l98:List qE)(A100:OA)(c101:Nat)(l102:List qC)(F104:World),kq106≤k34∧Env 209 G a∧At G [(1,.slice A1_0 y.length c1_0),(2,.slice A2_0 z.length c2_0),(3,.pointer (pb b2)),(8,.map (some b80)),(9,iv x85),(10,iv x86)]∧Sm W F w' F104 [mapb Tryz.prog 3 qK.mv qK.z b80 l87,box b2 #[iv x88,iv x89,iv x90,iv x91,.slice A92 l94.length c93,.slice A96 l98.length c97,.slice A100 l102.length c101] 26]∧Rd qA.k F104 A92 c93 l94∧Rd qE.k F104 A96 c97 l98∧Rd qC.k F104 A100 c101 l102∧Rd qd.k F104 A1_0 c1_0 y∧Rd (Kn.int .u8) F104 A2_0 c2_0 z∧qD.l105 kq106 y z x85 x86 l87 x88 x89 x90 x91 l94 l98 l102=some r) k34 ⟨_,0,0,[],x.f0,x.f1,x.f2,x.f3,A0_4,c0_4,x.f4,A0_5,c0_5,x.f5,A75,c76,(([]:List qC)++x.f6),F345,Nat.le_refl _,E,.of,S,g0_4,g0_5,g346,g1_0,g2_0,H⟩ ?_
  rintro kq106 a u108 ⟨G,x85,x86,l87,x88,x89,x90,x91,A92,c93,l94,A96,c97,l98,A100,c101,l102,F104,hkq,E,A,S,g95,g99,g103,g1_0,g2_0,H⟩
  obtain _ | k107:=kq106
  exact zz H
  rw [qD.l105_s]at H
  obtain ⟨J,E⟩:=E.at A
  refine sq fun K109 hK109=>rr E fun a E=>(E.ik 73 H (fun c111 E H=>?_) fun c111 E H=>?_)
  refine wp_skip (hK109 _ _ (sq fun K112 hK112=>wp_block (sq fun K113 hK113=>?_)))
  refine drawn 12 ⟨[10],[],fun q=>False⟩ mixed rfl (by kernel_rfl) (fun hst=>?_)
  replace S:=S.drew
  have hb2:=S.ba 1
  obtain ⟨c114,H⟩:=gd H
  have hE_:=E
  obtain ⟨ad115,rfl⟩:=g1_0.addr c114.1 c114.2
  replace E:=hE_
  obtain ⟨cs117,⟨A119,c120,rfl,g121⟩,hc118⟩:=g1_0.el qd.z x86 c114.1 c114.2
  refine mny 7 hst E (.bn 0 0 7 hb2<|.r 1 2<|.x 3 c114<|.cs 4 (S.fcs hc118)<|.nil) (fun a E=>?_)
  obtain ⟨t122,h123,H⟩:=bd H
  refine meet2 (fun a w'=>∃(G:NV)(b136:Nat)(A132:OA)(c133:Nat)(A126:OA)(c127:Nat)(A129:OA)(c130:Nat)(F139:World),Env 209 G a∧At G [(1,.slice (some ad115) y.length c1_0),(2,.slice A2_0 z.length c2_0),(3,.pointer (pb b2)),(8,.map (some b80)),(9,iv x85),(10,iv x86),(11,.pointer (pb b136)),(83,.agg #[iv t122.1.f0,iv t122.1.f1,iv t122.1.f2,iv t122.1.f3,.slice A126 t122.1.f4.length c127,.slice A129 t122.1.f5.length c130,.slice A132 t122.1.f6.length c133]),(84,iv t122.2)]∧Sm W F w' F139 [box b136 #[iv 0,iv 0,iv 0,iv 0,.slice none 0 0,.slice none 0 0,.slice none 0 0] 26,mapb Tryz.prog 3 qK.mv qK.z b80 l87,box b2 #[iv x88,iv x89,iv x90,iv x91,.slice A92 l94.length c93,.slice A96 l98.length c97,.slice A100 l102.length c101] 26,row qC.k 49 (.slice A132 t122.1.f6.length c133) t122.1.f6]∧Rd qd.k F139 (some ad115) c1_0 y∧Rd (Kn.int .u8) F139 A2_0 c2_0 z∧Rd qA.k F139 A126 c127 t122.1.f4∧Rd qE.k F139 A129 c130 t122.1.f5∧Rd qA.k F139 A92 c93 l94∧Rd qE.k F139 A96 c97 l98∧Rd qC.k F139 A100 c101 l102) 2 1023 ?_ (fun hJ=>?_)
  rintro a u140 ⟨G,b136,A132,c133,A126,c127,A129,c130,F139,E,A,S,g1_0,g2_0,g128,g131,g95,g99,g103⟩
  obtain ⟨J,E⟩:=E.at A
  refine on1 10 E (.sto S [iv t122.1.f0,iv t122.1.f1,iv t122.1.f2,iv t122.1.f3,.slice A126 t122.1.f4.length c127,.slice A129 t122.1.f5.length c130,.slice A132 t122.1.f6.length c133]) ?_
  rintro _ u141 a ⟨rfl,hb136,S,hz⟩ E
  refine ⟨.d,?_⟩
  refine mny 0 hst E (.r 11 1 .nil) (fun a E=>?_)
  refine dn ?_
  refine hK113 _ _ (sq fun K142 hK142=>sq fun K143 hK143=>?_)
  have J155:∀ kq153,kq153≤k107→∀(G:NV)(y151:Bool)(a:Act)(w':World),Env 209 G a→At G [(1,.slice (some ad115) y.length c1_0),(2,.slice A2_0 z.length c2_0),(3,.pointer (pb b2)),(8,.map (some b80)),(9,iv x85),(10,iv x86),(11,.pointer (pb b136)),(94,.bool y151)]→Sm W F w' F139 [box b136 #[iv t122.1.f0,iv t122.1.f1,iv t122.1.f2,iv t122.1.f3,.slice A126 t122.1.f4.length c127,.slice A129 t122.1.f5.length c130,.slice A132 t122.1.f6.length c133] 26,mapb Tryz.prog 3 qK.mv qK.z b80 l87,box b2 #[iv x88,iv x89,iv x90,iv x91,.slice A92 l94.length c93,.slice A96 l98.length c97,.slice A100 l102.length c101] 26,row qC.k 49 (.slice A132 t122.1.f6.length c133) t122.1.f6]→qD.j152 kq153 y z x85 x86 l87 x88 x89 x90 x91 l94 l98 l102 t122 y151=some r→K143 a w':=by
   intro kq153 hkq G y151 a u156 E A S H
   obtain _ | k154:=kq153
   exact zz H
   rw [qD.j152_s]at H
   obtain ⟨J,E⟩:=E.at A
   refine hK143 _ _ (E.ib 94 H (fun c157 E H=>?_) fun c157 E H=>?_)
   refine wp_exit ?_
   refine hK112 _ _ (pl0 (plc E (.r 0 3 .nil) (fun a E=>pld ?_)))
   replace S:=S.pm [1,2] 4
   exact qCD ⟨k154,by omega,_,x85,(w64 (x86+1)),l87,x88,x89,x90,x91,A92,c93,l94,A96,c97,l98,A100,c101,l102,F139,by omega,E,.of,S,g95,g99,g103,g1_0,g2_0,H⟩
   refine wp_skip (hK142 _ _ (sq fun K158 hK158=>pl0 (plc E (.bn 0 0 7 (S.ba 0) .nil) (fun a E=>?_))))
   replace S:=S.front 2 rfl
   refine pls E S [iv t122.1.f0,iv t122.1.f1,iv t122.1.f2,iv t122.1.f3,.slice A126 t122.1.f4.length c127,.slice A129 t122.1.f5.length c130,.slice A132 t122.1.f6.length c133] fun u159 hb2 S a E=>pld (hK158 _ _ (rr E fun a E=>(sq fun K161 hK161=>?_)))
   have J173:∀ kq171,kq171≤k154→∀(G:NV)(x169:Int)(a:Act)(w':World),Env 209 G a→At G [(1,.slice (some ad115) y.length c1_0),(2,.slice A2_0 z.length c2_0),(3,.pointer (pb b2)),(8,.map (some b80)),(9,iv x85),(10,iv x86),(13,iv x169)]→Sm W F w' F139 [box b2 #[iv t122.1.f0,iv t122.1.f1,iv t122.1.f2,iv t122.1.f3,.slice A126 t122.1.f4.length c127,.slice A129 t122.1.f5.length c130,.slice A132 t122.1.f6.length c133] 26,box b136 #[iv t122.1.f0,iv t122.1.f1,iv t122.1.f2,iv t122.1.f3,.slice A126 t122.1.f4.length c127,.slice A129 t122.1.f5.length c130,.slice A132 t122.1.f6.length c133] 26,mapb Tryz.prog 3 qK.mv qK.z b80 l87,row qC.k 49 (.slice A132 t122.1.f6.length c133) t122.1.f6]→qD.j170 kq171 y z x85 x86 l87 t122 x169=some r→K161 a w':=by
    intro kq171 hkq G x169 a u174 E A S H
    obtain _ | k172:=kq171
    exact zz H
    rw [qD.j170_s]at H
    obtain ⟨J,E⟩:=E.at A
    refine hK161 _ _ (sq fun K175 hK175=>pl0 (ple E (.lit (d:=qJ.k) (e:=86) S ([]:List qJ) (.nil)) ?_))
    rintro _ u176 a ⟨A177,c178,rfl,S,hg⟩ E
    refine plc E (.r 1 1 .nil) (fun a E=>pld (hK175 _ _ (sq fun K180 hK180=>rr E fun a E=>(wp_block ?_))))
    replace S:=S.pm [1,2,3,4,0] 5
    refine wp_loop_ghost (fun kq188 a w'=>∃(G:NV)(A183:OA)(c184:Nat)(l185:List qJ)(x186:Int),kq188≤k172∧Env 209 G a∧At G [(1,.slice (some ad115) y.length c1_0),(2,.slice A2_0 z.length c2_0),(3,.pointer (pb b2)),(8,.map (some b80)),(9,iv x85),(10,iv x86),(13,iv x169),(14,.slice A183 l185.length c184),(15,iv x186)]∧Sm W F w' F139 [box b2 #[iv t122.1.f0,iv t122.1.f1,iv t122.1.f2,iv t122.1.f3,.slice A126 t122.1.f4.length c127,.slice A129 t122.1.f5.length c130,.slice A132 t122.1.f6.length c133] 26,box b136 #[iv t122.1.f0,iv t122.1.f1,iv t122.1.f2,iv t122.1.f3,.slice A126 t122.1.f4.length c127,.slice A129 t122.1.f5.length c130,.slice A132 t122.1.f6.length c133] 26,mapb Tryz.prog 3 qK.mv qK.z b80 l87,row qC.k 49 (.slice A132 t122.1.f6.length c133) t122.1.f6,row qJ.k 86 (.slice A183 l185.length c184) l185]∧qD.l187 kq188 y z x85 x86 l87 t122 x169 l185 x186=some r) k172 ⟨_,A177,c178,([]:List qJ),1,Nat.le_refl _,E,.of,S,H⟩ ?_
    rintro kq188 a u190 ⟨G,A183,c184,l185,x186,hkq,E,A,S,H⟩
    obtain _ | k189:=kq188
    exact zz H
    rw [qD.l187_s]at H
    obtain ⟨J,E⟩:=E.at A
    refine sq fun K191 hK191=>rr E fun a E=>(E.ik 107 H (fun c193 E H=>?_) fun c193 E H=>?_)
    refine wp_skip (hK191 _ _ (sq fun K194 hK194=>wp_block (sq fun K195 hK195=>?_)))
    have J205:∀ kq203,kq203≤k189→∀(G:NV)(y201:Bool)(a:Act)(w':World),Env 209 G a→At G [(1,.slice (some ad115) y.length c1_0),(2,.slice A2_0 z.length c2_0),(3,.pointer (pb b2)),(8,.map (some b80)),(9,iv x85),(10,iv x86),(13,iv x169),(14,.slice A183 l185.length c184),(15,iv x186),(121,.bool y201)]→Sm W F w' F139 [box b2 #[iv t122.1.f0,iv t122.1.f1,iv t122.1.f2,iv t122.1.f3,.slice A126 t122.1.f4.length c127,.slice A129 t122.1.f5.length c130,.slice A132 t122.1.f6.length c133] 26,box b136 #[iv t122.1.f0,iv t122.1.f1,iv t122.1.f2,iv t122.1.f3,.slice A126 t122.1.f4.length c127,.slice A129 t122.1.f5.length c130,.slice A132 t122.1.f6.length c133] 26,mapb Tryz.prog 3 qK.mv qK.z b80 l87,row qC.k 49 (.slice A132 t122.1.f6.length c133) t122.1.f6,row qJ.k 86 (.slice A183 l185.length c184) l185]→qD.j202 kq203 y z x85 x86 l87 t122 x169 l185 x186 y201=some r→K195 a w':=by
     intro kq203 hkq G y201 a u206 E A S H
     obtain _ | k204:=kq203
     exact zz H
     rw [qD.j202_s]at H
     obtain ⟨J,E⟩:=E.at A
     refine hK195 _ _ (E.ib 121 H (fun c207 E H=>?_) fun c207 E H=>?_)
     refine sq fun K208 hK208=>pl0 ?_
     obtain ⟨c209,H⟩:=gd H
     refine plc E (.r 0 2<|.lk 2 (t:=81) (et:=84) (S.map_at (i:=2) rfl) c209<|.nil) (fun a E=>pla (t:=84) E S [iv 0,iv 0] fun b210 u211 hb210 S a E=>pls E S [iv ((mget qK.z l87 x186).f0),iv ((mget qK.z l87 x186).f1)] fun u212 hb210 S a E=>pld (hK208 _ _ (pl0 (plc E (.r 0 3<|.b 3 0 hb210<|.r 4 1<|.b 5 1 hb210<|.r 6 1<|.nil) (fun a E=>ple E (.lit (d:=qJ.k) (e:=86) S [(⟨x186,(mget qK.z l87 x186).f0,0,(mget qK.z l87 x186).f1,0⟩:qJ)] (.cons rfl .nil)) ?_)))))
     rintro _ u213 a ⟨A214,c215,rfl,S,hg⟩ E
     obtain ⟨c217,H⟩:=gd H
     replace S:=S.front 6 rfl
     refine ple E (.ap (d:=qJ.k) 40 S (qCT (S.row_at (i:=1) rfl)) c217 c215) ?_
     rintro _ u220 a ⟨A218,c219,rfl,S,hz⟩ E
     refine plc E (.r 9 1 .nil) (fun a E=>pld ?_)
     refine qCC ?_
     refine hK194 _ _ (pl0 (plc E (.r 0 3 .nil) (fun a E=>pld ?_)))
     replace S:=S.pm [3,4,5,6,0] 7
     exact qCD ⟨k204,by omega,_,A218,c219,(l185++[(⟨x186,(mget qK.z l87 x186).f0,0,(mget qK.z l87 x186).f1,0⟩:qJ)]),(w64 (x186+1)),by omega,E,.of,S,H⟩
     refine wp_skip ?_
     refine qCC ?_
     refine hK194 _ _ (pl0 (plc E (.r 0 3 .nil) (fun a E=>pld ?_)))
     exact qCD ⟨k204,by omega,_,A183,c184,l185,(w64 (x186+1)),by omega,E,.of,S,H⟩
    refine pl0 (plc E (.bn 0 0 7 (S.ba 0)<|.r 1 1<|.nil) (fun a E=>?_))
    obtain ⟨t197,h198,H⟩:=bd H
    refine plq E S en56 (qBA.calls k189 t122.1 x186 _ _ _ _ _ _ _ _ _ (Sub.refl _) (g128.mono S.own.sub) (g131.mono S.own.sub) (S.rd_at (i:=3) rfl) h198) fun u196 S a E=>plc E (.r 3 1 .nil) (fun a E=>E.fb 113 H (fun c199 E H=>?_) fun c199 E H=>?_)
    obtain ⟨c200,H⟩:=gd H
    refine plc E (.r 4 4<|.y 8 (y_shr 3 .i64 .u64 64 x169 c200)<|.r 9 3<|.nil) (fun a E=>pld ?_)
    exact J205 _ (by omega) _ (((x169.fdiv (2 ^ (min (IntKind.u64.wrap (x186.tmod 7)).toNat 64))).tmod 2) == 0) _ _ E .of S H
    refine plc E (.r 4 8 .nil) (fun a E=>pld ?_)
    exact J205 _ (by omega) _ false _ _ E .of S H
    refine wp_exit ?_
    refine hK180 _ _ (sq fun K221 hK221=>pl0 ?_)
    have hb2:=S.ba 0
    refine plc E (.bn 0 0 7 hb2<|.r 1 1<|.nil) (fun a E=>?_)
    replace S:=S.front 3 rfl
    obtain ⟨F222,hs,g223,S⟩:=S.give
    replace g1_0:=g1_0.mono hs
    replace g2_0:=g2_0.mono hs
    replace g128:=g128.mono hs
    replace g131:=g131.mono hs
    replace S:=S.front 3 rfl
    obtain ⟨F224,hs,g225,S⟩:=S.give
    replace g1_0:=g1_0.mono hs
    replace g2_0:=g2_0.mono hs
    replace g128:=g128.mono hs
    replace g131:=g131.mono hs
    replace g223:=g223.mono hs
    obtain ⟨t227,h228,H⟩:=bd H
    refine ple E (.cl en50 (qm.calls k189 t122.1 0 l185 _ _ _ _ _ _ _ _ _ _ _ S.own.sub g128 g131 g223 g225 h228)) ?_
    rintro _ u226 a ⟨F229,A230,c231,A234,c235,rfl,hC⟩ E
    have hs:=hC.sub
    replace S:=S.called (X:=[]) hC
    replace g1_0:=g1_0.mono hs
    replace g2_0:=g2_0.mono hs
    replace g225:=g225.mono hs
    replace g128:=g128.mono hs
    replace g131:=g131.mono hs
    replace g223:=g223.mono hs
    refine plc E (.r 3 3 .nil) (fun a E=>pla (t:=74) E S [.bool false,iv 0,.slice none 0 0,.slice none 0 0] fun b238 u239 hb238 S a E=>pls E S [.bool t227.1.f0,iv t227.1.f1,.slice A230 t227.1.f2.length c231,.slice A234 t227.1.f3.length c235] fun u240 hb238 S a E=>plc E (.r 8 1 .nil) (fun a E=>pld (hK221 _ _ (sq fun K241 hK241=>rr E fun a E=>(E.ikn 141 H (fun c243 E H=>?_) fun c243 E H=>?_)))))
    refine wp_skip (hK241 _ _ (sq fun K245 hK245=>rg E (.r 0 1<|.b 1 0 hb238<|.r 2 1<|.nil) fun a E=>(E.ibn 144 H (fun c247 E H=>?_) fun c247 E H=>?_)))
    refine wp_skip (hK245 _ _ (sq fun K248 hK248=>pl0 ?_))
    obtain ⟨c249,H⟩:=gd H
    refine plc E (.r 0 2<|.b 2 1 hb238<|.lk 3 (t:=81) (et:=84) (S.map_at (i:=5) rfl) c249<|.nil) (fun a E=>pla (t:=84) E S [iv 0,iv 0] fun b250 u251 hb250 S a E=>pls E S [iv ((mget qK.z l87 t227.1.f1).f0),iv ((mget qK.z l87 t227.1.f1).f1)] fun u252 hb250 S a E=>pld (hK248 _ _ (sq fun K253 hK253=>rg E (.r 0 1<|.b 1 1 hb250<|.r 2 2<|.nil) fun a E=>(E.ikn 152 H (fun c255 E H=>?_) fun c255 E H=>?_))))
    refine wp_skip (hK253 _ _ (sq fun K257 hK257=>pl0 ?_))
    have hb2:=S.ba 4
    obtain ⟨c258,H⟩:=gd H
    have hE_:=E
    obtain ⟨ad259,rfl⟩:=g223.addr c258.1 c258.2
    replace E:=hE_
    obtain ⟨cs261,⟨A263,c264,rfl,g265⟩,hc262⟩:=g223.el qC.z 0 c258.1 c258.2
    refine plc E (.r 0 1<|.b 1 6 hb2<|.x 2 c258<|.r 3 1<|.c 4 (S.fc hc262 0)<|.r 5 1<|.nil) (fun a E=>pld (hK257 _ _ (sq fun K266 hK266=>pl0 (plc E (.bn 0 0 7 hb2 .nil) (fun a E=>?_)))))
    obtain ⟨t268,h269,H⟩:=bd H
    refine ple E (.cl en24 (qBD.calls k189 t122.1 0 _ _ _ _ _ _ _ _ _ S.own.sub g128 g131 g223 h269)) ?_
    rintro _ u267 a ⟨F270,A271,c272,rfl,hC⟩ E
    have hs:=hC.sub
    replace S:=S.called (X:=[]) hC
    replace g1_0:=g1_0.mono hs
    replace g2_0:=g2_0.mono hs
    replace g225:=g225.mono hs
    replace g128:=g128.mono hs
    replace g131:=g131.mono hs
    replace g223:=g223.mono hs
    refine plc E (.r 2 1 .nil) (fun a E=>pld (hK266 _ _ (sq fun K275 hK275=>rr E fun a E=>(wp_block ?_))))
    replace S:=S.pm [1,2,5,6,7,0,3,4] 8
    refine wp_loop_ghost (fun kq280 a w'=>∃(G:NV)(x277:Int)(l278:List (Int × qK)),kq280≤k189∧Env 209 G a∧At G [(1,.slice (some ad115) y.length c1_0),(2,.slice A2_0 z.length c2_0),(3,.pointer (pb b2)),(8,.map (some b80)),(9,iv x85),(10,iv x86),(13,iv x169),(20,iv ((nth qC.z t122.1.f6 0).f0)),(21,.slice A271 t268.length c272),(22,iv x277)]∧Sm W F w' F270 [box b250 #[iv ((mget qK.z l87 t227.1.f1).f0),iv ((mget qK.z l87 t227.1.f1).f1)] 84,box b238 #[.bool t227.1.f0,iv t227.1.f1,.slice A230 t227.1.f2.length c231,.slice A234 t227.1.f3.length c235] 74,box b2 #[iv t122.1.f0,iv t122.1.f1,iv t122.1.f2,iv t122.1.f3,.slice A126 t122.1.f4.length c127,.slice A129 t122.1.f5.length c130,.slice (some ad259) t122.1.f6.length c133] 26,box b136 #[iv t122.1.f0,iv t122.1.f1,iv t122.1.f2,iv t122.1.f3,.slice A126 t122.1.f4.length c127,.slice A129 t122.1.f5.length c130,.slice (some ad259) t122.1.f6.length c133] 26,mapb Tryz.prog 3 qK.mv qK.z b80 l278,row ki 3 (.slice A271 t268.length c272) t268,row ki 3 (.slice A230 t227.1.f2.length c231) t227.1.f2,row ki 3 (.slice A234 t227.1.f3.length c235) t227.1.f3]∧qD.l279 kq280 y z x85 x86 t122 x169 t268 x277 l278=some r) k189 ⟨_,0,l87,Nat.le_refl _,E,.of,S,H⟩ ?_
    rintro kq280 a u282 ⟨G,x277,l278,hkq,E,A,S,H⟩
    obtain _ | k281:=kq280
    exact zz H
    rw [qD.l279_s]at H
    obtain ⟨J,E⟩:=E.at A
    refine sq fun K283 hK283=>rr E fun a E=>(E.ik 163 H (fun c285 E H=>?_) fun c285 E H=>?_)
    refine wp_skip (hK283 _ _ (sq fun K286 hK286=>wp_block (sq fun K287 hK287=>pl0 ?_)))
    obtain ⟨c288,H⟩:=gd H
    have hr289:=S.ra 5
    have hE_:=E
    obtain ⟨b290,rfl⟩:=qCJ hr289 c288.1 c288.2
    replace E:=hE_
    have hr_:=S.ra 5
    obtain ⟨cs292,rfl,hc293⟩:=qCF hr_ 0 x277 c288.1 c288.2
    obtain ⟨c294,H⟩:=gd H
    refine plc E (.r 0 3<|.x 3 c288<|.c 4 (hc293 0 _ rfl)<|.lk 5 (t:=81) (et:=84) (S.map_at (i:=4) rfl) c294<|.nil) (fun a E=>pla (t:=84) E S [iv 0,iv 0] fun b295 u296 hb295 S a E=>pls E S [iv ((mget qK.z l278 (nth 0 t268 x277)).f0),iv ((mget qK.z l278 (nth 0 t268 x277)).f1)] fun u297 hb295 S a E=>pld (hK287 _ _ (sq fun K298 hK298=>pl0 (plc E (.r 0 2 .nil) (fun a E=>pls E S [iv ((mget qK.z l278 (nth 0 t268 x277)).f0),iv x85] fun u299 hb295 S a E=>pld (hK298 _ _ (sq fun K300 hK300=>?_)))))))
    have J315:∀ kq313,kq313≤k281→∀(G:NV)(x311:Int)(a:Act)(w':World),Env 209 G a→At G [(1,.slice (some ad115) y.length c1_0),(2,.slice A2_0 z.length c2_0),(3,.pointer (pb b2)),(8,.map (some b80)),(9,iv x85),(10,iv x86),(13,iv x169),(20,iv ((nth qC.z t122.1.f6 0).f0)),(21,.slice (pb b290) t268.length c272),(22,iv x277),(23,.pointer (pb b295))]→Sm W F w' F270 [box b295 #[iv x311,iv x85] 84,box b250 #[iv ((mget qK.z l87 t227.1.f1).f0),iv ((mget qK.z l87 t227.1.f1).f1)] 84,box b238 #[.bool t227.1.f0,iv t227.1.f1,.slice A230 t227.1.f2.length c231,.slice A234 t227.1.f3.length c235] 74,box b2 #[iv t122.1.f0,iv t122.1.f1,iv t122.1.f2,iv t122.1.f3,.slice A126 t122.1.f4.length c127,.slice A129 t122.1.f5.length c130,.slice (some ad259) t122.1.f6.length c133] 26,box b136 #[iv t122.1.f0,iv t122.1.f1,iv t122.1.f2,iv t122.1.f3,.slice A126 t122.1.f4.length c127,.slice A129 t122.1.f5.length c130,.slice (some ad259) t122.1.f6.length c133] 26,mapb Tryz.prog 3 qK.mv qK.z b80 l278,row ki 3 (.slice (pb b290) t268.length c272) t268,row ki 3 (.slice A230 t227.1.f2.length c231) t227.1.f2,row ki 3 (.slice A234 t227.1.f3.length c235) t227.1.f3]→qD.j312 kq313 y z x85 x86 t122 x169 t268 x277 l278 x311=some r→K300 a w':=by
     intro kq313 hkq G x311 a u316 E A S H
     obtain _ | k314:=kq313
     exact zz H
     rw [qD.j312_s]at H
     obtain ⟨J,E⟩:=E.at A
     refine hK300 _ _ ?_
     refine drawn 7 ⟨[6],[],fun q=>False⟩ mixed rfl (by kernel_rfl) (fun hst=>?_)
     replace S:=S.drew
     have hr317:=S.ra 6
     have hr_:=S.ra 6
     obtain ⟨cs319,rfl,hc320⟩:=qCF hr_ 0 x277 c288.1 c288.2
     have hb295:=S.ba 0
     refine mny 1 hst E (.r 0 3<|.x 3 c288<|.c 4 (hc320 0 _ rfl)<|.bn 5 0 2 hb295<|.nil) (fun a E=>?_)
     obtain ⟨c321,H⟩:=gd H
     replace S:=S.front 5 rfl
     refine on1 6 E (.mup (t:=81) (et:=84) S (nth 0 t268 x277) (⟨x311,x85⟩:qK) c321) ?_
     rintro _ u322 a ⟨rfl,S,hz⟩ E
     refine ⟨.d,?_⟩
     refine dn ?_
     refine qCC ?_
     refine hK286 _ _ (pl0 (plc E (.r 0 3 .nil) (fun a E=>pld ?_)))
     replace S:=S.pm [2,3,4,5,0] 6
     exact qCD ⟨k314,by omega,_,(w64 (x277+1)),(((nth 0 t268 x277),(⟨x311,x85⟩:qK)) :: l278),by omega,E,.of,S,H⟩
    refine sq fun K301 hK301=>?_
    have J307:∀ kq305,kq305≤k281→∀(G:NV)(y303:Bool)(a:Act)(w':World),Env 209 G a→At G [(1,.slice (some ad115) y.length c1_0),(2,.slice A2_0 z.length c2_0),(3,.pointer (pb b2)),(8,.map (some b80)),(9,iv x85),(10,iv x86),(13,iv x169),(20,iv ((nth qC.z t122.1.f6 0).f0)),(21,.slice (pb b290) t268.length c272),(22,iv x277),(23,.pointer (pb b295)),(180,.bool y303)]→Sm W F w' F270 [box b295 #[iv ((mget qK.z l278 (nth 0 t268 x277)).f0),iv x85] 84,box b250 #[iv ((mget qK.z l87 t227.1.f1).f0),iv ((mget qK.z l87 t227.1.f1).f1)] 84,box b238 #[.bool t227.1.f0,iv t227.1.f1,.slice A230 t227.1.f2.length c231,.slice A234 t227.1.f3.length c235] 74,box b2 #[iv t122.1.f0,iv t122.1.f1,iv t122.1.f2,iv t122.1.f3,.slice A126 t122.1.f4.length c127,.slice A129 t122.1.f5.length c130,.slice (some ad259) t122.1.f6.length c133] 26,box b136 #[iv t122.1.f0,iv t122.1.f1,iv t122.1.f2,iv t122.1.f3,.slice A126 t122.1.f4.length c127,.slice A129 t122.1.f5.length c130,.slice (some ad259) t122.1.f6.length c133] 26,mapb Tryz.prog 3 qK.mv qK.z b80 l278,row ki 3 (.slice (pb b290) t268.length c272) t268,row ki 3 (.slice A230 t227.1.f2.length c231) t227.1.f2,row ki 3 (.slice A234 t227.1.f3.length c235) t227.1.f3]→qD.j304 kq305 y z x85 x86 t122 x169 t268 x277 l278 y303=some r→K301 a w':=by
     intro kq305 hkq G y303 a u308 E A S H
     obtain _ | k306:=kq305
     exact zz H
     rw [qD.j304_s]at H
     obtain ⟨J,E⟩:=E.at A
     refine hK301 _ _ (E.ib 180 H (fun c309 E H=>?_) fun c309 E H=>?_)
     refine pl0 (plc E (.r 0 2 .nil) (fun a E=>pls E S [iv ((nth qC.z t122.1.f6 0).f0),iv x85] fun u310 hb295 S a E=>pld ?_))
     exact J315 _ (by omega) _ ((nth qC.z t122.1.f6 0).f0) _ _ E .of S H
     refine wp_skip ?_
     exact J315 _ (by omega) _ ((mget qK.z l278 (nth 0 t268 x277)).f0) _ _ E .of S H
    refine pl0 (plc E (.r 0 3 .nil) (fun a E=>E.fk 176 H (fun c302 E H=>?_) fun c302 E H=>?_))
    refine plc E (.r 3 4 .nil) (fun a E=>pld ?_)
    exact J307 _ (by omega) _ true _ _ E .of S H
    refine plc E (.r 3 4 .nil) (fun a E=>pld ?_)
    exact J307 _ (by omega) _ (decide ((x169.tmod 3)>0)) _ _ E .of S H
    refine wp_exit ?_
    refine hK275 _ _ (rr E fun a E=>(E.ik 191 H (fun c324 E H=>?_) fun c324 E H=>?_))
    refine rr E fun a E=>(rr E fun a E=>(wp_block ?_))
    refine wp_loop_ghost (fun kq330 a w'=>∃(G:NV)(x327:Int)(l328:List (Int × qK)),kq330≤k281∧Env 209 G a∧At G [(1,.slice (some ad115) y.length c1_0),(2,.slice A2_0 z.length c2_0),(3,.pointer (pb b2)),(8,.map (some b80)),(9,iv (w64 (x85+1))),(10,iv x86),(20,iv ((nth qC.z t122.1.f6 0).f0)),(21,.slice A271 t268.length c272),(24,iv x327)]∧Sm W F w' F270 [box b250 #[iv ((mget qK.z l87 t227.1.f1).f0),iv ((mget qK.z l87 t227.1.f1).f1)] 84,box b238 #[.bool t227.1.f0,iv t227.1.f1,.slice A230 t227.1.f2.length c231,.slice A234 t227.1.f3.length c235] 74,box b2 #[iv t122.1.f0,iv t122.1.f1,iv t122.1.f2,iv t122.1.f3,.slice A126 t122.1.f4.length c127,.slice A129 t122.1.f5.length c130,.slice (some ad259) t122.1.f6.length c133] 26,box b136 #[iv t122.1.f0,iv t122.1.f1,iv t122.1.f2,iv t122.1.f3,.slice A126 t122.1.f4.length c127,.slice A129 t122.1.f5.length c130,.slice (some ad259) t122.1.f6.length c133] 26,mapb Tryz.prog 3 qK.mv qK.z b80 l328,row ki 3 (.slice A271 t268.length c272) t268,row ki 3 (.slice A230 t227.1.f2.length c231) t227.1.f2,row ki 3 (.slice A234 t227.1.f3.length c235) t227.1.f3]∧qD.l329 kq330 y z x85 x86 t122 t268 x327 l328=some r) k281 ⟨_,0,l278,Nat.le_refl _,E,.of,S,H⟩ ?_
    rintro kq330 a u332 ⟨G,x327,l328,hkq,E,A,S,H⟩
    obtain _ | k331:=kq330
    exact zz H
    rw [qD.l329_s]at H
    obtain ⟨J,E⟩:=E.at A
    refine sq fun K333 hK333=>rr E fun a E=>(E.ik 197 H (fun c335 E H=>?_) fun c335 E H=>?_)
    refine wp_skip (hK333 _ _ (sq fun K336 hK336=>wp_block (pl0 ?_)))
    obtain ⟨c337,H⟩:=gd H
    have hr338:=S.ra 5
    have hE_:=E
    obtain ⟨b339,rfl⟩:=qCJ hr338 c337.1 c337.2
    replace E:=hE_
    have hr_:=S.ra 5
    obtain ⟨cs341,rfl,hc342⟩:=qCF hr_ 0 x327 c337.1 c337.2
    refine plc E (.r 0 3<|.x 3 c337<|.c 4 (hc342 0 _ rfl)<|.r 5 3<|.nil) (fun a E=>?_)
    obtain ⟨c343,H⟩:=gd H
    replace S:=S.front 4 rfl
    refine ple E (.mup (t:=81) (et:=84) S (nth 0 t268 x327) (⟨(nth qC.z t122.1.f6 0).f0,(w64 (x85+1))⟩:qK) c343) ?_
    rintro _ u344 a ⟨rfl,S,hz⟩ E
    refine pld ?_
    refine qCC ?_
    refine hK336 _ _ (pl0 (plc E (.r 0 3 .nil) (fun a E=>pld ?_)))
    replace S:=S.pm [1,2,3,4,0] 5
    exact qCD ⟨k331,by omega,_,(w64 (x327+1)),(((nth 0 t268 x327),(⟨(nth qC.z t122.1.f6 0).f0,(w64 (x85+1))⟩:qK)) :: l328),by omega,E,.of,S,H⟩
    refine wp_exit ?_
    refine hK112 _ _ (pl0 (plc E (.r 0 3 .nil) (fun a E=>pld ?_)))
    replace S:=S.pm [4,2] 8
    exact qCD ⟨k331,by omega,_,(w64 (x85+1)),(w64 (x86+1)),l328,t122.1.f0,t122.1.f1,t122.1.f2,t122.1.f3,A126,c127,t122.1.f4,A129,c130,t122.1.f5,(some ad259),c133,t122.1.f6,F270,by omega,E,.of,S,g128,g131,g223,g1_0,g2_0,H⟩
    refine wp_skip ?_
    refine qCC ?_
    refine hK112 _ _ (pl0 (plc E (.r 0 3 .nil) (fun a E=>pld ?_)))
    replace S:=S.pm [4,2] 8
    exact qCD ⟨k281,by omega,_,x85,(w64 (x86+1)),l278,t122.1.f0,t122.1.f1,t122.1.f2,t122.1.f3,A126,c127,t122.1.f4,A129,c130,t122.1.f5,(some ad259),c133,t122.1.f6,F270,by omega,E,.of,S,g128,g131,g223,g1_0,g2_0,H⟩
    refine rr E fun a E=>(wp_ret (qCA (qCB (qCA (qCA (qCB (qCA ?_)))))))
    replace S:=S.pm [] 7
    obtain rfl:=si H
    exact rt1 E ⟨_,rfl,_,rfl,S⟩
    refine wp_exit ?_
    refine hK112 _ _ (pl0 (plc E (.r 0 3 .nil) (fun a E=>pld ?_)))
    replace S:=S.pm [5,3] 6
    exact qCD ⟨k189,by omega,_,x85,(w64 (x86+1)),l87,t122.1.f0,t122.1.f1,t122.1.f2,t122.1.f3,A126,c127,t122.1.f4,A129,c130,t122.1.f5,A132,c133,t122.1.f6,F229,by omega,E,.of,S,g128,g131,g223,g1_0,g2_0,H⟩
    refine rr E fun a E=>(wp_ret (qCA (qCB (qCA (qCA (qCB (qCA ?_)))))))
    replace S:=S.pm [] 6
    obtain rfl:=si H
    exact rt1 E ⟨_,rfl,_,rfl,S⟩
   refine rr E fun a E=>(E.ik 99 H (fun c163 E H=>?_) fun c163 E H=>?_)
   refine pl0 ?_
   obtain ⟨c164,H⟩:=gd H
   have hE_:=E
   obtain ⟨ad165,rfl⟩:=g2_0.addr c164.1 c164.2
   replace E:=hE_
   obtain ⟨cs167,rfl,hc168⟩:=g2_0.el 0 x86 c164.1 c164.2
   refine plc E (.r 0 2<|.x 2 c164<|.c 3 (S.fc hc168 0)<|.r 4 2<|.nil) (fun a E=>pld ?_)
   exact J173 _ (by omega) _ (w64 (nth 0 z x86)) _ _ E .of S H
   refine wp_skip ?_
   exact J173 _ (by omega) _ 0 _ _ E .of S H
  refine pl0 (plc E (.r 0 3 .nil) (fun a E=>E.fkn 87 H (fun c144 E H=>?_) fun c144 E H=>?_))
  obtain ⟨cs146,⟨A148,c149,rfl,g150⟩,hc147⟩:=g1_0.el qd.z x86 c114.1 c114.2
  refine plc E (.r 3 2<|.x 5 c114<|.r 6 1<|.c 7 (S.fc hc147 0)<|.r 8 2<|.nil) (fun a E=>pld ?_)
  exact J155 _ (by omega) _ ((nth qd.z y x86).f0 == 10) _ _ E .of S H
  refine plc E (.r 3 7 .nil) (fun a E=>pld ?_)
  exact J155 _ (by omega) _ true _ _ E .of S H
  refine pk2 5 9 ?_ ?_
  refine pk1 5 E (.cl en26 (qAk.calls k107 (⟨x88,x89,x90,x91,l94,l98,l102⟩:qG) (nth qd.z y x86) _ _ _ _ _ _ _ _ _ _ _ S.own.sub g95 g99 g103 g121 h123)) ?_
  rintro _ u124 a ⟨F125,A126,c127,A129,c130,A132,c133,rfl,hC,g128,g131⟩ E
  refine ⟨.of hC.agr,?_⟩
  have hs:=hC.sub
  replace S:=S.called (X:=[]) hC
  replace g1_0:=g1_0.mono hs
  replace g2_0:=g2_0.mono hs
  replace g95:=g95.mono hs
  replace g99:=g99.mono hs
  replace g103:=g103.mono hs
  replace g121:=g121.mono hs
  refine mny 3 hst E (.r 6 3 .nil) (fun a E=>?_)
  refine on1 9 E (.al (t:=26) S [iv 0,iv 0,iv 0,iv 0,.slice none 0 0,.slice none 0 0,.slice none 0 0]) ?_
  rintro _ u137 a ⟨b136,rfl,hb136,S,hg⟩ E
  refine ⟨.of hg,?_⟩
  replace S:=S.pm [0,2,3,1] 4
  exact hJ _ _ ⟨_,b136,A132,c133,A126,c127,A129,c130,F125,E,.of,S,g1_0,g2_0,g128,g131,g95,g99,g103⟩
  refine pk1 9 E (.al (t:=26) S [iv 0,iv 0,iv 0,iv 0,.slice none 0 0,.slice none 0 0,.slice none 0 0]) ?_
  rintro _ u137 a ⟨b136,rfl,hb136,S,hg⟩ E
  refine ⟨.of hg,?_⟩
  refine on1 5 E (.cl en26 (qAk.calls k107 (⟨x88,x89,x90,x91,l94,l98,l102⟩:qG) (nth qd.z y x86) _ _ _ _ _ _ _ _ _ _ _ S.own.sub g95 g99 g103 g121 h123)) ?_
  rintro _ u124 a ⟨F125,A126,c127,A129,c130,A132,c133,rfl,hC,g128,g131⟩ E
  refine ⟨.of hC.agr,?_⟩
  have hs:=hC.sub
  replace S:=S.called (X:=[]) hC
  replace g1_0:=g1_0.mono hs
  replace g2_0:=g2_0.mono hs
  replace g95:=g95.mono hs
  replace g99:=g99.mono hs
  replace g103:=g103.mono hs
  replace g121:=g121.mono hs
  refine mny 2 hst E (.r 6 3 .nil) (fun a E=>?_)
  replace S:=S.pm [1,2,3,0] 4
  exact hJ _ _ ⟨_,b136,A132,c133,A126,c127,A129,c130,F125,E,.of,S,g1_0,g2_0,g128,g131,g95,g99,g103⟩
  refine wp_exit ?_
  refine hK83 _ _ (sq fun K347 hK347=>pl0 ?_)
  obtain ⟨t349,h350,H⟩:=bd H
  refine plq E S en49 (qAX.calls k107 _ _ _ S.own.sub h350) fun u348 S a E=>plc E (.r 1 1 .nil) (fun a E=>pld (hK347 _ _ (wp_ret ?_)))
  replace S:=S.pm [] 2
  obtain rfl:=si H
  exact rt1 E ⟨_,rfl,_,rfl,S⟩
 refine pl0 (plc E (.bn 0 0 7 hb2 .nil) (fun a E=>?_))
 obtain ⟨t7,h8,H⟩:=bd H
 refine plq E S en20 (qV.calls k x _ _ _ _ _ _ _ _ _ S.own.sub g0_4 g0_5 g0_6 h8) fun u6 S a E=>plc E (.r 2 2 .nil) (fun a E=>E.fbn 28 H (fun c9 E H=>?_) fun c9 E H=>?_)
 refine plc E (.r 4 1 .nil) (fun a E=>?_)
 obtain ⟨t11,h12,H⟩:=bd H
 refine plq E S en27 (qp.calls k y _ _ _ _ _ S.own.sub g1_0 h12) fun u10 S a E=>plc E (.r 6 3 .nil) (fun a E=>E.fbn 33 H (fun c13 E H=>?_) fun c13 E H=>?_)
 have hb2:=S.ba 0
 refine plc E (.bn 9 0 7 hb2 .nil) (fun a E=>?_)
 obtain ⟨t15,h16,H⟩:=bd H
 refine plq E S en19 (qe.calls k x _ _ _ _ _ _ _ _ _ S.own.sub g0_4 g0_5 g0_6 h16) fun u14 S a E=>plc E (.r 11 3 .nil) (fun a E=>E.fbn 38 H (fun c17 E H=>?_) fun c17 E H=>?_)
 refine plc E (.r 14 1<|.b 15 0 (S.ba 0)<|.r 16 2<|.nil) (fun a E=>pld ?_)
 exact J22 _ (by omega) _ (decide (x.f0>100000)) _ _ E .of S H
 refine plc E (.r 14 4 .nil) (fun a E=>pld ?_)
 exact J22 _ (by omega) _ true _ _ E .of S H
 refine plc E (.r 9 9 .nil) (fun a E=>pld ?_)
 exact J22 _ (by omega) _ true _ _ E .of S H
 refine plc E (.r 4 14 .nil) (fun a E=>pld ?_)
 exact J22 _ (by omega) _ true _ _ E .of S H
end Go.Proofs.YtpohepinmjmbkaaGreat.QK
