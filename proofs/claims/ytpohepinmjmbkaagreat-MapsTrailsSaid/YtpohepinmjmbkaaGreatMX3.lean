import Derived.Test.YtpohepinmjmbkaaGreatMX2
namespace Go.Proofs.YtpohepinmjmbkaaGreat.MX
open Go Go.RowKit Go.Proofs.YtpohepinmjmbkaaGreat.Sl
set_option linter.unusedVariables false
set_option linter.unusedSimpArgs false
set_option maxHeartbeats 4000000
set_option maxRecDepth 100000
mutual
def qr.j42:Nat→qc→qf→Int→List qB→Option (List qc)
 | 0,_,_,_,_=>none
 | k+1,y,z,p,l40=>(qAg.f k (IntKind.u64.wrap p) [(IntKind.u64.wrap z.f1),(IntKind.u64.wrap y.f0),(IntKind.u64.wrap y.f1)]).bind fun t53=>((qAb.f k t53 l40).bind fun t58=>(if 0≤(if (t58.length:Int)<z.f2 then (t58.length:Int) else z.f2)∧(if (t58.length:Int)<z.f2 then (t58.length:Int) else z.f2)≤(t58.length:Int) then (qr.l80 k y z t58 [] 0) else (none)))
def qr.l80:Nat→qc→qf→List Int→List qc→Int→Option (List qc)
 | 0,_,_,_,_,_=>none
 | k+1,y,z,t58,l78,x79=>if x79<((cutl t58 0 (if (t58.length:Int)<z.f2 then (t58.length:Int) else z.f2)).length:Int) then (if 0≤x79∧x79<((cutl t58 0 (if (t58.length:Int)<z.f2 then (t58.length:Int) else z.f2)).length:Int) then (if z.f1=1 then (qr.j110 k y z t58 l78 x79 (nth 0 (cutl t58 0 (if (t58.length:Int)<z.f2 then (t58.length:Int) else z.f2)) x79) y.f1 y.f2) else (if z.f1=2 then (qr.j110 k y z t58 l78 x79 y.f0 (nth 0 (cutl t58 0 (if (t58.length:Int)<z.f2 then (t58.length:Int) else z.f2)) x79) y.f2) else (qr.j110 k y z t58 l78 x79 y.f0 y.f1 (nth 0 (cutl t58 0 (if (t58.length:Int)<z.f2 then (t58.length:Int) else z.f2)) x79)))) else (none)) else (some l78)
def qr.j110:Nat→qc→qf→List Int→List qc→Int→Int→Int→Int→Option (List qc)
 | 0,_,_,_,_,_,_,_,_=>none
 | k+1,y,z,t58,l78,x79,x107,x108,x109=>if ((l78.length:Int)+((1:Nat):Int)) * 24≤140737488355328 then (qr.l80 k y z t58 (l78++[(⟨x107,x108,x109⟩:qc)]) (w64 (x79+1))) else (none)
end
theorem qr.j42_s k y z p l40:type_of% (qr.j42.eq_2 y z p l40 k):=qr.j42.eq_2 y z p l40 k
theorem qr.l80_s k y z t58 l78 x79:type_of% (qr.l80.eq_2 y z t58 l78 x79 k):=qr.l80.eq_2 y z t58 l78 x79 k
theorem qr.j110_s(k:Nat)(y:qc)(z:qf)(t58:List Int)(l78:List qc)(x79:Int)(x107:Int)(x108:Int)(x109:Int):qr.j110 (k+1) y z t58 l78 x79 x107 x108 x109=(if ((l78.length:Int)+((1:Nat):Int)) * 24≤140737488355328 then (qr.l80 k y z t58 (l78++[(⟨x107,x108,x109⟩:qc)]) (w64 (x79+1))) else (none)):=by kernel_rfl
def qr.f(k:Nat)(x:List qA)(y:qc)(z:qf)(p:Int):Option (List qc):=if z.f1=1 then ((qBJ.f k x).bind fun t12=>(qr.j42 k y z p t12)) else (if z.f1=2 then ((qBK.f k x y.f0).bind fun t22=>(qr.j42 k y z p t22)) else ((qBE.f k x y.f0 y.f1).bind fun t30=>(qr.j42 k y z p t30)))
def qr.Post(W F:World)(r:List qc)(v:Value)(w':World):Prop:=∃(F':World)(RA0_0:OA)(rc0_0:Nat),v = .slice RA0_0 r.length rc0_0∧Sm W F w' F' [row qc.k 212 (.slice RA0_0 r.length rc0_0) r]
theorem qr.calls(k:Nat)(x:List qA)(y:qc)(z:qf)(p:Int)(A0_0:OA)(c0_0:Nat)(r:List qc)(W F:World)(hown:Sub F W)(g0_0:Rd qA.k F A0_0 c0_0 x)(H:qr.f k x y z p=some r):
    Cr 204 #[.slice A0_0 x.length c0_0,.agg #[iv y.f0,iv y.f1,iv y.f2],.agg #[iv z.f0,iv z.f1,iv z.f2],iv p] W (qr.Post W F r):=by
 have S:=sT hown
 unfold qr.f at H
 refine ent 79 rfl rfl rfl (fun a E=>?_)
 refine sq fun K1 hK1=>pl0 (plx (t:=212) E S [iv y.f0,iv y.f1,iv y.f2] fun b2 u3 hb2 S a E=>plx (t:=175) E S [iv z.f0,iv z.f1,iv z.f2] fun b4 u5 hb4 S a E=>plc E (.r 2 1 .nil) (fun a E=>pld (hK1 _ _ (rr E fun a E=>(sq fun K7 hK7=>?_)))))
 have J45:∀ kq43,kq43≤k→∀(G:NV)(A38:OA)(c39:Nat)(l40:List qB)(F41:World)(a:Act)(w':World),Env 79 G a→At G [(3,iv p),(5,.pointer (pb b2)),(6,.pointer (pb b4)),(9,.slice A38 l40.length c39)]→Sm W F w' F41 [box b4 #[iv z.f0,iv z.f1,iv z.f2] 175,box b2 #[iv y.f0,iv y.f1,iv y.f2] 212,row qB.k 216 (.slice A38 l40.length c39) l40]→qr.j42 kq43 y z p l40=some r→K7 a w':=by
  intro kq43 hkq G A38 c39 l40 F41 a u46 E A S H
  obtain _ | k44:=kq43
  exact zz H
  rw [qr.j42_s]at H
  obtain ⟨J,E⟩:=E.at A
  refine hK7 _ _ (sq fun K47 hK47=>pl0 ?_)
  have hb2:=S.ba 1
  refine plc E (.r 0 3<|.b 3 1 (S.ba 0)<|.r 4 2<|.b 6 0 hb2<|.r 7 2<|.b 9 1 hb2<|.r 10 1<|.nil) (fun a E=>ple E (.lit (d:=(Kn.int .u64)) (e:=182) S [(IntKind.u64.wrap z.f1),(IntKind.u64.wrap y.f0),(IntKind.u64.wrap y.f1)] (.cons rfl<|.cons rfl<|.cons rfl .nil)) ?_)
  rintro _ u48 a ⟨A49,c50,rfl,S,hg⟩ E
  obtain ⟨t53,h54,H⟩:=bd H
  refine plq E S en229 (qAg.calls k44 (IntKind.u64.wrap p) [(IntKind.u64.wrap z.f1),(IntKind.u64.wrap y.f0),(IntKind.u64.wrap y.f1)] _ _ _ _ _ (Sub.refl _) (S.rd_at (i:=0) rfl) h54) fun u52 S a E=>plc E (.r 13 1 .nil) (fun a E=>?_)
  replace S:=S.front 3 rfl
  obtain ⟨F55,hs,g56,S⟩:=S.give
  obtain ⟨t58,h59,H⟩:=bd H
  refine ple E (.cl en228 (qAb.calls k44 t53 l40 _ _ _ _ _ S.own.sub g56 h59)) ?_
  rintro _ u57 a ⟨F60,A61,c62,rfl,hC⟩ E
  have hs:=hC.sub
  replace S:=S.called (X:=[]) hC
  replace g56:=g56.mono hs
  refine plc E (.r 15 1 .nil) (fun a E=>pld (hK47 _ _ (rr E fun a E=>(sq fun K66 hK66=>sq fun K67 hK67=>pl0 ?_))))
  have hb4:=S.ba 2
  obtain ⟨F68,hs,g69,S⟩:=S.give
  replace g56:=g56.mono hs
  obtain ⟨c70,H⟩:=gd H
  obtain ⟨A71,c72,g73,hv74⟩:=qFO (P:=Tryz.prog) g69 ⟨Int.le_refl _,c70.1,c70.2⟩ sz3
  refine plc E (.r 0 2<|.b 2 2 hb4<|.r 3 3<|.y 6 (hv74 (by kernel_rfl))<|.r 7 2<|.nil) (fun a E=>pld (hK67 _ _ (wp_block ?_)))
  replace S:=S.nilrow qc.k 212
  replace S:=S.pm [2,3,0] 4
  refine wp_loop_ghost (fun kq81 a w'=>∃(G:NV)(A76:OA)(c77:Nat)(l78:List qc)(x79:Int),kq81≤k44∧Env 79 G a∧At G [(5,.pointer (pb b2)),(6,.pointer (pb b4)),(11,.slice A76 l78.length c77),(54,.slice A71 ((cutl t58 0 (if (t58.length:Int)<z.f2 then (t58.length:Int) else z.f2)).length) c72),(55,iv ((cutl t58 0 (if (t58.length:Int)<z.f2 then (t58.length:Int) else z.f2)).length:Int)),(56,iv x79)]∧Sm W F w' F68 [box b4 #[iv z.f0,iv z.f1,iv z.f2] 175,box b2 #[iv y.f0,iv y.f1,iv y.f2] 212,row qc.k 212 (.slice A76 l78.length c77) l78]∧qr.l80 kq81 y z t58 l78 x79=some r) k44 ⟨_,none,0,[],0,Nat.le_refl _,E,.of,S,H⟩ ?_
  rintro kq81 a u83 ⟨G,A76,c77,l78,x79,hkq,E,A,S,H⟩
  obtain _ | k82:=kq81
  exact zz H
  rw [qr.l80_s]at H
  obtain ⟨J,E⟩:=E.at A
  refine rr E fun a E=>(sq fun K85 hK85=>E.ik 57 H (fun c86 E H=>?_) fun c86 E H=>?_)
  refine wp_skip (hK85 _ _ (sq fun K87 hK87=>wp_block (sq fun K88 hK88=>pl0 ?_)))
  obtain ⟨c89,H⟩:=gd H
  have hE_:=E
  obtain ⟨ad90,rfl⟩:=g73.addr c89.1 c89.2
  replace E:=hE_
  obtain ⟨cs92,rfl,hc93⟩:=g73.el 0 x79 c89.1 c89.2
  refine plc E (.x 0 c89<|.c 1 (S.fc hc93 0)<|.r 2 1<|.nil) (fun a E=>pld (hK88 _ _ (sq fun K94 hK94=>pl0 (plc E (.bn 0 0 3 (S.ba 1) .nil) (fun a E=>pla (t:=212) E S [iv 0,iv 0,iv 0] fun b95 u96 hb95 S a E=>pls E S [iv y.f0,iv y.f1,iv y.f2] fun u97 hb95 S a E=>pld (hK94 _ _ (sq fun K98 hK98=>?_)))))))
  have J113:∀ kq111,kq111≤k82→∀(G:NV)(x107:Int)(x108:Int)(x109:Int)(a:Act)(w':World),Env 79 G a→At G [(5,.pointer (pb b2)),(6,.pointer (pb b4)),(11,.slice A76 l78.length c77),(14,.pointer (pb b95)),(54,.slice (some ad90) ((cutl t58 0 (if (t58.length:Int)<z.f2 then (t58.length:Int) else z.f2)).length) c72),(55,iv ((cutl t58 0 (if (t58.length:Int)<z.f2 then (t58.length:Int) else z.f2)).length:Int)),(56,iv x79)]→Sm W F w' F68 [box b95 #[iv x107,iv x108,iv x109] 212,box b4 #[iv z.f0,iv z.f1,iv z.f2] 175,box b2 #[iv y.f0,iv y.f1,iv y.f2] 212,row qc.k 212 (.slice A76 l78.length c77) l78]→qr.j110 kq111 y z t58 l78 x79 x107 x108 x109=some r→K98 a w':=by
   intro kq111 hkq G x107 x108 x109 a u114 E A S H
   obtain _ | k112:=kq111
   exact zz H
   rw [qr.j110_s]at H
   obtain ⟨J,E⟩:=E.at A
   refine hK98 _ _ (pl0 (plc E (.r 0 1<|.bn 1 0 3 (S.ba 0)<|.nil) (fun a E=>ple E (.lit (d:=qc.k) (e:=212) S [(⟨x107,x108,x109⟩:qc)] (.cons rfl .nil)) ?_)))
   rintro _ u115 a ⟨A116,c117,rfl,S,hg⟩ E
   obtain ⟨c119,H⟩:=gd H
   replace S:=S.front 4 rfl
   refine ple E (.ap (d:=qc.k) 24 S (qBn (S.row_at (i:=1) rfl)) c119 c117) ?_
   rintro _ u122 a ⟨A120,c121,rfl,S,hz⟩ E
   refine plc E (.r 4 1 .nil) (fun a E=>pld ?_)
   refine qBb ?_
   refine hK87 _ _ (pl0 (plc E (.r 0 2 .nil) (fun a E=>pld ?_)))
   replace S:=S.pm [3,4,0] 5
   exact qBc ⟨k112,by omega,_,A120,c121,(l78++[(⟨x107,x108,x109⟩:qc)]),(w64 (x79+1)),by omega,E,.of,S,H⟩
  refine rg E (.r 0 1<|.b 1 1 (S.ba 1)<|.nil) fun a E=>(wp_block (rr E fun a E=>(E.ik 65 H (fun c101 E H=>?_) fun c101 E H=>?_)))
  refine pl0 (plc E (.r 0 2 .nil) (fun a E=>pls E S [iv (nth 0 (cutl t58 0 (if (t58.length:Int)<z.f2 then (t58.length:Int) else z.f2)) x79),iv y.f1,iv y.f2] fun u102 hb95 S a E=>pld ?_))
  refine qBb ?_
  exact J113 _ (by omega) _ (nth 0 (cutl t58 0 (if (t58.length:Int)<z.f2 then (t58.length:Int) else z.f2)) x79) y.f1 y.f2 _ _ E .of S H
  refine rr E fun a E=>(E.ik 69 H (fun c104 E H=>?_) fun c104 E H=>?_)
  refine pl0 (plc E (.r 0 2 .nil) (fun a E=>pls E S [iv y.f0,iv (nth 0 (cutl t58 0 (if (t58.length:Int)<z.f2 then (t58.length:Int) else z.f2)) x79),iv y.f2] fun u105 hb95 S a E=>pld ?_))
  refine qBb ?_
  exact J113 _ (by omega) _ y.f0 (nth 0 (cutl t58 0 (if (t58.length:Int)<z.f2 then (t58.length:Int) else z.f2)) x79) y.f2 _ _ E .of S H
  refine pl0 (plc E (.r 0 2 .nil) (fun a E=>pls E S [iv y.f0,iv y.f1,iv (nth 0 (cutl t58 0 (if (t58.length:Int)<z.f2 then (t58.length:Int) else z.f2)) x79)] fun u106 hb95 S a E=>pld ?_))
  refine qBb ?_
  exact J113 _ (by omega) _ y.f0 y.f1 (nth 0 (cutl t58 0 (if (t58.length:Int)<z.f2 then (t58.length:Int) else z.f2)) x79) _ _ E .of S H
  refine wp_exit ?_
  refine hK66 _ _ (rr E fun a E=>(wp_ret ?_))
  replace S:=S.pm [] 2
  obtain rfl:=si H
  exact rt1 E ⟨_,rfl,_,_,_,rfl,S⟩
 refine rg E (.r 0 1<|.b 1 1 hb4<|.nil) fun a E=>(wp_block (rr E fun a E=>(E.ik 23 H (fun c10 E H=>?_) fun c10 E H=>?_)))
 refine pl0 (plc E (.r 0 1 .nil) (fun a E=>?_))
 obtain ⟨t12,h13,H⟩:=bd H
 refine ple E (.cl en225 (qBJ.calls k x _ _ _ _ _ S.own.sub g0_0 h13)) ?_
 rintro _ u11 a ⟨F14,A15,c16,rfl,hC⟩ E
 have hs:=hC.sub
 replace S:=S.called (X:=[]) hC
 replace g0_0:=g0_0.mono hs
 refine plc E (.r 2 1 .nil) (fun a E=>pld ?_)
 refine qBb ?_
 replace S:=S.pm [1,2,0] 3
 exact J45 _ (by omega) _ A15 c16 t12 F14 _ _ E .of S H
 refine rr E fun a E=>(E.ik 27 H (fun c20 E H=>?_) fun c20 E H=>?_)
 refine pl0 (plc E (.r 0 2<|.b 2 0 (S.ba 1)<|.nil) (fun a E=>?_))
 obtain ⟨t22,h23,H⟩:=bd H
 refine ple E (.cl en226 (qBK.calls k x y.f0 _ _ _ _ _ S.own.sub g0_0 h23)) ?_
 rintro _ u21 a ⟨F24,A25,c26,rfl,hC⟩ E
 have hs:=hC.sub
 replace S:=S.called (X:=[]) hC
 replace g0_0:=g0_0.mono hs
 refine plc E (.r 4 1 .nil) (fun a E=>pld ?_)
 refine qBb ?_
 replace S:=S.pm [1,2,0] 3
 exact J45 _ (by omega) _ A25 c26 t22 F24 _ _ E .of S H
 refine pl0 ?_
 have hb2:=S.ba 1
 refine plc E (.r 0 2<|.b 2 0 hb2<|.r 3 1<|.b 4 1 hb2<|.nil) (fun a E=>?_)
 obtain ⟨t30,h31,H⟩:=bd H
 refine ple E (.cl en227 (qBE.calls k x y.f0 y.f1 _ _ _ _ _ S.own.sub g0_0 h31)) ?_
 rintro _ u29 a ⟨F32,A33,c34,rfl,hC⟩ E
 have hs:=hC.sub
 replace S:=S.called (X:=[]) hC
 replace g0_0:=g0_0.mono hs
 refine plc E (.r 6 1 .nil) (fun a E=>pld ?_)
 refine qBb ?_
 replace S:=S.pm [1,2,0] 3
 exact J45 _ (by omega) _ A33 c34 t30 F32 _ _ E .of S H
mutual
def qq.j16:Nat→List qA→List qf→Int→Int→Bool→Option ((List Int) × Int)
 | 0,_,_,_,_,_=>none
 | k+1,x,y,z,p,y15=>if y15=true then (some ([],1)) else (qq.l38 k x y z p [] [] 0)
def qq.l38:Nat→List qA→List qf→Int→Int→List qc→List Int→Int→Option ((List Int) × Int)
 | 0,_,_,_,_,_,_,_=>none
 | k+1,x,y,z,p,l32,l35,x36=>if x36<(y.length:Int) then (if 0≤x36∧x36<(y.length:Int) then (if (nth qf.z y x36).f0=1 then (qq.l38 k x y z p [(⟨0,0,0⟩:qc)] l35 (w64 (x36+1))) else (if (nth qf.z y x36).f0=2 then (qq.l73 k x y z p l32 l35 x36 [] 0) else (qq.l111 k x y z p l32 x36 l35 0))) else (none)) else (some (l35,0))
def qq.l73:Nat→List qA→List qf→Int→Int→List qc→List Int→Int→List qc→Int→Option ((List Int) × Int)
 | 0,_,_,_,_,_,_,_,_,_=>none
 | k+1,x,y,z,p,l32,l35,x36,l70,x71=>if x71<(l32.length:Int) then (if 0≤x71∧x71<(l32.length:Int) then ((qr.f k x (nth qc.z l32 x71) (nth qf.z y x36) z).bind fun t92=>(if ((l70.length:Int)+(t92.length:Int)) * 24≤140737488355328 then (qq.l73 k x y z p l32 l35 x36 (l70++t92) (w64 (x71+1))) else (none))) else (none)) else (qq.l38 k x y z p l70 l35 (w64 (x36+1)))
def qq.l111:Nat→List qA→List qf→Int→Int→List qc→Int→List Int→Int→Option ((List Int) × Int)
 | 0,_,_,_,_,_,_,_,_=>none
 | k+1,x,y,z,p,l32,x36,l109,x110=>if x110<(l32.length:Int) then (if 0≤x110∧x110<(l32.length:Int) then (if (l109.length:Int)<p then ((qAB.f k l109 ((nth qc.z l32 x110).f2)).bind fun t132=>(qq.j135 k x y z p l32 x36 l109 x110 (!t132))) else (qq.j135 k x y z p l32 x36 l109 x110 false)) else (none)) else (qq.l38 k x y z p [] l109 (w64 (x36+1)))
def qq.j135:Nat→List qA→List qf→Int→Int→List qc→Int→List Int→Int→Bool→Option ((List Int) × Int)
 | 0,_,_,_,_,_,_,_,_,_=>none
 | k+1,x,y,z,p,l32,x36,l109,x110,y134=>if y134=true then (if ((l109.length:Int)+((1:Nat):Int)) * 8≤140737488355328 then (qq.l111 k x y z p l32 x36 (l109++[(nth qc.z l32 x110).f2]) (w64 (x110+1))) else (none)) else (qq.l111 k x y z p l32 x36 l109 (w64 (x110+1)))
end
theorem qq.j16_s k x y z p y15:type_of% (qq.j16.eq_2 x y z p y15 k):=qq.j16.eq_2 x y z p y15 k
theorem qq.l38_s k x y z p l32 l35 x36:type_of% (qq.l38.eq_2 x y z p l32 l35 x36 k):=qq.l38.eq_2 x y z p l32 l35 x36 k
theorem qq.l73_s k x y z p l32 l35 x36 l70 x71:type_of% (qq.l73.eq_2 x y z p l32 l35 x36 l70 x71 k):=qq.l73.eq_2 x y z p l32 l35 x36 l70 x71 k
theorem qq.l111_s k x y z p l32 x36 l109 x110:type_of% (qq.l111.eq_2 x y z p l32 x36 l109 x110 k):=qq.l111.eq_2 x y z p l32 x36 l109 x110 k
theorem qq.j135_s k x y z p l32 x36 l109 x110 y134:type_of% (qq.j135.eq_2 x y z p l32 x36 l109 x110 y134 k):=qq.j135.eq_2 x y z p l32 x36 l109 x110 y134 k
def qq.f(k:Nat)(x:List qA)(y:List qf)(z:Int)(p:Int):Option ((List Int) × Int):=(qz.f k x).bind fun t5=>(if t5=0 then ((qAP.f k y).bind fun t9=>(if t9=0 then (if z<0 then (qq.j16 k x y z p true) else (if z≥8 then (qq.j16 k x y z p true) else (if p<1 then (qq.j16 k x y z p true) else (qq.j16 k x y z p (decide (p>3)))))) else (qq.j16 k x y z p true))) else (qq.j16 k x y z p true))
def qq.Post(W F:World)(r:(List Int) × Int)(v:Value)(w':World):Prop:=∃(F':World)(RA0_0:OA)(rc0_0:Nat),v = .tuple #[.slice RA0_0 r.1.length rc0_0,iv r.2]∧Sm W F w' F' [row ki 3 (.slice RA0_0 r.1.length rc0_0) r.1]
theorem qq.calls(k:Nat)(x:List qA)(y:List qf)(z:Int)(p:Int)(A0_0:OA)(c0_0:Nat)(A1_0:OA)(c1_0:Nat)(r:(List Int) × Int)(W F:World)(hown:Sub F W)(g0_0:Rd qA.k F A0_0 c0_0 x)(g1_0:Rd qf.k F A1_0 c1_0 y)(H:qq.f k x y z p=some r):
    Cr 166 #[.slice A0_0 x.length c0_0,.slice A1_0 y.length c1_0,iv z,iv p] W (qq.Post W F r):=by
 have S:=sT hown
 unfold qq.f at H
 refine ent 97 rfl rfl rfl (fun a E=>?_)
 refine rr E fun a E=>(sq fun K2 hK2=>sq fun K3 hK3=>?_)
 have J19:∀ kq17,kq17≤k→∀(G:NV)(y15:Bool)(a:Act)(w':World),Env 97 G a→At G [(0,.slice A0_0 x.length c0_0),(1,.slice A1_0 y.length c1_0),(2,iv z),(3,iv p),(42,.bool y15)]→Sm W F w' F []→qq.j16 kq17 x y z p y15=some r→K3 a w':=by
  intro kq17 hkq G y15 a u20 E A S H
  obtain _ | k18:=kq17
  exact zz H
  rw [qq.j16_s]at H
  obtain ⟨J,E⟩:=E.at A
  refine hK3 _ _ (E.ib 42 H (fun c21 E H=>?_) fun c21 E H=>?_)
  refine rr E fun a E=>(wp_ret (qBZ ?_))
  replace S:=S.nilrow ki 3
  obtain rfl:=si H
  exact rtN E ⟨_,rfl,_,_,_,rfl,S⟩
  refine wp_skip (hK2 _ _ (rr E fun a E=>(rr E fun a E=>(sq fun K26 hK26=>rr E fun a E=>(wp_block ?_)))))
  replace S:=S.nilrow qc.k 212
  replace S:=S.nilrow ki 3
  replace S:=S.front 1 rfl
  refine wp_loop_ghost (fun kq39 a w'=>∃(G:NV)(A30:OA)(c31:Nat)(l32:List qc)(A33:OA)(c34:Nat)(l35:List Int)(x36:Int)(F37:World),kq39≤k18∧Env 97 G a∧At G [(0,.slice A0_0 x.length c0_0),(2,iv z),(3,iv p),(10,.slice A30 l32.length c31),(11,.slice A33 l35.length c34),(43,.slice A1_0 y.length c1_0),(44,iv (y.length:Int)),(45,iv x36)]∧Sm W F w' F37 [row qc.k 212 (.slice A30 l32.length c31) l32,row ki 3 (.slice A33 l35.length c34) l35]∧Rd qA.k F37 A0_0 c0_0 x∧Rd qf.k F37 A1_0 c1_0 y∧qq.l38 kq39 x y z p l32 l35 x36=some r) k18 ⟨_,none,0,[],none,0,[],0,F,Nat.le_refl _,E,.of,S,g0_0,g1_0,H⟩ ?_
  rintro kq39 a u41 ⟨G,A30,c31,l32,A33,c34,l35,x36,F37,hkq,E,A,S,g0_0,g1_0,H⟩
  obtain _ | k40:=kq39
  exact zz H
  rw [qq.l38_s]at H
  obtain ⟨J,E⟩:=E.at A
  refine rr E fun a E=>(sq fun K43 hK43=>E.ik 46 H (fun c44 E H=>?_) fun c44 E H=>?_)
  refine wp_skip (hK43 _ _ (sq fun K45 hK45=>wp_block (sq fun K46 hK46=>pl0 ?_)))
  obtain ⟨c47,H⟩:=gd H
  have hE_:=E
  obtain ⟨ad48,rfl⟩:=g1_0.addr c47.1 c47.2
  replace E:=hE_
  obtain ⟨cs50,rfl,hc51⟩:=g1_0.el qf.z x36 c47.1 c47.2
  refine plc E (.x 0 c47<|.cs 1 (S.fcs hc51)<|.nil) (fun a E=>pla (t:=175) E S [iv 0,iv 0,iv 0] fun b52 u53 hb52 S a E=>pls E S [iv ((nth qf.z y x36).f0),iv ((nth qf.z y x36).f1),iv ((nth qf.z y x36).f2)] fun u54 hb52 S a E=>pld (hK46 _ _ (rg E (.r 0 1<|.b 1 0 hb52<|.nil) fun a E=>(wp_block (rr E fun a E=>(E.ik 74 H (fun c57 E H=>?_) fun c57 E H=>?_))))))
  refine pl0 (plc E (.r 0 1 .nil) (fun a E=>ple E (.lit (d:=qc.k) (e:=212) S [(⟨0,0,0⟩:qc)] (.cons rfl .nil)) ?_))
  rintro _ u58 a ⟨A59,c60,rfl,S,hg⟩ E
  refine plc E (.r 2 1 .nil) (fun a E=>pld ?_)
  refine qBb ?_
  refine qBb ?_
  refine hK45 _ _ (pl0 (plc E (.r 0 2 .nil) (fun a E=>pld ?_)))
  replace S:=S.pm [0] 3
  exact qBc ⟨k40,by omega,_,A59,c60,[(⟨0,0,0⟩:qc)],A33,c34,l35,(w64 (x36+1)),F37,by omega,E,.of,S,g0_0,g1_0,H⟩
  refine rr E fun a E=>(E.ik 78 H (fun c63 E H=>?_) fun c63 E H=>?_)
  refine rr E fun a E=>(sq fun K65 hK65=>rr E fun a E=>(wp_block ?_))
  replace S:=S.nilrow qc.k 212
  replace S:=S.pm [1,2,3,0] 4
  refine wp_loop_ghost (fun kq74 a w'=>∃(G:NV)(A68:OA)(c69:Nat)(l70:List qc)(x71:Int)(F72:World),kq74≤k40∧Env 97 G a∧At G [(0,.slice A0_0 x.length c0_0),(2,iv z),(3,iv p),(11,.slice A33 l35.length c34),(13,.pointer (pb b52)),(14,.slice A68 l70.length c69),(43,.slice (some ad48) y.length c1_0),(44,iv (y.length:Int)),(45,iv x36),(80,.slice A30 l32.length c31),(81,iv (l32.length:Int)),(82,iv x71)]∧Sm W F w' F72 [box b52 #[iv ((nth qf.z y x36).f0),iv ((nth qf.z y x36).f1),iv ((nth qf.z y x36).f2)] 175,row qc.k 212 (.slice A30 l32.length c31) l32,row ki 3 (.slice A33 l35.length c34) l35,row qc.k 212 (.slice A68 l70.length c69) l70]∧Rd qA.k F72 A0_0 c0_0 x∧Rd qf.k F72 (some ad48) c1_0 y∧qq.l73 kq74 x y z p l32 l35 x36 l70 x71=some r) k40 ⟨_,none,0,[],0,F37,Nat.le_refl _,E,.of,S,g0_0,g1_0,H⟩ ?_
  rintro kq74 a u76 ⟨G,A68,c69,l70,x71,F72,hkq,E,A,S,g0_0,g1_0,H⟩
  obtain _ | k75:=kq74
  exact zz H
  rw [qq.l73_s]at H
  obtain ⟨J,E⟩:=E.at A
  refine rr E fun a E=>(sq fun K78 hK78=>E.ik 83 H (fun c79 E H=>?_) fun c79 E H=>?_)
  refine wp_skip (hK78 _ _ (sq fun K80 hK80=>wp_block (sq fun K81 hK81=>pl0 ?_)))
  obtain ⟨c82,H⟩:=gd H
  have hr83:=S.ra 1
  have hE_:=E
  obtain ⟨b84,rfl⟩:=qBf hr83 c82.1 c82.2
  replace E:=hE_
  have hr_:=S.ra 1
  obtain ⟨cs86,rfl,hc87⟩:=qBe hr_ qc.z x71 c82.1 c82.2
  refine plc E (.x 0 c82<|.cs 1 hc87<|.nil) (fun a E=>pla (t:=212) E S [iv 0,iv 0,iv 0] fun b88 u89 hb88 S a E=>pls E S [iv ((nth qc.z l32 x71).f0),iv ((nth qc.z l32 x71).f1),iv ((nth qc.z l32 x71).f2)] fun u90 hb88 S a E=>pld (hK81 _ _ (pl0 (plc E (.r 0 2<|.bn 2 0 3 hb88<|.bn 3 0 3 (S.ba 1)<|.r 4 1<|.nil) (fun a E=>?_)))))
  obtain ⟨t92,h93,H⟩:=bd H
  refine ple E (.cl en204 (qr.calls k75 x (nth qc.z l32 x71) (nth qf.z y x36) z _ _ _ _ _ S.own.sub g0_0 h93)) ?_
  rintro _ u91 a ⟨F94,A95,c96,rfl,hC⟩ E
  have hs:=hC.sub
  replace S:=S.called (X:=[]) hC
  replace g0_0:=g0_0.mono hs
  replace g1_0:=g1_0.mono hs
  obtain ⟨c99,H⟩:=gd H
  replace S:=S.front 5 rfl
  refine ple E (.ap (d:=qc.k) 24 S (qBn (S.row_at (i:=1) rfl)) c99 c96) ?_
  rintro _ u102 a ⟨A100,c101,rfl,S,hz⟩ E
  refine plc E (.r 7 1 .nil) (fun a E=>pld ?_)
  refine qBb ?_
  refine hK80 _ _ (pl0 (plc E (.r 0 2 .nil) (fun a E=>pld ?_)))
  replace S:=S.pm [3,4,5,0] 6
  exact qBc ⟨k75,by omega,_,A100,c101,(l70++t92),(w64 (x71+1)),F94,by omega,E,.of,S,g0_0,g1_0,H⟩
  refine wp_exit ?_
  refine hK65 _ _ (pl0 (plc E (.r 0 2 .nil) (fun a E=>pld ?_)))
  refine qBb ?_
  refine qBb ?_
  refine hK45 _ _ (pl0 (plc E (.r 0 2 .nil) (fun a E=>pld ?_)))
  replace S:=S.pm [3,2] 4
  exact qBc ⟨k75,by omega,_,A68,c69,l70,A33,c34,l35,(w64 (x36+1)),F72,by omega,E,.of,S,g0_0,g1_0,H⟩
  refine sq fun K104 hK104=>rr E fun a E=>(wp_block ?_)
  refine wp_loop_ghost (fun kq112 a w'=>∃(G:NV)(A107:OA)(c108:Nat)(l109:List Int)(x110:Int),kq112≤k40∧Env 97 G a∧At G [(0,.slice A0_0 x.length c0_0),(2,iv z),(3,iv p),(11,.slice A107 l109.length c108),(43,.slice (some ad48) y.length c1_0),(44,iv (y.length:Int)),(45,iv x36),(51,.slice A30 l32.length c31),(52,iv (l32.length:Int)),(53,iv x110)]∧Sm W F w' F37 [box b52 #[iv ((nth qf.z y x36).f0),iv ((nth qf.z y x36).f1),iv ((nth qf.z y x36).f2)] 175,row qc.k 212 (.slice A30 l32.length c31) l32,row ki 3 (.slice A107 l109.length c108) l109]∧qq.l111 kq112 x y z p l32 x36 l109 x110=some r) k40 ⟨_,A33,c34,l35,0,Nat.le_refl _,E,.of,S,H⟩ ?_
  rintro kq112 a u114 ⟨G,A107,c108,l109,x110,hkq,E,A,S,H⟩
  obtain _ | k113:=kq112
  exact zz H
  rw [qq.l111_s]at H
  obtain ⟨J,E⟩:=E.at A
  refine rr E fun a E=>(sq fun K116 hK116=>E.ik 54 H (fun c117 E H=>?_) fun c117 E H=>?_)
  refine wp_skip (hK116 _ _ (sq fun K118 hK118=>wp_block (sq fun K119 hK119=>pl0 ?_)))
  obtain ⟨c120,H⟩:=gd H
  have hr121:=S.ra 1
  have hE_:=E
  obtain ⟨b122,rfl⟩:=qBf hr121 c120.1 c120.2
  replace E:=hE_
  have hr_:=S.ra 1
  obtain ⟨cs124,rfl,hc125⟩:=qBe hr_ qc.z x110 c120.1 c120.2
  refine plc E (.x 0 c120<|.cs 1 hc125<|.nil) (fun a E=>pla (t:=212) E S [iv 0,iv 0,iv 0] fun b126 u127 hb126 S a E=>pls E S [iv ((nth qc.z l32 x110).f0),iv ((nth qc.z l32 x110).f1),iv ((nth qc.z l32 x110).f2)] fun u128 hb126 S a E=>pld (hK119 _ _ (sq fun K129 hK129=>?_)))
  have J138:∀ kq136,kq136≤k113→∀(G:NV)(y134:Bool)(a:Act)(w':World),Env 97 G a→At G [(0,.slice A0_0 x.length c0_0),(2,iv z),(3,iv p),(11,.slice A107 l109.length c108),(18,.pointer (pb b126)),(43,.slice (some ad48) y.length c1_0),(44,iv (y.length:Int)),(45,iv x36),(51,.slice (pb b122) l32.length c31),(52,iv (l32.length:Int)),(53,iv x110),(67,.bool y134)]→Sm W F w' F37 [box b126 #[iv ((nth qc.z l32 x110).f0),iv ((nth qc.z l32 x110).f1),iv ((nth qc.z l32 x110).f2)] 212,box b52 #[iv ((nth qf.z y x36).f0),iv ((nth qf.z y x36).f1),iv ((nth qf.z y x36).f2)] 175,row qc.k 212 (.slice (pb b122) l32.length c31) l32,row ki 3 (.slice A107 l109.length c108) l109]→qq.j135 kq136 x y z p l32 x36 l109 x110 y134=some r→K129 a w':=by
   intro kq136 hkq G y134 a u139 E A S H
   obtain _ | k137:=kq136
   exact zz H
   rw [qq.j135_s]at H
   obtain ⟨J,E⟩:=E.at A
   refine hK129 _ _ (E.ib 67 H (fun c140 E H=>?_) fun c140 E H=>?_)
   refine pl0 (plc E (.r 0 2<|.b 2 2 (S.ba 0)<|.nil) (fun a E=>ple E (.lit (d:=ki) (e:=3) S [(nth qc.z l32 x110).f2] (.cons rfl .nil)) ?_))
   rintro _ u141 a ⟨A142,c143,rfl,S,hg⟩ E
   obtain ⟨c145,H⟩:=gd H
   replace S:=S.front 4 rfl
   refine ple E (.ap (d:=ki) 8 S (qBn (S.row_at (i:=1) rfl)) c145 c143) ?_
   rintro _ u148 a ⟨A146,c147,rfl,S,hz⟩ E
   refine plc E (.r 5 1 .nil) (fun a E=>pld ?_)
   refine qBb ?_
   refine hK118 _ _ (pl0 (plc E (.r 0 2 .nil) (fun a E=>pld ?_)))
   replace S:=S.pm [3,4,0] 5
   exact qBc ⟨k137,by omega,_,A146,c147,(l109++[(nth qc.z l32 x110).f2]),(w64 (x110+1)),by omega,E,.of,S,H⟩
   refine wp_skip ?_
   refine qBb ?_
   refine hK118 _ _ (pl0 (plc E (.r 0 2 .nil) (fun a E=>pld ?_)))
   replace S:=S.tail
   exact qBc ⟨k137,by omega,_,A107,c108,l109,(w64 (x110+1)),by omega,E,.of,S,H⟩
  refine pl0 (plc E (.r 0 5 .nil) (fun a E=>E.fk 61 H (fun c130 E H=>?_) fun c130 E H=>?_))
  refine plc E (.r 5 2<|.b 7 2 hb126<|.nil) (fun a E=>?_)
  obtain ⟨t132,h133,H⟩:=bd H
  refine plq E S en118 (qAB.calls k113 l109 ((nth qc.z l32 x110).f2) _ _ _ _ _ (Sub.refl _) (S.rd_at (i:=3) rfl) h133) fun u131 S a E=>plc E (.r 9 2 .nil) (fun a E=>pld ?_)
  exact J138 _ (by omega) _ (!t132) _ _ E .of S H
  refine plc E (.r 5 6 .nil) (fun a E=>pld ?_)
  exact J138 _ (by omega) _ false _ _ E .of S H
  refine wp_exit ?_
  refine hK104 _ _ (pl0 (plc E (.r 0 1 .nil) (fun a E=>pld ?_)))
  refine qBb ?_
  refine qBb ?_
  refine hK45 _ _ (pl0 (plc E (.r 0 2 .nil) (fun a E=>pld ?_)))
  replace S:=S.nilrow qc.k 212
  replace S:=S.pm [0] 3
  exact qBc ⟨k113,by omega,_,none,0,[],A107,c108,l109,(w64 (x36+1)),F37,by omega,E,.of,S,g0_0,g1_0,H⟩
  refine wp_exit ?_
  refine hK26 _ _ (rr E fun a E=>(wp_ret ?_))
  replace S:=S.tail
  obtain rfl:=si H
  exact rtN E ⟨_,rfl,_,_,_,rfl,S⟩
 refine pl0 (plc E (.r 0 1 .nil) (fun a E=>?_))
 obtain ⟨t5,h6,H⟩:=bd H
 refine plq E S en80 (qz.calls k x _ _ _ _ _ S.own.sub g0_0 h6) fun u4 S a E=>plc E (.r 2 2 .nil) (fun a E=>E.fkn 22 H (fun c7 E H=>?_) fun c7 E H=>?_)
 refine plc E (.r 4 1 .nil) (fun a E=>?_)
 obtain ⟨t9,h10,H⟩:=bd H
 refine plq E S en203 (qAP.calls k y _ _ _ _ _ S.own.sub g1_0 h10) fun u8 S a E=>plc E (.r 6 3 .nil) (fun a E=>E.fkn 27 H (fun c11 E H=>?_) fun c11 E H=>?_)
 refine plc E (.r 9 4 .nil) (fun a E=>E.fk 31 H (fun c12 E H=>?_) fun c12 E H=>?_)
 refine plc E (.r 13 11 .nil) (fun a E=>pld ?_)
 exact J19 _ (by omega) _ true _ _ E .of S H
 refine plc E (.r 13 4 .nil) (fun a E=>E.fk 35 H (fun c13 E H=>?_) fun c13 E H=>?_)
 refine plc E (.r 17 7 .nil) (fun a E=>pld ?_)
 exact J19 _ (by omega) _ true _ _ E .of S H
 refine plc E (.r 17 4 .nil) (fun a E=>E.fk 39 H (fun c14 E H=>?_) fun c14 E H=>?_)
 refine plc E (.r 21 3 .nil) (fun a E=>pld ?_)
 exact J19 _ (by omega) _ true _ _ E .of S H
 refine plc E (.r 21 3 .nil) (fun a E=>pld ?_)
 exact J19 _ (by omega) _ (decide (p>3)) _ _ E .of S H
 refine plc E (.r 9 15 .nil) (fun a E=>pld ?_)
 exact J19 _ (by omega) _ true _ _ E .of S H
 refine plc E (.r 4 20 .nil) (fun a E=>pld ?_)
 exact J19 _ (by omega) _ true _ _ E .of S H
def qAX.j6:Nat→Int→Bool→Option (List qf)
 | 0,_,_=>none
 | k+1,x,y5=>if y5=true then (some []) else (some [(⟨1,0,0⟩:qf),(⟨2,1,x⟩:qf),(⟨2,2,1⟩:qf),(⟨2,3,1⟩:qf),(⟨3,0,0⟩:qf)])
theorem qAX.j6_s k x y5:type_of% (qAX.j6.eq_2 x y5 k):=qAX.j6.eq_2 x y5 k
def qAX.f(k:Nat)(x:Int):Option (List qf):=if x<1 then (qAX.j6 k x true) else (qAX.j6 k x (decide (x>3)))
def qAX.Post(W F:World)(r:List qf)(v:Value)(w':World):Prop:=∃(F':World)(RA0_0:OA)(rc0_0:Nat),v = .slice RA0_0 r.length rc0_0∧Sm W F w' F' [row qf.k 175 (.slice RA0_0 r.length rc0_0) r]
theorem qAX.calls(k:Nat)(x:Int)(r:List qf)(W F:World)(hown:Sub F W)(H:qAX.f k x=some r):
    Cr 167 #[iv x] W (qAX.Post W F r):=by
 have S:=sT hown
 unfold qAX.f at H
 refine ent 16 rfl rfl rfl (fun a E=>?_)
 refine rr E fun a E=>(sq fun K2 hK2=>sq fun K3 hK3=>?_)
 have J9:∀ kq7,kq7≤k→∀(G:NV)(y5:Bool)(a:Act)(w':World),Env 16 G a→At G [(0,iv x),(8,.bool y5)]→Sm W F w' F []→qAX.j6 kq7 x y5=some r→K3 a w':=by
  intro kq7 hkq G y5 a u10 E A S H
  obtain _ | k8:=kq7
  exact zz H
  rw [qAX.j6_s]at H
  obtain ⟨J,E⟩:=E.at A
  refine hK3 _ _ (E.ib 8 H (fun c11 E H=>?_) fun c11 E H=>?_)
  refine rr E fun a E=>(wp_ret (qBZ ?_))
  replace S:=S.nilrow qf.k 175
  obtain rfl:=si H
  exact rt1 E ⟨_,rfl,_,_,_,rfl,S⟩
  refine wp_skip (hK2 _ _ (sq fun K14 hK14=>pl0 (plc E (.r 0 6 .nil) (fun a E=>ple E (.lit (d:=qf.k) (e:=175) S [(⟨1,0,0⟩:qf),(⟨2,1,x⟩:qf),(⟨2,2,1⟩:qf),(⟨2,3,1⟩:qf),(⟨3,0,0⟩:qf)] (.cons rfl<|.cons rfl<|.cons rfl<|.cons rfl<|.cons rfl .nil)) ?_))))
  rintro _ u15 a ⟨A16,c17,rfl,S,hg⟩ E
  refine plc E (.r 7 1 .nil) (fun a E=>pld (hK14 _ _ (wp_ret ?_)))
  obtain rfl:=si H
  exact rt1 E ⟨_,rfl,_,_,_,rfl,S⟩
 refine pl0 (plc E (.r 0 3 .nil) (fun a E=>E.fk 5 H (fun c4 E H=>?_) fun c4 E H=>?_))
 refine plc E (.r 3 3 .nil) (fun a E=>pld ?_)
 exact J9 _ (by omega) _ true _ _ E .of S H
 refine plc E (.r 3 3 .nil) (fun a E=>pld ?_)
 exact J9 _ (by omega) _ (decide (x>3)) _ _ E .of S H
def qBR.f(k:Nat)(x:List qA)(y:Int)(z:Int):Option (List Int):=(qAX.f k z).bind fun t4=>((qq.f k x t4 y z).bind fun t14=>(some t14.1))
def qBR.Post(W F:World)(r:List Int)(v:Value)(w':World):Prop:=∃(F':World)(RA0_0:OA)(rc0_0:Nat),v = .slice RA0_0 r.length rc0_0∧Sm W F w' F' [row ki 3 (.slice RA0_0 r.length rc0_0) r]
theorem qBR.calls(k:Nat)(x:List qA)(y:Int)(z:Int)(A0_0:OA)(c0_0:Nat)(r:List Int)(W F:World)(hown:Sub F W)(g0_0:Rd qA.k F A0_0 c0_0 x)(H:qBR.f k x y z=some r):
    Cr 122 #[.slice A0_0 x.length c0_0,iv y,iv z] W (qBR.Post W F r):=by
 have S:=sT hown
 unfold qBR.f at H
 refine ent 19 rfl rfl rfl (fun a E=>?_)
 refine rr E fun a E=>(sq fun K2 hK2=>pl0 (plc E (.r 0 2 .nil) (fun a E=>?_)))
 obtain ⟨t4,h5,H⟩:=bd H
 refine ple E (.cl en167 (qAX.calls k z _ _ _ S.own.sub h5)) ?_
 rintro _ u3 a ⟨F6,A7,c8,rfl,hC⟩ E
 have hs:=hC.sub
 replace S:=S.called (X:=[]) hC
 replace g0_0:=g0_0.mono hs
 refine plc E (.r 3 2 .nil) (fun a E=>?_)
 obtain ⟨F11,hs,g12,S⟩:=S.give
 replace g0_0:=g0_0.mono hs
 obtain ⟨t14,h15,H⟩:=bd H
 refine ple E (.cl en166 (qq.calls k x t4 y z _ _ _ _ _ _ _ S.own.sub g0_0 g12 h15)) ?_
 rintro _ u13 a ⟨F16,A17,c18,rfl,hC⟩ E
 have hs:=hC.sub
 replace S:=S.called (X:=[]) hC
 replace g0_0:=g0_0.mono hs
 replace g12:=g12.mono hs
 refine plc E (.r 6 5 .nil) (fun a E=>pld (hK2 _ _ (rr E fun a E=>(wp_ret ?_))))
 obtain rfl:=si H
 exact rt1 E ⟨_,rfl,_,_,_,rfl,S⟩
def qBL.f(k:Nat)(x:qG)(y:Int):Option (List Int):=(qBG.f k x y).bind fun t7=>(if t7.2=true then (if 0≤t7.1∧t7.1<(x.f5.length:Int) then ((qAE.f ((nth qE.z x.f5 t7.1).f1)).bind fun t21=>(some t21)) else (none)) else ((qBR.f k x.f4 y x.f1).bind fun t30=>(some t30)))
def qBL.Post(W F:World)(r:List Int)(v:Value)(w':World):Prop:=∃(F':World)(RA0_0:OA)(rc0_0:Nat),v = .slice RA0_0 r.length rc0_0∧Sm W F w' F' [row ki 3 (.slice RA0_0 r.length rc0_0) r]
theorem qBL.calls(k:Nat)(x:qG)(y:Int)(A0_4:OA)(c0_4:Nat)(A0_5:OA)(c0_5:Nat)(A0_6:OA)(c0_6:Nat)(r:List Int)(W F:World)(hown:Sub F W)(g0_4:Rd qA.k F A0_4 c0_4 x.f4)(g0_5:Rd qE.k F A0_5 c0_5 x.f5)(g0_6:Rd qD.k F A0_6 c0_6 x.f6)(H:qBL.f k x y=some r):
    Cr 71 #[.agg #[iv x.f0,iv x.f1,iv x.f2,iv x.f3,.slice A0_4 x.f4.length c0_4,.slice A0_5 x.f5.length c0_5,.slice A0_6 x.f6.length c0_6],iv y] W (qBL.Post W F r):=by
 have S:=sT hown
 unfold qBL.f at H
 refine ent 27 rfl rfl rfl (fun a E=>?_)
 refine sq fun K1 hK1=>pl0 (plx (t:=26) E S [iv x.f0,iv x.f1,iv x.f2,iv x.f3,.slice A0_4 x.f4.length c0_4,.slice A0_5 x.f5.length c0_5,.slice A0_6 x.f6.length c0_6] fun b2 u3 hb2 S a E=>plc E (.r 1 1 .nil) (fun a E=>pld (hK1 _ _ (sq fun K4 hK4=>sq fun K5 hK5=>pl0 (plc E (.bn 0 0 7 hb2<|.r 1 1<|.nil) (fun a E=>?_))))))
 obtain ⟨t7,h8,H⟩:=bd H
 refine plq E S en121 (qBG.calls k x y _ _ _ _ _ _ _ _ _ S.own.sub g0_4 g0_5 g0_6 h8) fun u6 S a E=>plc E (.r 3 5 .nil) (fun a E=>pld (hK5 _ _ (rr E fun a E=>(E.ib 13 H (fun c10 E H=>?_) fun c10 E H=>?_))))
 refine sq fun K11 hK11=>pl0 ?_
 have hb2:=S.ba 0
 obtain ⟨c12,H⟩:=gd H
 have hE_:=E
 obtain ⟨ad13,rfl⟩:=g0_5.addr c12.1 c12.2
 replace E:=hE_
 obtain ⟨cs15,⟨A17,c18,rfl,g19⟩,hc16⟩:=g0_5.el qE.z t7.1 c12.1 c12.2
 refine plc E (.r 0 1<|.b 1 5 hb2<|.r 2 1<|.x 3 c12<|.r 4 1<|.c 5 (S.fc hc16 1)<|.nil) (fun a E=>?_)
 obtain ⟨t21,h22,H⟩:=bd H
 refine ple E (.cl en112 (qAE.calls ((nth qE.z x.f5 t7.1).f1) _ _ _ _ _ S.own.sub g19 h22)) ?_
 rintro _ u20 a ⟨F23,A24,c25,rfl,hC⟩ E
 have hs:=hC.sub
 replace S:=S.called (X:=[]) hC
 replace g0_4:=g0_4.mono hs
 replace g0_5:=g0_5.mono hs
 replace g0_6:=g0_6.mono hs
 replace g19:=g19.mono hs
 refine plc E (.r 7 1 .nil) (fun a E=>pld (hK11 _ _ (wp_ret (qBZ ?_))))
 replace S:=S.pm [0] 2
 obtain rfl:=si H
 exact rt1 E ⟨_,rfl,_,_,_,rfl,S⟩
 refine wp_skip (hK4 _ _ (sq fun K28 hK28=>pl0 ?_))
 have hb2:=S.ba 0
 refine plc E (.r 0 1<|.b 1 4 hb2<|.r 2 2<|.b 4 1 hb2<|.nil) (fun a E=>?_)
 obtain ⟨t30,h31,H⟩:=bd H
 refine ple E (.cl en122 (qBR.calls k x.f4 y x.f1 _ _ _ _ _ S.own.sub g0_4 h31)) ?_
 rintro _ u29 a ⟨F32,A33,c34,rfl,hC⟩ E
 have hs:=hC.sub
 replace S:=S.called (X:=[]) hC
 replace g0_4:=g0_4.mono hs
 replace g0_5:=g0_5.mono hs
 replace g0_6:=g0_6.mono hs
 refine plc E (.r 6 1 .nil) (fun a E=>pld (hK28 _ _ (wp_ret ?_)))
 replace S:=S.pm [0] 2
 obtain rfl:=si H
 exact rt1 E ⟨_,rfl,_,_,_,rfl,S⟩
def qAl.j14:Nat→qG→Int→Bool→Option (List Int)
 | 0,_,_,_=>none
 | k+1,x,y,y13=>if y13=true then (some []) else ((qBL.f k x y).bind fun t24=>(some t24))
theorem qAl.j14_s k x y y13:type_of% (qAl.j14.eq_2 x y y13 k):=qAl.j14.eq_2 x y y13 k
def qAl.f(k:Nat)(x:qG)(y:Int):Option (List Int):=(qt.f k x).bind fun t7=>(if t7=0 then ((qAZ.f y 0 (w64 (x.f3 - 1))).bind fun t11=>(qAl.j14 k x y (!t11))) else (qAl.j14 k x y true))
def qAl.Post(W F:World)(r:List Int)(v:Value)(w':World):Prop:=∃(F':World)(RA0_0:OA)(rc0_0:Nat),v = .slice RA0_0 r.length rc0_0∧Sm W F w' F' [row ki 3 (.slice RA0_0 r.length rc0_0) r]
theorem qAl.calls(k:Nat)(x:qG)(y:Int)(A0_4:OA)(c0_4:Nat)(A0_5:OA)(c0_5:Nat)(A0_6:OA)(c0_6:Nat)(r:List Int)(W F:World)(hown:Sub F W)(g0_4:Rd qA.k F A0_4 c0_4 x.f4)(g0_5:Rd qE.k F A0_5 c0_5 x.f5)(g0_6:Rd qD.k F A0_6 c0_6 x.f6)(H:qAl.f k x y=some r):
    Cr 22 #[.agg #[iv x.f0,iv x.f1,iv x.f2,iv x.f3,.slice A0_4 x.f4.length c0_4,.slice A0_5 x.f5.length c0_5,.slice A0_6 x.f6.length c0_6],iv y] W (qAl.Post W F r):=by
 have S:=sT hown
 unfold qAl.f at H
 refine ent 19 rfl rfl rfl (fun a E=>?_)
 refine sq fun K1 hK1=>pl0 (plx (t:=26) E S [iv x.f0,iv x.f1,iv x.f2,iv x.f3,.slice A0_4 x.f4.length c0_4,.slice A0_5 x.f5.length c0_5,.slice A0_6 x.f6.length c0_6] fun b2 u3 hb2 S a E=>plc E (.r 1 1 .nil) (fun a E=>pld (hK1 _ _ (sq fun K4 hK4=>sq fun K5 hK5=>?_))))
 have J17:∀ kq15,kq15≤k→∀(G:NV)(y13:Bool)(a:Act)(w':World),Env 19 G a→At G [(1,iv y),(2,.pointer (pb b2)),(15,.bool y13)]→Sm W F w' F [box b2 #[iv x.f0,iv x.f1,iv x.f2,iv x.f3,.slice A0_4 x.f4.length c0_4,.slice A0_5 x.f5.length c0_5,.slice A0_6 x.f6.length c0_6] 26]→qAl.j14 kq15 x y y13=some r→K5 a w':=by
  intro kq15 hkq G y13 a u18 E A S H
  obtain _ | k16:=kq15
  exact zz H
  rw [qAl.j14_s]at H
  obtain ⟨J,E⟩:=E.at A
  refine hK5 _ _ (E.ib 15 H (fun c19 E H=>?_) fun c19 E H=>?_)
  refine rr E fun a E=>(wp_ret (qBZ ?_))
  replace S:=S.nilrow ki 3
  replace S:=S.pm [0] 2
  obtain rfl:=si H
  exact rt1 E ⟨_,rfl,_,_,_,rfl,S⟩
  refine wp_skip (hK4 _ _ (sq fun K22 hK22=>pl0 (plc E (.bn 0 0 7 (S.ba 0)<|.r 1 1<|.nil) (fun a E=>?_))))
  obtain ⟨t24,h25,H⟩:=bd H
  refine ple E (.cl en71 (qBL.calls k16 x y _ _ _ _ _ _ _ _ _ S.own.sub g0_4 g0_5 g0_6 h25)) ?_
  rintro _ u23 a ⟨F26,A27,c28,rfl,hC⟩ E
  have hs:=hC.sub
  replace S:=S.called (X:=[]) hC
  replace g0_4:=g0_4.mono hs
  replace g0_5:=g0_5.mono hs
  replace g0_6:=g0_6.mono hs
  refine plc E (.r 3 1 .nil) (fun a E=>pld (hK22 _ _ (wp_ret ?_)))
  replace S:=S.pm [0] 2
  obtain rfl:=si H
  exact rt1 E ⟨_,rfl,_,_,_,rfl,S⟩
 refine pl0 (plc E (.bn 0 0 7 hb2 .nil) (fun a E=>?_))
 obtain ⟨t7,h8,H⟩:=bd H
 refine plq E S en32 (qt.calls k x _ _ _ _ _ _ _ _ _ S.own.sub g0_4 g0_5 g0_6 h8) fun u6 S a E=>plc E (.r 2 2 .nil) (fun a E=>E.fkn 8 H (fun c9 E H=>?_) fun c9 E H=>?_)
 refine plc E (.r 4 2<|.b 6 3 (S.ba 0)<|.r 7 1<|.nil) (fun a E=>?_)
 obtain ⟨t11,h12,H⟩:=bd H
 refine plq E S en70 (qAZ.calls y 0 (w64 (x.f3 - 1)) _ _ _ S.own.sub h12) fun u10 S a E=>plc E (.r 9 2 .nil) (fun a E=>pld ?_)
 exact J17 _ (by omega) _ (!t11) _ _ E .of S H
 refine plc E (.r 4 7 .nil) (fun a E=>pld ?_)
 exact J17 _ (by omega) _ true _ _ E .of S H
def qAt.f(x:qA)(y:Int):Option Int:=(qAU.f x.f0 y).bind fun t6=>(some t6)
def qAt.Post(W F:World)(r:Int)(v:Value)(w':World):Prop:=∃(F':World),v=iv r∧Sm W F w' F' []
theorem qAt.calls(x:qA)(y:Int)(r:Int)(W F:World)(hown:Sub F W)(H:qAt.f x y=some r):
    Cr 174 #[.agg #[iv x.f0,iv x.f1,iv x.f2,iv x.f3,.bool x.f4,.bool x.f5],iv y] W (qAt.Post W F r):=by
 have S:=sT hown
 unfold qAt.f at H
 refine ent 9 rfl rfl rfl (fun a E=>?_)
 refine sq fun K1 hK1=>pl0 (plx (t:=104) E S [iv x.f0,iv x.f1,iv x.f2,iv x.f3,.bool x.f4,.bool x.f5] fun b2 u3 hb2 S a E=>plc E (.r 1 1 .nil) (fun a E=>pld (hK1 _ _ (sq fun K4 hK4=>pl0 (plc E (.r 0 1<|.b 1 0 hb2<|.r 2 1<|.nil) (fun a E=>?_))))))
 obtain ⟨t6,h7,H⟩:=bd H
 refine plq E S en161 (qAU.calls x.f0 y _ _ _ S.own.sub h7) fun u5 S a E=>plc E (.r 4 1 .nil) (fun a E=>pld (hK4 _ _ (wp_ret ?_)))
 replace S:=S.tail
 obtain rfl:=si H
 exact rt1 E ⟨_,rfl,_,rfl,S⟩
def qL.l7:Nat→List qA→Int→Int→Int→Option (Int × Bool)
 | 0,_,_,_,_=>none
 | k+1,x,y,x5,x6=>if x5<x6 then (if 0≤(w64 ((IntKind.u64.wrap (w64 (x5+x6))).fdiv 2))∧(w64 ((IntKind.u64.wrap (w64 (x5+x6))).fdiv 2))<(x.length:Int) then ((qAt.f (nth qA.z x (w64 ((IntKind.u64.wrap (w64 (x5+x6))).fdiv 2))) y).bind fun t22=>(if t22<0 then (qL.l7 k x y (w64 ((w64 ((IntKind.u64.wrap (w64 (x5+x6))).fdiv 2))+1)) x6) else (qL.l7 k x y x5 (w64 ((IntKind.u64.wrap (w64 (x5+x6))).fdiv 2))))) else (none)) else (if x5<(x.length:Int) then (if 0≤x5∧x5<(x.length:Int) then ((qAt.f (nth qA.z x x5) y).bind fun t33=>(some (x5,(t33 == 0)))) else (none)) else (some (x5,false)))
theorem qL.l7_s k x y x5 x6:type_of% (qL.l7.eq_2 x y x5 x6 k):=qL.l7.eq_2 x y x5 x6 k
def qL.f(k:Nat)(x:List qA)(y:Int):Option (Int × Bool):=qL.l7 k x y 0 (x.length:Int)
def qL.Post(W F:World)(r:Int × Bool)(v:Value)(w':World):Prop:=∃(F':World),v = .tuple #[iv r.1,.bool r.2]∧Sm W F w' F' []
theorem qL.calls(k:Nat)(x:List qA)(y:Int)(A0_0:OA)(c0_0:Nat)(r:Int × Bool)(W F:World)(hown:Sub F W)(g0_0:Rd qA.k F A0_0 c0_0 x)(H:qL.f k x y=some r):
    Cr 173 #[.slice A0_0 x.length c0_0,iv y,.func (.func 174) #[] #[]] W (qL.Post W F r):=by
 have S:=sT hown
 unfold qL.f at H
 refine ent 49 rfl rfl rfl (fun a E=>?_)
 refine rr E fun a E=>(rr E fun a E=>(rr E fun a E=>(sq fun K4 hK4=>wp_block ?_)))
 refine wp_loop_ghost (fun kq8 a w'=>∃(G:NV)(x5:Int)(x6:Int),kq8≤k∧Env 49 G a∧At G [(0,.slice A0_0 x.length c0_0),(1,iv y),(2,.func (.func 174) #[] #[]),(8,iv (x.length:Int)),(9,iv x5),(10,iv x6)]∧Sm W F w' F []∧qL.l7 kq8 x y x5 x6=some r) k ⟨_,0,(x.length:Int),Nat.le_refl _,E,.of,S,H⟩ ?_
 rintro kq8 a u10 ⟨G,x5,x6,hkq,E,A,S,H⟩
 obtain _ | k9:=kq8
 exact zz H
 rw [qL.l7_s]at H
 obtain ⟨J,E⟩:=E.at A
 refine sq fun K11 hK11=>rr E fun a E=>(E.ik 17 H (fun c13 E H=>?_) fun c13 E H=>?_)
 refine wp_skip (hK11 _ _ (wp_block (rr E fun a E=>(sq fun K15 hK15=>pl0 ?_))))
 obtain ⟨c16,H⟩:=gd H
 have hE_:=E
 obtain ⟨ad17,rfl⟩:=g0_0.addr c16.1 c16.2
 replace E:=hE_
 obtain ⟨cs19,rfl,hc20⟩:=g0_0.el qA.z (w64 ((IntKind.u64.wrap (w64 (x5+x6))).fdiv 2)) c16.1 c16.2
 refine plc E (.r 0 3<|.x 3 c16<|.cs 4 (S.fcs hc20)<|.r 5 1<|.nil) (fun a E=>?_)
 obtain ⟨t22,h23,H⟩:=bd H
 refine plq E S en174 (qAt.calls (nth qA.z x (w64 ((IntKind.u64.wrap (w64 (x5+x6))).fdiv 2))) y _ _ _ S.own.sub h23) fun u21 S a E=>plc E (.r 7 1 .nil) (fun a E=>pld (hK15 _ _ (E.ik 31 H (fun c24 E H=>?_) fun c24 E H=>?_)))
 refine pl0 (plc E (.r 0 3 .nil) (fun a E=>pld ?_))
 refine qBb ?_
 exact qBc ⟨k9,by omega,_,(w64 ((w64 ((IntKind.u64.wrap (w64 (x5+x6))).fdiv 2))+1)),x6,by omega,E,.of,S,H⟩
 refine pl0 (plc E (.r 0 2 .nil) (fun a E=>pld ?_))
 refine qBb ?_
 exact qBc ⟨k9,by omega,_,x5,(w64 ((IntKind.u64.wrap (w64 (x5+x6))).fdiv 2)),by omega,E,.of,S,H⟩
 refine wp_exit ?_
 refine hK4 _ _ (sq fun K25 hK25=>pl0 (plc E (.r 0 5 .nil) (fun a E=>E.fk 39 H (fun c26 E H=>?_) fun c26 E H=>?_)))
 obtain ⟨c27,H⟩:=gd H
 have hE_:=E
 obtain ⟨ad28,rfl⟩:=g0_0.addr c27.1 c27.2
 replace E:=hE_
 obtain ⟨cs30,rfl,hc31⟩:=g0_0.el qA.z x5 c27.1 c27.2
 refine plc E (.r 5 3<|.x 8 c27<|.cs 9 (S.fcs hc31)<|.r 10 1<|.nil) (fun a E=>?_)
 obtain ⟨t33,h34,H⟩:=bd H
 refine plq E S en174 (qAt.calls (nth qA.z x x5) y _ _ _ S.own.sub h34) fun u32 S a E=>plc E (.r 12 4 .nil) (fun a E=>pld (hK25 _ _ (wp_ret ?_)))
 obtain rfl:=si H
 exact rtN E ⟨_,rfl,_,rfl,S⟩
 refine plc E (.r 5 11 .nil) (fun a E=>pld (hK25 _ _ (wp_ret ?_)))
 obtain rfl:=si H
 exact rtN E ⟨_,rfl,_,rfl,S⟩
def qAi.j15:Nat→List qA→Int × Bool→Bool→Option (qA × Bool)
 | 0,_,_,_=>none
 | k+1,x,t6,y14=>if y14=true then (some ((⟨0,0,0,0,false,false⟩:qA),false)) else (if 0≤t6.1∧t6.1<(x.length:Int) then (some ((nth qA.z x t6.1),true)) else (none))
theorem qAi.j15_s k x t6 y14:type_of% (qAi.j15.eq_2 x t6 y14 k):=qAi.j15.eq_2 x t6 y14 k
def qAi.f(k:Nat)(x:List qA)(y:Int):Option (qA × Bool):=(qL.f k x y).bind fun t6=>(if t6.2=true then ((qz.f k x).bind fun t12=>(qAi.j15 k x t6 (!(t12 == 0)))) else (qAi.j15 k x t6 true))
def qAi.Post(W F:World)(r:qA × Bool)(v:Value)(w':World):Prop:=∃(F':World),v = .tuple #[.agg #[iv r.1.f0,iv r.1.f1,iv r.1.f2,iv r.1.f3,.bool r.1.f4,.bool r.1.f5],.bool r.2]∧Sm W F w' F' []
theorem qAi.calls(k:Nat)(x:List qA)(y:Int)(A0_0:OA)(c0_0:Nat)(r:qA × Bool)(W F:World)(hown:Sub F W)(g0_0:Rd qA.k F A0_0 c0_0 x)(H:qAi.f k x y=some r):
    Cr 127 #[.slice A0_0 x.length c0_0,iv y] W (qAi.Post W F r):=by
 have S:=sT hown
 unfold qAi.f at H
 refine ent 26 rfl rfl rfl (fun a E=>?_)
 refine sq fun K1 hK1=>pl0 (pla (t:=104) E S [iv 0,iv 0,iv 0,iv 0,.bool false,.bool false] fun b2 u3 hb2 S a E=>plc E (.r 1 1 .nil) (fun a E=>pld (hK1 _ _ (sq fun K4 hK4=>pl0 (plc E (.r 0 2 .nil) (fun a E=>?_))))))
 obtain ⟨t6,h7,H⟩:=bd H
 refine plq E S en173 (qL.calls k x y _ _ _ _ _ S.own.sub g0_0 h7) fun u5 S a E=>plc E (.r 3 5 .nil) (fun a E=>pld (hK4 _ _ (sq fun K8 hK8=>sq fun K9 hK9=>?_)))
 have J18:∀ kq16,kq16≤k→∀(G:NV)(y14:Bool)(a:Act)(w':World),Env 26 G a→At G [(0,.slice A0_0 x.length c0_0),(4,.pointer (pb b2)),(6,iv t6.1),(20,.bool y14)]→Sm W F w' F [box b2 #[iv 0,iv 0,iv 0,iv 0,.bool false,.bool false] 104]→qAi.j15 kq16 x t6 y14=some r→K9 a w':=by
  intro kq16 hkq G y14 a u19 E A S H
  obtain _ | k17:=kq16
  exact zz H
  rw [qAi.j15_s]at H
  obtain ⟨J,E⟩:=E.at A
  refine hK9 _ _ (E.ib 20 H (fun c20 E H=>?_) fun c20 E H=>?_)
  refine sq fun K21 hK21=>pl0 (plc E (.r 0 1 .nil) (fun a E=>pls E S [iv 0,iv 0,iv 0,iv 0,.bool false,.bool false] fun u22 hb2 S a E=>plc E (.r 2 1 .nil) (fun a E=>pld (hK21 _ _ (wp_ret (qBZ ?_))))))
  replace S:=S.tail
  obtain rfl:=si H
  exact rtm E (.b hb2 ag104 sz104 (.t .nil)) ⟨_,rfl,_,rfl,S⟩
  refine wp_skip (hK8 _ _ (sq fun K23 hK23=>pl0 ?_))
  obtain ⟨c24,H⟩:=gd H
  have hE_:=E
  obtain ⟨ad25,rfl⟩:=g0_0.addr c24.1 c24.2
  replace E:=hE_
  obtain ⟨cs27,rfl,hc28⟩:=g0_0.el qA.z t6.1 c24.1 c24.2
  refine plc E (.r 0 2<|.x 2 c24<|.cs 3 (S.fcs hc28)<|.nil) (fun a E=>pls E S [iv ((nth qA.z x t6.1).f0),iv ((nth qA.z x t6.1).f1),iv ((nth qA.z x t6.1).f2),iv ((nth qA.z x t6.1).f3),.bool ((nth qA.z x t6.1).f4),.bool ((nth qA.z x t6.1).f5)] fun u29 hb2 S a E=>plc E (.r 5 1 .nil) (fun a E=>pld (hK23 _ _ (wp_ret ?_))))
  replace S:=S.tail
  obtain rfl:=si H
  exact rtm E (.b hb2 ag104 sz104 (.t .nil)) ⟨_,rfl,_,rfl,S⟩
 refine pl0 (plc E (.r 0 3 .nil) (fun a E=>E.fbn 16 H (fun c10 E H=>?_) fun c10 E H=>?_))
 refine plc E (.r 3 1 .nil) (fun a E=>?_)
 obtain ⟨t12,h13,H⟩:=bd H
 refine plq E S en80 (qz.calls k x _ _ _ _ _ S.own.sub g0_0 h13) fun u11 S a E=>plc E (.r 5 2 .nil) (fun a E=>pld ?_)
 exact J18 _ (by omega) _ (!(t12 == 0)) _ _ E .of S H
 refine plc E (.r 3 4 .nil) (fun a E=>pld ?_)
 exact J18 _ (by omega) _ true _ _ E .of S H
def qAz.f(k:Nat)(x:Int)(xf0_:qG):Option Bool:=(qAi.f k xf0_.f4 x).bind fun t4=>(some (!t4.1.f4))
def qAz.Post(W F:World)(r:Bool)(v:Value)(w':World):Prop:=∃(F':World),v = .bool r∧Sm W F w' F' []
theorem qAz.calls(k:Nat)(x:Int)(xf0_:qG)(pf0_:Nat)(Af0_4:OA)(cf0_4:Nat)(Af0_5:OA)(cf0_5:Nat)(Af0_6:OA)(cf0_6:Nat)(r:Bool)(W F:World)(hown:Sub F W)(gf0_4:Rd qA.k F Af0_4 cf0_4 xf0_.f4)(gf0_5:Rd qE.k F Af0_5 cf0_5 xf0_.f5)(gf0_6:Rd qD.k F Af0_6 cf0_6 xf0_.f6)(hpf0_:F.heap[pf0_]? = some (.cells #[iv xf0_.f0,iv xf0_.f1,iv xf0_.f2,iv xf0_.f3,.slice Af0_4 xf0_.f4.length cf0_4,.slice Af0_5 xf0_.f5.length cf0_5,.slice Af0_6 xf0_.f6.length cf0_6] 26 (0,0)))(H:qAz.f k x xf0_=some r):
    Cr 126 #[iv x,.pointer (pb pf0_)] W (qAz.Post W F r):=by
 have S:=sT hown
 unfold qAz.f at H
 refine ent 16 rfl rfl rfl (fun a E=>?_)
 refine rr E fun a E=>(sq fun K2 hK2=>pl0 (plc E (.r 0 1<|.b 1 4 (S.own.sub _ _ _ _ hpf0_)<|.r 2 1<|.nil) (fun a E=>?_)))
 obtain ⟨t4,h5,H⟩:=bd H
 refine plq E S en127 (qAi.calls k xf0_.f4 x _ _ _ _ _ S.own.sub gf0_4 h5) fun u3 S a E=>plc E (.r 4 3 .nil) (fun a E=>pla (t:=104) E S [iv 0,iv 0,iv 0,iv 0,.bool false,.bool false] fun b6 u7 hb6 S a E=>pls E S [iv t4.1.f0,iv t4.1.f1,iv t4.1.f2,iv t4.1.f3,.bool t4.1.f4,.bool t4.1.f5] fun u8 hb6 S a E=>plc E (.r 9 1 .nil) (fun a E=>pld (hK2 _ _ (rg E (.r 0 1<|.b 1 4 hb6<|.r 2 2<|.nil) fun a E=>(wp_ret ?_)))))
 replace S:=S.tail
 obtain rfl:=si H
 exact rt1 E ⟨_,rfl,_,rfl,S⟩
def qe.l5:Nat→List Int→qG→Int→Option Int
 | 0,_,_,_=>none
 | k+1,x,x1c0_,x4=>if x4<(x.length:Int) then (if 0≤x4∧x4<(x.length:Int) then ((qAz.f k (nth 0 x x4) x1c0_).bind fun t21=>(if t21=true then (some x4) else (qe.l5 k x x1c0_ (w64 (x4+1))))) else (none)) else (some (-1))
theorem qe.l5_s k x x1c0_ x4:type_of% (qe.l5.eq_2 x x1c0_ x4 k):=qe.l5.eq_2 x x1c0_ x4 k
def qe.f(k:Nat)(x:List Int)(x1c0_:qG):Option Int:=qe.l5 k x x1c0_ 0
def qe.Post(W F:World)(r:Int)(v:Value)(w':World):Prop:=∃(F':World),v=iv r∧Sm W F w' F' []
theorem qe.calls(k:Nat)(x:List Int)(x1c0_:qG)(A0_0:OA)(c0_0:Nat)(p1c0_:Nat)(A1c0_4:OA)(c1c0_4:Nat)(A1c0_5:OA)(c1c0_5:Nat)(A1c0_6:OA)(c1c0_6:Nat)(r:Int)(W F:World)(hown:Sub F W)(g0_0:Rd ki F A0_0 c0_0 x)(g1c0_4:Rd qA.k F A1c0_4 c1c0_4 x1c0_.f4)(g1c0_5:Rd qE.k F A1c0_5 c1c0_5 x1c0_.f5)(g1c0_6:Rd qD.k F A1c0_6 c1c0_6 x1c0_.f6)(hp1c0_:F.heap[p1c0_]? = some (.cells #[iv x1c0_.f0,iv x1c0_.f1,iv x1c0_.f2,iv x1c0_.f3,.slice A1c0_4 x1c0_.f4.length c1c0_4,.slice A1c0_5 x1c0_.f5.length c1c0_5,.slice A1c0_6 x1c0_.f6.length c1c0_6] 26 (0,0)))(H:qe.f k x x1c0_=some r):
    Cr 157 #[.slice A0_0 x.length c0_0,.func (.func 126) #[] #[.pointer (pb p1c0_)]] W (qe.Post W F r):=by
 have S:=sT hown
 unfold qe.f at H
 refine ent 19 rfl rfl rfl (fun a E=>?_)
 refine rr E fun a E=>(sq fun K2 hK2=>rr E fun a E=>(wp_block ?_))
 refine wp_loop_ghost (fun kq6 a w'=>∃(G:NV)(x4:Int),kq6≤k∧Env 19 G a∧At G [(0,.slice A0_0 x.length c0_0),(1,.func (.func 126) #[] #[.pointer (pb p1c0_)]),(7,iv (x.length:Int)),(8,iv x4)]∧Sm W F w' F []∧qe.l5 kq6 x x1c0_ x4=some r) k ⟨_,0,Nat.le_refl _,E,.of,S,H⟩ ?_
 rintro kq6 a u8 ⟨G,x4,hkq,E,A,S,H⟩
 obtain _ | k7:=kq6
 exact zz H
 rw [qe.l5_s]at H
 obtain ⟨J,E⟩:=E.at A
 refine rr E fun a E=>(sq fun K10 hK10=>E.ik 9 H (fun c11 E H=>?_) fun c11 E H=>?_)
 refine wp_skip (hK10 _ _ (sq fun K12 hK12=>wp_block (rr E fun a E=>(sq fun K14 hK14=>pl0 ?_))))
 obtain ⟨c15,H⟩:=gd H
 have hE_:=E
 obtain ⟨ad16,rfl⟩:=g0_0.addr c15.1 c15.2
 replace E:=hE_
 obtain ⟨cs18,rfl,hc19⟩:=g0_0.el 0 x4 c15.1 c15.2
 refine plc E (.r 0 3<|.x 3 c15<|.c 4 (S.fc hc19 0)<|.nil) (fun a E=>?_)
 obtain ⟨t21,h22,H⟩:=bd H
 refine plq E S en126 (qAz.calls k7 (nth 0 x x4) x1c0_ _ _ _ _ _ _ _ _ _ _ S.own.sub g1c0_4 g1c0_5 g1c0_6 hp1c0_ h22) fun u20 S a E=>pld (hK14 _ _ (E.ib 16 H (fun c23 E H=>?_) fun c23 E H=>?_))
 refine rr E fun a E=>(wp_ret (qBa (qBZ (qBZ (qBa (qBZ ?_))))))
 obtain rfl:=si H
 exact rt1 E ⟨_,rfl,_,rfl,S⟩
 refine wp_skip ?_
 refine qBb ?_
 refine hK12 _ _ (pl0 (plc E (.r 0 2 .nil) (fun a E=>pld ?_)))
 exact qBc ⟨k7,by omega,_,(w64 (x4+1)),by omega,E,.of,S,H⟩
 refine wp_exit ?_
 refine hK2 _ _ (rr E fun a E=>(wp_ret ?_))
 obtain rfl:=si H
 exact rt1 E ⟨_,rfl,_,rfl,S⟩
def qd.l15:Nat→List Int→qG→List Int→Int→Int→Option (List Int)
 | 0,_,_,_,_,_=>none
 | k+1,x,x1c0_,l12,x13,x14=>if x14<(x.length:Int) then (if 0≤x14∧x14<(x.length:Int) then ((qAz.f k (nth 0 l12 x14) x1c0_).bind fun t33=>(if t33=true then (qd.l15 k x x1c0_ l12 x13 (w64 (x14+1))) else (if 0≤x13∧x13<(x.length:Int) then (qd.l15 k x x1c0_ (l12.set (x13).toNat (nth 0 l12 x14)) (w64 (x13+1)) (w64 (x14+1))) else (none)))) else (none)) else (if 0≤x13∧x13≤(x.length:Int) then (some (cutl (l12.take (x13).toNat++List.replicate (x.length - (x13).toNat) 0) 0 x13)) else (none))
theorem qd.l15_s k x x1c0_ l12 x13 x14:type_of% (qd.l15.eq_2 x x1c0_ l12 x13 x14 k):=qd.l15.eq_2 x x1c0_ l12 x13 x14 k
def qd.f(k:Nat)(x:List Int)(x1c0_:qG):Option (List Int):=(qe.f k x x1c0_).bind fun t4=>(if t4=(-1) then (some x) else (qd.l15 k x x1c0_ x t4 (w64 (t4+1))))
def qd.Post(x:List Int)(x1c0_:qG)(A0_0:OA)(c0_0:Nat)(p1c0_:Nat)(A1c0_4:OA)(c1c0_4:Nat)(A1c0_5:OA)(c1c0_5:Nat)(A1c0_6:OA)(c1c0_6:Nat)(W F:World)(r:List Int)(v:Value)(w':World):Prop:=∃(F':World)(RA0_0:OA)(rc0_0:Nat),v = .slice RA0_0 r.length rc0_0∧St W (mine W [row ki 3 (.slice A0_0 x.length c0_0) x]) F w' F' [row ki 3 (.slice RA0_0 r.length rc0_0) r]
theorem qd.calls(k:Nat)(x:List Int)(x1c0_:qG)(A0_0:OA)(c0_0:Nat)(p1c0_:Nat)(A1c0_4:OA)(c1c0_4:Nat)(A1c0_5:OA)(c1c0_5:Nat)(A1c0_6:OA)(c1c0_6:Nat)(r:List Int)(W F:World)(hown:Own W F [row ki 3 (.slice A0_0 x.length c0_0) x])(g1c0_4:Rd qA.k F A1c0_4 c1c0_4 x1c0_.f4)(g1c0_5:Rd qE.k F A1c0_5 c1c0_5 x1c0_.f5)(g1c0_6:Rd qD.k F A1c0_6 c1c0_6 x1c0_.f6)(hp1c0_:F.heap[p1c0_]? = some (.cells #[iv x1c0_.f0,iv x1c0_.f1,iv x1c0_.f2,iv x1c0_.f3,.slice A1c0_4 x1c0_.f4.length c1c0_4,.slice A1c0_5 x1c0_.f5.length c1c0_5,.slice A1c0_6 x1c0_.f6.length c1c0_6] 26 (0,0)))(H:qd.f k x x1c0_=some r):
    Cr 125 #[.slice A0_0 x.length c0_0,.func (.func 126) #[] #[.pointer (pb p1c0_)]] W (qd.Post x x1c0_ A0_0 c0_0 p1c0_ A1c0_4 c1c0_4 A1c0_5 c1c0_5 A1c0_6 c1c0_6 W F r):=by
 have S:=St.start hown
 obtain ⟨N,hN⟩:∃ N,N=mine W [row ki 3 (.slice A0_0 x.length c0_0) x]:=⟨_,rfl⟩
 rw [← hN]at S
 unfold qd.f at H
 refine ent 42 rfl rfl rfl (fun a E=>?_)
 refine rr E fun a E=>(sq fun K2 hK2=>pl0 (plc E (.r 0 2 .nil) (fun a E=>?_)))
 obtain ⟨t4,h5,H⟩:=bd H
 refine plq E S en157 (qe.calls k x x1c0_ _ _ _ _ _ _ _ _ _ _ _ _ (Sub.refl _) (S.rd_at (i:=0) rfl) (g1c0_4.mono S.own.sub) (g1c0_5.mono S.own.sub) (g1c0_6.mono S.own.sub) (S.own.sub _ _ _ _ hp1c0_) h5) fun u3 S a E=>plc E (.r 3 1 .nil) (fun a E=>pld (hK2 _ _ (sq fun K6 hK6=>rr E fun a E=>(E.ik 12 H (fun c8 E H=>?_) fun c8 E H=>?_))))
 refine rr E fun a E=>(wp_ret (qBZ ?_))
 rw [hN]at S
 obtain rfl:=si H
 exact rt1 E ⟨_,rfl,_,_,_,rfl,S⟩
 refine wp_skip (hK6 _ _ (sq fun K10 hK10=>rr E fun a E=>(wp_block ?_)))
 refine wp_loop_ghost (fun kq16 a w'=>∃(G:NV)(l12:List Int)(x13:Int)(x14:Int),kq16≤k∧Env 42 G a∧At G [(0,.slice A0_0 x.length c0_0),(1,.func (.func 126) #[] #[.pointer (pb p1c0_)]),(5,iv x13),(6,iv x14)]∧St W N F w' F [row ki 3 (.slice A0_0 x.length c0_0) l12]∧qd.l15 kq16 x x1c0_ l12 x13 x14=some r) k ⟨_,x,t4,(w64 (t4+1)),Nat.le_refl _,E,.of,S,H⟩ ?_
 rintro kq16 a u18 ⟨G,l12,x13,x14,hkq,E,A,S,H⟩
 obtain _ | k17:=kq16
 exact zz H
 rw [qd.l15_s]at H
 obtain ⟨J,E⟩:=E.at A
 refine sq fun K19 hK19=>rr E fun a E=>(E.ik 19 H (fun c21 E H=>?_) fun c21 E H=>?_)
 refine wp_skip (hK19 _ _ (sq fun K22 hK22=>wp_block (sq fun K23 hK23=>pl0 ?_)))
 obtain ⟨c24,H⟩:=gd H
 have hr25:=S.ra 0
 have c26:0≤x14∧x14<(l12.length:Int):=by rw [← (qBd hr25).1]; exact c24
 have hE_:=E
 obtain ⟨b27,rfl⟩:=qBf hr25 c26.1 c26.2
 replace E:=hE_
 have hr_:=S.ra 0
 obtain ⟨cs29,rfl,hc30⟩:=qBe hr_ 0 x14 c26.1 c26.2
 refine plc E (.r 0 2<|.x 2 c24<|.c 3 (hc30 0 _ rfl)<|.r 4 1<|.nil) (fun a E=>pld (hK23 _ _ (sq fun K31 hK31=>pl0 (plc E (.r 0 2 .nil) (fun a E=>?_)))))
 obtain ⟨t33,h34,H⟩:=bd H
 refine plq E S en126 (qAz.calls k17 (nth 0 l12 x14) x1c0_ _ _ _ _ _ _ _ _ _ _ S.own.sub g1c0_4 g1c0_5 g1c0_6 hp1c0_ h34) fun u32 S a E=>plc E (.r 3 1 .nil) (fun a E=>pld (hK31 _ _ (E.ibn 29 H (fun c35 E H=>?_) fun c35 E H=>?_)))
 refine wp_skip ?_
 refine qBb ?_
 refine hK22 _ _ (pl0 (plc E (.r 0 3 .nil) (fun a E=>pld ?_)))
 exact qBc ⟨k17,by omega,_,l12,x13,(w64 (x14+1)),by omega,E,.of,S,H⟩
 refine sq fun K36 hK36=>pl0 ?_
 obtain ⟨c37,H⟩:=gd H
 have hr38:=S.ra 0
 have c39:0≤x13∧x13<(l12.length:Int):=by rw [← (qBd hr38).1]; exact c37
 have hr_:=S.ra 0
 obtain ⟨cs41,rfl,hc42⟩:=qBe hr_ 0 x13 c39.1 c39.2
 refine plc E (.r 0 3<|.x 3 c37<|.nil) (fun a E=>?_)
 obtain ⟨cs44,rfl,hc45⟩:=qBe (S.row_at (i:=0) rfl) 0 x13 c39.1 c39.2
 refine ple E (.set (d:=ki) (n:=x.length) (i:=x13) (nth 0 l12 x14) (0) (ea0 _ _) S c39 [iv (nth 0 l12 x13)] hc45 [iv (nth 0 l12 x14)] rfl) ?_
 rintro _ u43 a ⟨rfl,S,hz⟩ E
 refine pld (hK36 _ _ (pl0 (plc E (.r 0 3 .nil) (fun a E=>pld ?_))))
 refine qBb ?_
 refine hK22 _ _ (pl0 (plc E (.r 0 3 .nil) (fun a E=>pld ?_)))
 exact qBc ⟨k17,by omega,_,(l12.set (x13).toNat (nth 0 l12 x14)),(w64 (x13+1)),(w64 (x14+1)),by omega,E,.of,S,H⟩
 refine wp_exit ?_
 refine hK10 _ _ (sq fun K46 hK46=>pl0 ?_)
 obtain ⟨c47,H⟩:=gd H
 obtain ⟨A48,c49,hA50,hv51⟩:=y_suf (P:=Tryz.prog) (k:=.i64) (S.row_at (i:=0) rfl) c47
 refine plc E (.r 0 2<|.y 2 (hv51 (by kernel_rfl))<|.nil) (fun a E=>ple E (.clr (d:=ki) (n:=x.length) (c':=c49) (lo:=x13) 8 0 S c47 hA50 (by rw [zr3]; exact rfl)) ?_)
 rintro _ u52 a ⟨rfl,S,hz⟩ E
 refine pld (hK46 _ _ (sq fun K53 hK53=>pl0 ?_))
 have hv54:=S.ra 0
 replace S:=S.shrink c47
 refine plc E (.r 0 2<|.y 2 (y_pre (k:=.i64) hv54 c47)<|.r 3 1<|.nil) (fun a E=>pld (hK53 _ _ (wp_ret ?_)))
 rw [hN]at S
 obtain rfl:=si H
 exact rt1 E ⟨_,rfl,_,_,_,rfl,S⟩
def qBO.f(k:Nat)(x:qG)(y:List Int):Option (List Int):=(qd.f k y x).bind fun t8=>(some t8)
def qBO.Post(x:qG)(y:List Int)(A0_4:OA)(c0_4:Nat)(A0_5:OA)(c0_5:Nat)(A0_6:OA)(c0_6:Nat)(A1_0:OA)(c1_0:Nat)(W F:World)(r:List Int)(v:Value)(w':World):Prop:=∃(F':World)(RA0_0:OA)(rc0_0:Nat),v = .slice RA0_0 r.length rc0_0∧St W (mine W [row ki 3 (.slice A1_0 y.length c1_0) y]) F w' F' [row ki 3 (.slice RA0_0 r.length rc0_0) r]
theorem qBO.calls(k:Nat)(x:qG)(y:List Int)(A0_4:OA)(c0_4:Nat)(A0_5:OA)(c0_5:Nat)(A0_6:OA)(c0_6:Nat)(A1_0:OA)(c1_0:Nat)(r:List Int)(W F:World)(hown:Own W F [row ki 3 (.slice A1_0 y.length c1_0) y])(g0_4:Rd qA.k F A0_4 c0_4 x.f4)(g0_5:Rd qE.k F A0_5 c0_5 x.f5)(g0_6:Rd qD.k F A0_6 c0_6 x.f6)(H:qBO.f k x y=some r):
    Cr 74 #[.agg #[iv x.f0,iv x.f1,iv x.f2,iv x.f3,.slice A0_4 x.f4.length c0_4,.slice A0_5 x.f5.length c0_5,.slice A0_6 x.f6.length c0_6],.slice A1_0 y.length c1_0] W (qBO.Post x y A0_4 c0_4 A0_5 c0_5 A0_6 c0_6 A1_0 c1_0 W F r):=by
 have S:=St.start hown
 obtain ⟨N,hN⟩:∃ N,N=mine W [row ki 3 (.slice A1_0 y.length c1_0) y]:=⟨_,rfl⟩
 rw [← hN]at S
 unfold qBO.f at H
 refine ent 8 rfl rfl rfl (fun a E=>?_)
 refine sq fun K1 hK1=>pl0 (plx (t:=26) E S [iv x.f0,iv x.f1,iv x.f2,iv x.f3,.slice A0_4 x.f4.length c0_4,.slice A0_5 x.f5.length c0_5,.slice A0_6 x.f6.length c0_6] fun b2 u3 hb2 S a E=>plc E (.r 1 1 .nil) (fun a E=>pld (hK1 _ _ (sq fun K4 hK4=>pl0 (plc E (.r 0 2 .nil) (fun a E=>?_))))))
 obtain ⟨F5,hs,g6,S⟩:=S.giveb
 replace g0_4:=g0_4.mono hs
 replace g0_5:=g0_5.mono hs
 replace g0_6:=g0_6.mono hs
 obtain ⟨t8,h9,H⟩:=bd H
 refine ple E (.cl en125 (qd.calls k y x _ _ _ _ _ _ _ _ _ _ _ _ (Own.left (X:=[row ki 3 (.slice A1_0 y.length c1_0) y]) S.own) g0_4 g0_5 g0_6 g6 h9)) ?_
 rintro _ u7 a ⟨F10,A11,c12,rfl,hC⟩ E
 have hs:=hC.sub
 replace S:=S.called (X:=[row ki 3 (.slice A1_0 y.length c1_0) y]) hC
 replace g0_4:=g0_4.mono hs
 replace g0_5:=g0_5.mono hs
 replace g0_6:=g0_6.mono hs
 replace g6:=hs _ _ _ _ g6
 refine plc E (.r 3 1 .nil) (fun a E=>pld (hK4 _ _ (wp_ret ?_)))
 rw [hN]at S
 obtain rfl:=si H
 exact rt1 E ⟨_,rfl,_,_,_,rfl,S⟩
def qAe.f(k:Nat)(x:qG)(y:Int):Option (List Int):=(qAl.f k x y).bind fun t6=>((qBO.f k x t6).bind fun t14=>(some t14))
def qAe.Post(W F:World)(r:List Int)(v:Value)(w':World):Prop:=∃(F':World)(RA0_0:OA)(rc0_0:Nat),v = .slice RA0_0 r.length rc0_0∧Sm W F w' F' [row ki 3 (.slice RA0_0 r.length rc0_0) r]
theorem qAe.calls(k:Nat)(x:qG)(y:Int)(A0_4:OA)(c0_4:Nat)(A0_5:OA)(c0_5:Nat)(A0_6:OA)(c0_6:Nat)(r:List Int)(W F:World)(hown:Sub F W)(g0_4:Rd qA.k F A0_4 c0_4 x.f4)(g0_5:Rd qE.k F A0_5 c0_5 x.f5)(g0_6:Rd qD.k F A0_6 c0_6 x.f6)(H:qAe.f k x y=some r):
    Cr 24 #[.agg #[iv x.f0,iv x.f1,iv x.f2,iv x.f3,.slice A0_4 x.f4.length c0_4,.slice A0_5 x.f5.length c0_5,.slice A0_6 x.f6.length c0_6],iv y] W (qAe.Post W F r):=by
 have S:=sT hown
 unfold qAe.f at H
 refine ent 10 rfl rfl rfl (fun a E=>?_)
 refine sq fun K1 hK1=>pl0 (plx (t:=26) E S [iv x.f0,iv x.f1,iv x.f2,iv x.f3,.slice A0_4 x.f4.length c0_4,.slice A0_5 x.f5.length c0_5,.slice A0_6 x.f6.length c0_6] fun b2 u3 hb2 S a E=>plc E (.r 1 1 .nil) (fun a E=>pld (hK1 _ _ (sq fun K4 hK4=>?_))))
 refine drawn 6 ⟨[4],[],fun q=>False⟩ mixed rfl (by kernel_rfl) (fun hst=>?_)
 replace S:=S.drew
 have hb2:=S.ba 0
 refine mny 3 hst E (.bn 0 0 7 hb2<|.bn 1 0 7 hb2<|.r 2 1<|.nil) (fun a E=>?_)
 obtain ⟨t6,h7,H⟩:=bd H
 refine on1 3 E (.cl en22 (qAl.calls k x y _ _ _ _ _ _ _ _ _ S.own.sub g0_4 g0_5 g0_6 h7)) ?_
 rintro _ u5 a ⟨F8,A9,c10,rfl,hC⟩ E
 refine ⟨.of hC.agr,?_⟩
 have hs:=hC.sub
 replace S:=S.called (X:=[]) hC
 replace g0_4:=g0_4.mono hs
 replace g0_5:=g0_5.mono hs
 replace g0_6:=g0_6.mono hs
 obtain ⟨t14,h15,H⟩:=bd H
 refine on1 4 E (.cl en74 (qBO.calls k x t6 _ _ _ _ _ _ _ _ _ _ _ (Own.left (X:=[row ki 3 (.slice A9 t6.length c10) t6]) S.own) g0_4 g0_5 g0_6 h15)) ?_
 rintro _ u13 a ⟨F16,A17,c18,rfl,hC⟩ E
 refine ⟨.d,?_⟩
 have hs:=hC.sub
 replace S:=S.called (X:=[row ki 3 (.slice A9 t6.length c10) t6]) hC
 replace g0_4:=g0_4.mono hs
 replace g0_5:=g0_5.mono hs
 replace g0_6:=g0_6.mono hs
 refine mny 0 hst E (.r 5 1 .nil) (fun a E=>?_)
 refine dn ?_
 refine hK4 _ _ (wp_ret ?_)
 replace S:=S.pm [0] 2
 obtain rfl:=si H
 exact rt1 E ⟨_,rfl,_,_,_,rfl,S⟩
def qBP.f(x:qU):Option Bool:=if x.f0=1 then (if x.f5=0 then (some ((x.f6.length:Int) == 0)) else (some false)) else (if x.f0=2 then (if x.f2=0 then (if x.f3=0 then (if x.f5=0 then (some ((x.f6.length:Int) == 0)) else (some false)) else (some false)) else (some false)) else (if x.f0=10 then (if x.f1=0 then (if x.f2=0 then (if x.f3=0 then (some ((x.f6.length:Int) == 0)) else (some false)) else (some false)) else (some false)) else (if x.f0=8 then (if x.f1=0 then (if x.f2=0 then (if x.f3=0 then (some (x.f4 == 0)) else (some false)) else (some false)) else (some false)) else (if x.f2=0 then (if x.f3=0 then (if x.f4=0 then (if x.f5=0 then (if (x.f6.length:Int)=0 then (if x.f0=9 then (some (x.f1 == 0)) else (some true)) else (some false)) else (some false)) else (some false)) else (some false)) else (some false)))))
def qBP.Post(W F:World)(r:Bool)(v:Value)(w':World):Prop:=∃(F':World),v = .bool r∧Sm W F w' F' []
theorem qBP.calls(x:qU)(A0_6:OA)(c0_6:Nat)(r:Bool)(W F:World)(hown:Sub F W)(g0_6:Rd ki F A0_6 c0_6 x.f6)(H:qBP.f x=some r):
    Cr 76 #[.agg #[iv x.f0,iv x.f1,iv x.f2,iv x.f3,iv x.f4,iv x.f5,.slice A0_6 x.f6.length c0_6]] W (qBP.Post W F r):=by
 have S:=sT hown
 unfold qBP.f at H
 refine ent 112 rfl rfl rfl (fun a E=>?_)
 refine sq fun K1 hK1=>pl0 (plx (t:=40) E S [iv x.f0,iv x.f1,iv x.f2,iv x.f3,iv x.f4,iv x.f5,.slice A0_6 x.f6.length c0_6] fun b2 u3 hb2 S a E=>plc E (.r 1 1 .nil) (fun a E=>pld (hK1 _ _ (sq fun K4 hK4=>rg E (.r 0 1<|.b 1 0 hb2<|.nil) fun a E=>(wp_block (rr E fun a E=>(E.ik 5 H (fun c7 E H=>?_) fun c7 E H=>?_)))))))
 refine sq fun K8 hK8=>pl0 (plc E (.r 0 1<|.b 1 5 hb2<|.r 2 2<|.nil) (fun a E=>E.fk 10 H (fun c9 E H=>?_) fun c9 E H=>?_))
 refine plc E (.r 4 1<|.b 5 6 hb2<|.r 6 4<|.nil) (fun a E=>pld (hK8 _ _ (wp_ret (qBa (qBZ ?_)))))
 replace S:=S.tail
 obtain rfl:=si H
 exact rt1 E ⟨_,rfl,_,rfl,S⟩
 refine plc E (.r 4 6 .nil) (fun a E=>pld (hK8 _ _ (wp_ret (qBa (qBZ ?_)))))
 replace S:=S.tail
 obtain rfl:=si H
 exact rt1 E ⟨_,rfl,_,rfl,S⟩
 refine rr E fun a E=>(E.ik 16 H (fun c11 E H=>?_) fun c11 E H=>?_)
 refine sq fun K12 hK12=>pl0 (plc E (.r 0 1<|.b 1 2 hb2<|.r 2 2<|.nil) (fun a E=>E.fk 21 H (fun c13 E H=>?_) fun c13 E H=>?_))
 refine plc E (.r 4 1<|.b 5 3 hb2<|.r 6 3<|.nil) (fun a E=>E.fk 26 H (fun c14 E H=>?_) fun c14 E H=>?_)
 refine plc E (.r 9 1<|.b 10 5 hb2<|.r 11 3<|.nil) (fun a E=>E.fk 31 H (fun c15 E H=>?_) fun c15 E H=>?_)
 refine plc E (.r 14 1<|.b 15 6 hb2<|.r 16 4<|.nil) (fun a E=>pld (hK12 _ _ (wp_ret (qBa (qBZ ?_)))))
 replace S:=S.tail
 obtain rfl:=si H
 exact rt1 E ⟨_,rfl,_,rfl,S⟩
 refine plc E (.r 14 6 .nil) (fun a E=>pld (hK12 _ _ (wp_ret (qBa (qBZ ?_)))))
 replace S:=S.tail
 obtain rfl:=si H
 exact rt1 E ⟨_,rfl,_,rfl,S⟩
 refine plc E (.r 9 11 .nil) (fun a E=>pld (hK12 _ _ (wp_ret (qBa (qBZ ?_)))))
 replace S:=S.tail
 obtain rfl:=si H
 exact rt1 E ⟨_,rfl,_,rfl,S⟩
 refine plc E (.r 4 16 .nil) (fun a E=>pld (hK12 _ _ (wp_ret (qBa (qBZ ?_)))))
 replace S:=S.tail
 obtain rfl:=si H
 exact rt1 E ⟨_,rfl,_,rfl,S⟩
 refine rr E fun a E=>(E.ik 37 H (fun c17 E H=>?_) fun c17 E H=>?_)
 refine sq fun K18 hK18=>pl0 (plc E (.r 0 1<|.b 1 1 hb2<|.r 2 2<|.nil) (fun a E=>E.fk 42 H (fun c19 E H=>?_) fun c19 E H=>?_))
 refine plc E (.r 4 1<|.b 5 2 hb2<|.r 6 3<|.nil) (fun a E=>E.fk 47 H (fun c20 E H=>?_) fun c20 E H=>?_)
 refine plc E (.r 9 1<|.b 10 3 hb2<|.r 11 3<|.nil) (fun a E=>E.fk 52 H (fun c21 E H=>?_) fun c21 E H=>?_)
 refine plc E (.r 14 1<|.b 15 6 hb2<|.r 16 4<|.nil) (fun a E=>pld (hK18 _ _ (wp_ret (qBa (qBZ ?_)))))
 replace S:=S.tail
 obtain rfl:=si H
 exact rt1 E ⟨_,rfl,_,rfl,S⟩
 refine plc E (.r 14 6 .nil) (fun a E=>pld (hK18 _ _ (wp_ret (qBa (qBZ ?_)))))
 replace S:=S.tail
 obtain rfl:=si H
 exact rt1 E ⟨_,rfl,_,rfl,S⟩
 refine plc E (.r 9 11 .nil) (fun a E=>pld (hK18 _ _ (wp_ret (qBa (qBZ ?_)))))
 replace S:=S.tail
 obtain rfl:=si H
 exact rt1 E ⟨_,rfl,_,rfl,S⟩
 refine plc E (.r 4 16 .nil) (fun a E=>pld (hK18 _ _ (wp_ret (qBa (qBZ ?_)))))
 replace S:=S.tail
 obtain rfl:=si H
 exact rt1 E ⟨_,rfl,_,rfl,S⟩
 refine rr E fun a E=>(E.ik 58 H (fun c23 E H=>?_) fun c23 E H=>?_)
 refine sq fun K24 hK24=>pl0 (plc E (.r 0 1<|.b 1 1 hb2<|.r 2 2<|.nil) (fun a E=>E.fk 63 H (fun c25 E H=>?_) fun c25 E H=>?_))
 refine plc E (.r 4 1<|.b 5 2 hb2<|.r 6 3<|.nil) (fun a E=>E.fk 68 H (fun c26 E H=>?_) fun c26 E H=>?_)
 refine plc E (.r 9 1<|.b 10 3 hb2<|.r 11 3<|.nil) (fun a E=>E.fk 73 H (fun c27 E H=>?_) fun c27 E H=>?_)
 refine plc E (.r 14 1<|.b 15 4 hb2<|.r 16 3<|.nil) (fun a E=>pld (hK24 _ _ (wp_ret (qBa (qBZ ?_)))))
 replace S:=S.tail
 obtain rfl:=si H
 exact rt1 E ⟨_,rfl,_,rfl,S⟩
 refine plc E (.r 14 5 .nil) (fun a E=>pld (hK24 _ _ (wp_ret (qBa (qBZ ?_)))))
 replace S:=S.tail
 obtain rfl:=si H
 exact rt1 E ⟨_,rfl,_,rfl,S⟩
 refine plc E (.r 9 10 .nil) (fun a E=>pld (hK24 _ _ (wp_ret (qBa (qBZ ?_)))))
 replace S:=S.tail
 obtain rfl:=si H
 exact rt1 E ⟨_,rfl,_,rfl,S⟩
 refine plc E (.r 4 15 .nil) (fun a E=>pld (hK24 _ _ (wp_ret (qBa (qBZ ?_)))))
 replace S:=S.tail
 obtain rfl:=si H
 exact rt1 E ⟨_,rfl,_,rfl,S⟩
 refine wp_skip ?_
 refine qBb ?_
 refine hK4 _ _ (sq fun K28 hK28=>pl0 (plc E (.r 0 1<|.b 1 2 hb2<|.r 2 2<|.nil) (fun a E=>E.fk 81 H (fun c29 E H=>?_) fun c29 E H=>?_)))
 refine plc E (.r 4 1<|.b 5 3 hb2<|.r 6 3<|.nil) (fun a E=>E.fk 86 H (fun c30 E H=>?_) fun c30 E H=>?_)
 refine plc E (.r 9 1<|.b 10 4 hb2<|.r 11 3<|.nil) (fun a E=>E.fk 91 H (fun c31 E H=>?_) fun c31 E H=>?_)
 refine plc E (.r 14 1<|.b 15 5 hb2<|.r 16 3<|.nil) (fun a E=>E.fk 96 H (fun c32 E H=>?_) fun c32 E H=>?_)
 refine plc E (.r 19 1<|.b 20 6 hb2<|.r 21 4<|.nil) (fun a E=>E.fk 102 H (fun c33 E H=>?_) fun c33 E H=>?_)
 refine plc E (.r 25 1<|.b 26 0 hb2<|.r 27 2<|.nil) (fun a E=>E.fkn 106 H (fun c34 E H=>?_) fun c34 E H=>?_)
 refine plc E (.r 29 1<|.b 30 1 hb2<|.r 31 4<|.nil) (fun a E=>pld (hK28 _ _ (wp_ret ?_)))
 replace S:=S.tail
 obtain rfl:=si H
 exact rt1 E ⟨_,rfl,_,rfl,S⟩
 refine plc E (.r 29 6 .nil) (fun a E=>pld (hK28 _ _ (wp_ret ?_)))
 replace S:=S.tail
 obtain rfl:=si H
 exact rt1 E ⟨_,rfl,_,rfl,S⟩
 refine plc E (.r 25 10 .nil) (fun a E=>pld (hK28 _ _ (wp_ret ?_)))
 replace S:=S.tail
 obtain rfl:=si H
 exact rt1 E ⟨_,rfl,_,rfl,S⟩
 refine plc E (.r 19 16 .nil) (fun a E=>pld (hK28 _ _ (wp_ret ?_)))
 replace S:=S.tail
 obtain rfl:=si H
 exact rt1 E ⟨_,rfl,_,rfl,S⟩
 refine plc E (.r 14 21 .nil) (fun a E=>pld (hK28 _ _ (wp_ret ?_)))
 replace S:=S.tail
 obtain rfl:=si H
 exact rt1 E ⟨_,rfl,_,rfl,S⟩
 refine plc E (.r 9 26 .nil) (fun a E=>pld (hK28 _ _ (wp_ret ?_)))
 replace S:=S.tail
 obtain rfl:=si H
 exact rt1 E ⟨_,rfl,_,rfl,S⟩
 refine plc E (.r 4 31 .nil) (fun a E=>pld (hK28 _ _ (wp_ret ?_)))
 replace S:=S.tail
 obtain rfl:=si H
 exact rt1 E ⟨_,rfl,_,rfl,S⟩
def qAK.f(x:List qA):Option (List qA):=if ((([]:List qA).length:Int)+(x.length:Int)) * 40≤140737488355328 then (some (([]:List qA)++x)) else (none)
def qAK.Post(W F:World)(r:List qA)(v:Value)(w':World):Prop:=∃(F':World)(RA0_0:OA)(rc0_0:Nat),v = .slice RA0_0 r.length rc0_0∧Sm W F w' F' [row qA.k 104 (.slice RA0_0 r.length rc0_0) r]
theorem qAK.calls(x:List qA)(A0_0:OA)(c0_0:Nat)(r:List qA)(W F:World)(hown:Sub F W)(g0_0:Rd qA.k F A0_0 c0_0 x)(H:qAK.f x=some r):
    Cr 128 #[.slice A0_0 x.length c0_0] W (qAK.Post W F r):=by
 have S:=sT hown
 unfold qAK.f at H
 refine ent 8 rfl rfl rfl (fun a E=>?_)
 rcases A0_0 with _ | ad1
 have hnil:=g0_0.none_nil
 replace H:(some [])=some r:=by simpa [hnil] using H
 refine rr E fun a E=>(sq fun K3 hK3=>rr E fun a E=>(ct E (rr E fun a E=>(wp_ret (qBZ ?_)))))
 replace S:=S.nilrow qA.k 104
 obtain rfl:=si H
 exact rt1 E ⟨_,rfl,_,_,_,rfl,S⟩
 refine rr E fun a E=>(sq fun K8 hK8=>rr E fun a E=>(cf E (wp_skip (hK8 _ _ (sq fun K10 hK10=>pl0 (ple E (.lit (d:=qA.k) (e:=104) S ([]:List qA) (.nil)) ?_))))))
 rintro _ u11 a ⟨A12,c13,rfl,S,hg⟩ E
 refine plc E (.r 1 1 .nil) (fun a E=>?_)
 obtain ⟨c15,H⟩:=gd H
 refine ple E (.ap (d:=qA.k) 40 S (g0_0.src S.own.sub) c15 c0_0) ?_
 rintro _ u18 a ⟨A16,c17,rfl,S,hz⟩ E
 refine plc E (.r 3 1 .nil) (fun a E=>pld (hK10 _ _ (wp_ret ?_)))
 obtain rfl:=si H
 exact rt1 E ⟨_,rfl,_,_,_,rfl,S⟩
def qAL.f(x:List qE):Option (List qE):=if ((([]:List qE).length:Int)+(x.length:Int)) * 32≤140737488355328 then (some (([]:List qE)++x)) else (none)
def qAL.Post(W F:World)(r:List qE)(v:Value)(w':World):Prop:=∃(F':World)(RA0_0:OA)(rc0_0:Nat),v = .slice RA0_0 r.length rc0_0∧Sm W F w' F' [row qE.k 97 (.slice RA0_0 r.length rc0_0) r]
theorem qAL.calls(x:List qE)(A0_0:OA)(c0_0:Nat)(r:List qE)(W F:World)(hown:Sub F W)(g0_0:Rd qE.k F A0_0 c0_0 x)(H:qAL.f x=some r):
    Cr 129 #[.slice A0_0 x.length c0_0] W (qAL.Post W F r):=by
 have S:=sT hown
 unfold qAL.f at H
 refine ent 8 rfl rfl rfl (fun a E=>?_)
 rcases A0_0 with _ | ad1
 have hnil:=g0_0.none_nil
 replace H:(some [])=some r:=by simpa [hnil] using H
 refine rr E fun a E=>(sq fun K3 hK3=>rr E fun a E=>(ct E (rr E fun a E=>(wp_ret (qBZ ?_)))))
 replace S:=S.nilrow qE.k 97
 obtain rfl:=si H
 exact rt1 E ⟨_,rfl,_,_,_,rfl,S⟩
 refine rr E fun a E=>(sq fun K8 hK8=>rr E fun a E=>(cf E (wp_skip (hK8 _ _ (sq fun K10 hK10=>pl0 (ple E (.lit (d:=qE.k) (e:=97) S ([]:List qE) (.nil)) ?_))))))
 rintro _ u11 a ⟨A12,c13,rfl,S,hg⟩ E
 refine plc E (.r 1 1 .nil) (fun a E=>?_)
 obtain ⟨c15,H⟩:=gd H
 refine ple E (.ap (d:=qE.k) 32 S (g0_0.src S.own.sub) c15 c0_0) ?_
 rintro _ u18 a ⟨A16,c17,rfl,S,hz⟩ E
 refine plc E (.r 3 1 .nil) (fun a E=>pld (hK10 _ _ (wp_ret ?_)))
 obtain rfl:=si H
 exact rt1 E ⟨_,rfl,_,_,_,rfl,S⟩
def qy.f(x:List qD):Option (List qD):=if ((([]:List qD).length:Int)+(x.length:Int)) * 32≤140737488355328 then (some (([]:List qD)++x)) else (none)
def qy.Post(W F:World)(r:List qD)(v:Value)(w':World):Prop:=∃(F':World)(RA0_0:OA)(rc0_0:Nat),v = .slice RA0_0 r.length rc0_0∧Sm W F w' F' [row qD.k 49 (.slice RA0_0 r.length rc0_0) r]
theorem qy.calls(x:List qD)(A0_0:OA)(c0_0:Nat)(r:List qD)(W F:World)(hown:Sub F W)(g0_0:Rd qD.k F A0_0 c0_0 x)(H:qy.f x=some r):
    Cr 130 #[.slice A0_0 x.length c0_0] W (qy.Post W F r):=by
 have S:=sT hown
 unfold qy.f at H
 refine ent 8 rfl rfl rfl (fun a E=>?_)
 rcases A0_0 with _ | ad1
 have hnil:=g0_0.none_nil
 replace H:(some [])=some r:=by simpa [hnil] using H
 refine rr E fun a E=>(sq fun K3 hK3=>rr E fun a E=>(ct E (rr E fun a E=>(wp_ret (qBZ ?_)))))
 replace S:=S.nilrow qD.k 49
 obtain rfl:=si H
 exact rt1 E ⟨_,rfl,_,_,_,rfl,S⟩
 refine rr E fun a E=>(sq fun K8 hK8=>rr E fun a E=>(cf E (wp_skip (hK8 _ _ (sq fun K10 hK10=>pl0 (ple E (.lit (d:=qD.k) (e:=49) S ([]:List qD) (.nil)) ?_))))))
 rintro _ u11 a ⟨A12,c13,rfl,S,hg⟩ E
 refine plc E (.r 1 1 .nil) (fun a E=>?_)
 obtain ⟨c15,H⟩:=gd H
 refine ple E (.ap (d:=qD.k) 32 S (g0_0.src S.own.sub) c15 c0_0) ?_
 rintro _ u18 a ⟨A16,c17,rfl,S,hz⟩ E
 refine plc E (.r 3 1 .nil) (fun a E=>pld (hK10 _ _ (wp_ret ?_)))
 obtain rfl:=si H
 exact rt1 E ⟨_,rfl,_,_,_,rfl,S⟩
def qAM.f(x:List qF):Option (List qF):=if ((([]:List qF).length:Int)+(x.length:Int)) * 32≤140737488355328 then (some (([]:List qF)++x)) else (none)
def qAM.Post(W F:World)(r:List qF)(v:Value)(w':World):Prop:=∃(F':World)(RA0_0:OA)(rc0_0:Nat),v = .slice RA0_0 r.length rc0_0∧Sm W F w' F' [row qF.k 51 (.slice RA0_0 r.length rc0_0) r]
theorem qAM.calls(x:List qF)(A0_0:OA)(c0_0:Nat)(r:List qF)(W F:World)(hown:Sub F W)(g0_0:Rd qF.k F A0_0 c0_0 x)(H:qAM.f x=some r):
    Cr 175 #[.slice A0_0 x.length c0_0] W (qAM.Post W F r):=by
 have S:=sT hown
 unfold qAM.f at H
 refine ent 8 rfl rfl rfl (fun a E=>?_)
 rcases A0_0 with _ | ad1
 have hnil:=g0_0.none_nil
 replace H:(some [])=some r:=by simpa [hnil] using H
 refine rr E fun a E=>(sq fun K3 hK3=>rr E fun a E=>(ct E (rr E fun a E=>(wp_ret (qBZ ?_)))))
 replace S:=S.nilrow qF.k 51
 obtain rfl:=si H
 exact rt1 E ⟨_,rfl,_,_,_,rfl,S⟩
 refine rr E fun a E=>(sq fun K8 hK8=>rr E fun a E=>(cf E (wp_skip (hK8 _ _ (sq fun K10 hK10=>pl0 (ple E (.lit (d:=qF.k) (e:=51) S ([]:List qF) (.nil)) ?_))))))
 rintro _ u11 a ⟨A12,c13,rfl,S,hg⟩ E
 refine plc E (.r 1 1 .nil) (fun a E=>?_)
 obtain ⟨c15,H⟩:=gd H
 refine ple E (.ap (d:=qF.k) 32 S (g0_0.src S.own.sub) c15 c0_0) ?_
 rintro _ u18 a ⟨A16,c17,rfl,S,hz⟩ E
 refine plc E (.r 3 1 .nil) (fun a E=>pld (hK10 _ _ (wp_ret ?_)))
 obtain rfl:=si H
 exact rt1 E ⟨_,rfl,_,_,_,rfl,S⟩
def qAY.l16:Nat→List qF→List qF→Int→Option (List qF)
 | 0,_,_,_=>none
 | k+1,t4,l13,x14=>if x14<(t4.length:Int) then (if 0≤x14∧x14<(t4.length:Int) then ((qAE.f ((nth qF.z l13 x14).f1)).bind fun t39=>(qAY.l16 k t4 (l13.set (x14).toNat (⟨(nth qF.z l13 x14).f0,t39⟩:qF)) (w64 (x14+1)))) else (none)) else (some l13)
theorem qAY.l16_s k t4 l13 x14:type_of% (qAY.l16.eq_2 t4 l13 x14 k):=qAY.l16.eq_2 t4 l13 x14 k
def qAY.f(k:Nat)(x:List qF):Option (List qF):=(qAM.f x).bind fun t4=>(qAY.l16 k t4 t4 0)
def qAY.Post(W F:World)(r:List qF)(v:Value)(w':World):Prop:=∃(F':World)(RA0_0:OA)(rc0_0:Nat),v = .slice RA0_0 r.length rc0_0∧Sm W F w' F' [row qF.k 51 (.slice RA0_0 r.length rc0_0) r]
theorem qAY.calls(k:Nat)(x:List qF)(A0_0:OA)(c0_0:Nat)(r:List qF)(W F:World)(hown:Sub F W)(g0_0:Rd qF.k F A0_0 c0_0 x)(H:qAY.f k x=some r):
    Cr 131 #[.slice A0_0 x.length c0_0] W (qAY.Post W F r):=by
 have S:=sT hown
 unfold qAY.f at H
 refine ent 23 rfl rfl rfl (fun a E=>?_)
 refine rr E fun a E=>(sq fun K2 hK2=>pl0 (plc E (.r 0 1 .nil) (fun a E=>?_)))
 obtain ⟨t4,h5,H⟩:=bd H
 refine ple E (.cl en175 (qAM.calls x _ _ _ _ _ S.own.sub g0_0 h5)) ?_
 rintro _ u3 a ⟨F6,A7,c8,rfl,hC⟩ E
 have hs:=hC.sub
 replace S:=S.called (X:=[]) hC
 replace g0_0:=g0_0.mono hs
 refine plc E (.r 2 1 .nil) (fun a E=>pld (hK2 _ _ (sq fun K11 hK11=>rr E fun a E=>(wp_block ?_))))
 refine wp_loop_ghost (fun kq17 a w'=>∃(G:NV)(l13:List qF)(x14:Int)(F15:World),kq17≤k∧Env 23 G a∧At G [(0,.slice A7 t4.length c8),(7,.slice A7 t4.length c8),(8,iv (t4.length:Int)),(9,iv x14)]∧Sm W F w' F15 [row qF.k 51 (.slice A7 t4.length c8) l13]∧qAY.l16 kq17 t4 l13 x14=some r) k ⟨_,t4,0,F6,Nat.le_refl _,E,.of,S,H⟩ ?_
 rintro kq17 a u19 ⟨G,l13,x14,F15,hkq,E,A,S,H⟩
 obtain _ | k18:=kq17
 exact zz H
 rw [qAY.l16_s]at H
 obtain ⟨J,E⟩:=E.at A
 refine rr E fun a E=>(sq fun K21 hK21=>E.ik 10 H (fun c22 E H=>?_) fun c22 E H=>?_)
 refine wp_skip (hK21 _ _ (sq fun K23 hK23=>wp_block (sq fun K24 hK24=>pl0 ?_)))
 obtain ⟨c25,H⟩:=gd H
 have hr26:=S.ra 0
 have c27:0≤x14∧x14<(l13.length:Int):=by rw [← (qBd hr26).1]; exact c25
 have hE_:=E
 obtain ⟨b28,rfl⟩:=qBf hr26 c27.1 c27.2
 replace E:=hE_
 have hr_:=S.ra 0
 obtain ⟨cs30,⟨A32,c33,rfl,g34⟩,hc31⟩:=qBe hr_ qF.z x14 c27.1 c27.2
 refine plc E (.r 0 1<|.x 1 c25<|.cs 2 hc31<|.nil) (fun a E=>pla (t:=51) E S [iv 0,.slice none 0 0] fun b35 u36 hb35 S a E=>plc E (.r 4 1 .nil) (fun a E=>pls E S [iv ((nth qF.z l13 x14).f0),.slice A32 (((nth qF.z l13 x14).f1).length) c33] fun u37 hb35 S a E=>pld (hK24 _ _ (pl0 (plc E (.r 0 3<|.b 3 1 hb35<|.nil) (fun a E=>?_))))))
 obtain ⟨t39,h40,H⟩:=bd H
 refine ple E (.cl en112 (qAE.calls ((nth qF.z l13 x14).f1) _ _ _ _ _ S.own.sub g34 h40)) ?_
 rintro _ u38 a ⟨F41,A42,c43,rfl,hC⟩ E
 have hs:=hC.sub
 replace S:=S.called (X:=[]) hC
 replace g34:=g34.mono hs
 have hr46:=S.ra 2
 have c47:0≤x14∧x14<(l13.length:Int):=by rw [← (qBd hr46).1]; exact c25
 have hr_:=S.ra 2
 obtain ⟨cs49,⟨A51,c52,rfl,g53⟩,hc50⟩:=qBe hr_ qF.z x14 c47.1 c47.2
 refine plc E (.x 5 c25<|.r 6 1<|.nil) (fun a E=>?_)
 obtain ⟨F55,hs,g56,S⟩:=S.give
 replace g34:=g34.mono hs
 replace S:=S.front 1 rfl
 obtain ⟨cs60,⟨A57,c58,rfl,g59⟩,hc61⟩:=qBe (S.row_at (i:=0) rfl) qF.z x14 c47.1 c47.2
 refine ple E (.set (d:=qF.k) (n:=t4.length) (i:=x14) (⟨(nth qF.z l13 x14).f0,t39⟩:qF) 1 (ea1 _ _ _) S c47 [iv ((nth qF.z l13 x14).f0),.slice A57 (((nth qF.z l13 x14).f1).length) c58] hc61 [iv ((nth qF.z l13 x14).f0),.slice A42 t39.length c43] ⟨_,_,rfl,g56⟩) ?_
 rintro _ u54 a ⟨rfl,S,hz⟩ E
 refine pld ?_
 refine qBb ?_
 refine hK23 _ _ (pl0 (plc E (.r 0 2 .nil) (fun a E=>pld ?_)))
 replace S:=S.pm [0] 2
 exact qBc ⟨k18,by omega,_,(l13.set (x14).toNat (⟨(nth qF.z l13 x14).f0,t39⟩:qF)),(w64 (x14+1)),F55,by omega,E,.of,S,H⟩
 refine wp_exit ?_
 refine hK11 _ _ (rr E fun a E=>(wp_ret ?_))
 have hn63:=(qBd (S.row_at (i:=0) rfl)).1
 replace E:=E.set (d:=2) (v:=.slice A7 l13.length c8) (Eq.trans (b:=.slice A7 t4.length c8) (by kernel_rfl) (by rw [← hn63]))
 replace S:Sm W F u19 F15 [row qF.k 51 (.slice A7 l13.length c8) l13]:=by rw [← hn63]; exact S
 obtain rfl:=si H
 exact rt1 E ⟨_,rfl,_,_,_,rfl,S⟩
mutual
def qAV.l30:Nat→qG→List qA→List qE→List qE→Int→Option qG
 | 0,_,_,_,_,_=>none
 | k+1,x,t8,t16,l27,x28=>if x28<(t16.length:Int) then (if 0≤x28∧x28<(t16.length:Int) then ((qAE.f ((nth qE.z l27 x28).f1)).bind fun t53=>(qAV.l30 k x t8 t16 (l27.set (x28).toNat (⟨(nth qE.z l27 x28).f0,t53⟩:qE)) (w64 (x28+1)))) else (none)) else ((qy.f x.f6).bind fun t78=>(qAV.l91 k x t8 l27 t78 t78 0))
def qAV.l91:Nat→qG→List qA→List qE→List qD→List qD→Int→Option qG
 | 0,_,_,_,_,_,_=>none
 | k+1,x,t8,l27,t78,l88,x89=>if x89<(t78.length:Int) then (if 0≤x89∧x89<(t78.length:Int) then ((qAY.f k ((nth qD.z l88 x89).f1)).bind fun t114=>(qAV.l91 k x t8 l27 t78 (l88.set (x89).toNat (⟨(nth qD.z l88 x89).f0,t114⟩:qD)) (w64 (x89+1)))) else (none)) else (some (⟨x.f0,x.f1,x.f2,x.f3,t8,l27,l88⟩:qG))
end
theorem qAV.l30_s k x t8 t16 l27 x28:type_of% (qAV.l30.eq_2 x t8 t16 l27 x28 k):=qAV.l30.eq_2 x t8 t16 l27 x28 k
theorem qAV.l91_s k x t8 l27 t78 l88 x89:type_of% (qAV.l91.eq_2 x t8 l27 t78 l88 x89 k):=qAV.l91.eq_2 x t8 l27 t78 l88 x89 k
def qAV.f(k:Nat)(x:qG):Option qG:=(qAK.f x.f4).bind fun t8=>((qAL.f x.f5).bind fun t16=>(qAV.l30 k x t8 t16 t16 0))
def qAV.Post(W F:World)(r:qG)(v:Value)(w':World):Prop:=∃(F':World)(RA0_4:OA)(rc0_4:Nat)(RA0_5:OA)(rc0_5:Nat)(RA0_6:OA)(rc0_6:Nat),v = .agg #[iv r.f0,iv r.f1,iv r.f2,iv r.f3,.slice RA0_4 r.f4.length rc0_4,.slice RA0_5 r.f5.length rc0_5,.slice RA0_6 r.f6.length rc0_6]∧Sm W F w' F' [row qA.k 104 (.slice RA0_4 r.f4.length rc0_4) r.f4,row qE.k 97 (.slice RA0_5 r.f5.length rc0_5) r.f5,row qD.k 49 (.slice RA0_6 r.f6.length rc0_6) r.f6]
theorem qAV.calls(k:Nat)(x:qG)(A0_4:OA)(c0_4:Nat)(A0_5:OA)(c0_5:Nat)(A0_6:OA)(c0_6:Nat)(r:qG)(W F:World)(hown:Sub F W)(g0_4:Rd qA.k F A0_4 c0_4 x.f4)(g0_5:Rd qE.k F A0_5 c0_5 x.f5)(g0_6:Rd qD.k F A0_6 c0_6 x.f6)(H:qAV.f k x=some r):
    Cr 77 #[.agg #[iv x.f0,iv x.f1,iv x.f2,iv x.f3,.slice A0_4 x.f4.length c0_4,.slice A0_5 x.f5.length c0_5,.slice A0_6 x.f6.length c0_6]] W (qAV.Post W F r):=by
 have S:=sT hown
 unfold qAV.f at H
 refine ent 54 rfl rfl rfl (fun a E=>?_)
 refine sq fun K1 hK1=>pl0 (plx (t:=26) E S [iv x.f0,iv x.f1,iv x.f2,iv x.f3,.slice A0_4 x.f4.length c0_4,.slice A0_5 x.f5.length c0_5,.slice A0_6 x.f6.length c0_6] fun b2 u3 hb2 S a E=>pla (t:=26) E S [iv 0,iv 0,iv 0,iv 0,.slice none 0 0,.slice none 0 0,.slice none 0 0] fun b4 u5 hb4 S a E=>pld (hK1 _ _ (sq fun K6 hK6=>?_)))
 refine drawn 10 ⟨[7,9],[],fun q=>False⟩ mixed rfl (by kernel_rfl) (fun hst=>?_)
 replace S:=S.drew
 have hb2:=S.ba 1
 refine mny 6 hst E (.r 0 1<|.b 1 4 hb2<|.r 3 1<|.b 4 5 hb2<|.nil) (fun a E=>?_)
 obtain ⟨t8,h9,H⟩:=bd H
 refine on1 2 E (.cl en128 (qAK.calls x.f4 _ _ _ _ _ S.own.sub g0_4 h9)) ?_
 rintro _ u7 a ⟨F10,A11,c12,rfl,hC⟩ E
 refine ⟨.of hC.agr,?_⟩
 have hs:=hC.sub
 replace S:=S.called (X:=[]) hC
 replace g0_4:=g0_4.mono hs
 replace g0_5:=g0_5.mono hs
 replace g0_6:=g0_6.mono hs
 refine mny 4 hst E (.r 6 1 .nil) (fun a E=>?_)
 obtain ⟨t16,h17,H⟩:=bd H
 refine on1 5 E (.cl en129 (qAL.calls x.f5 _ _ _ _ _ S.own.sub g0_5 h17)) ?_
 rintro _ u15 a ⟨F18,A19,c20,rfl,hC⟩ E
 refine ⟨.of hC.agr,?_⟩
 have hs:=hC.sub
 replace S:=S.called (X:=[]) hC
 replace g0_4:=g0_4.mono hs
 replace g0_5:=g0_5.mono hs
 replace g0_6:=g0_6.mono hs
 replace S:=S.front 3 rfl
 refine on1 7 E (.sto S [iv x.f0,iv x.f1,iv x.f2,iv x.f3,.slice A11 t8.length c12,.slice A0_5 x.f5.length c0_5,.slice A0_6 x.f6.length c0_6]) ?_
 rintro _ u23 a ⟨rfl,hb2,S,hz⟩ E
 refine ⟨.d,?_⟩
 refine mny 1 hst E (.r 8 1 .nil) (fun a E=>?_)
 refine on1 9 E (.sto S [iv x.f0,iv x.f1,iv x.f2,iv x.f3,.slice A11 t8.length c12,.slice A19 t16.length c20,.slice A0_6 x.f6.length c0_6]) ?_
 rintro _ u24 a ⟨rfl,hb2,S,hz⟩ E
 refine ⟨.d,?_⟩
 refine dn ?_
 refine hK6 _ _ (sq fun K25 hK25=>rg E (.r 0 1<|.b 1 5 hb2<|.r 2 2<|.nil) fun a E=>(wp_block ?_))
 replace S:=S.pm [0,3,2,1] 4
 refine wp_loop_ghost (fun kq31 a w'=>∃(G:NV)(l27:List qE)(x28:Int)(F29:World),kq31≤k∧Env 54 G a∧At G [(1,.pointer (pb b2)),(2,.pointer (pb b4)),(16,.slice A19 t16.length c20),(17,iv (t16.length:Int)),(18,iv x28)]∧Sm W F w' F29 [box b2 #[iv x.f0,iv x.f1,iv x.f2,iv x.f3,.slice A11 t8.length c12,.slice A19 t16.length c20,.slice A0_6 x.f6.length c0_6] 26,box b4 #[iv 0,iv 0,iv 0,iv 0,.slice none 0 0,.slice none 0 0,.slice none 0 0] 26,row qA.k 104 (.slice A11 t8.length c12) t8,row qE.k 97 (.slice A19 t16.length c20) l27]∧Rd qD.k F29 A0_6 c0_6 x.f6∧qAV.l30 kq31 x t8 t16 l27 x28=some r) k ⟨_,t16,0,F18,Nat.le_refl _,E,.of,S,g0_6,H⟩ ?_
 rintro kq31 a u33 ⟨G,l27,x28,F29,hkq,E,A,S,g0_6,H⟩
 obtain _ | k32:=kq31
 exact zz H
 rw [qAV.l30_s]at H
 obtain ⟨J,E⟩:=E.at A
 refine rr E fun a E=>(sq fun K35 hK35=>E.ik 19 H (fun c36 E H=>?_) fun c36 E H=>?_)
 refine wp_skip (hK35 _ _ (sq fun K37 hK37=>wp_block (sq fun K38 hK38=>pl0 ?_)))
 obtain ⟨c39,H⟩:=gd H
 have hr40:=S.ra 3
 have c41:0≤x28∧x28<(l27.length:Int):=by rw [← (qBd hr40).1]; exact c39
 have hE_:=E
 obtain ⟨b42,rfl⟩:=qBf hr40 c41.1 c41.2
 replace E:=hE_
 have hr_:=S.ra 3
 obtain ⟨cs44,⟨A46,c47,rfl,g48⟩,hc45⟩:=qBe hr_ qE.z x28 c41.1 c41.2
 refine plc E (.r 0 1<|.x 1 c39<|.cs 2 hc45<|.nil) (fun a E=>pla (t:=97) E S [iv 0,.slice none 0 0] fun b49 u50 hb49 S a E=>plc E (.r 4 1 .nil) (fun a E=>pls E S [iv ((nth qE.z l27 x28).f0),.slice A46 (((nth qE.z l27 x28).f1).length) c47] fun u51 hb49 S a E=>pld (hK38 _ _ ?_)))
 refine drawn 9 ⟨[8],[],fun q=>False⟩ mixed rfl (by kernel_rfl) (fun hst=>?_)
 replace S:=S.drew
 have hb2:=S.ba 1
 have hb49:=S.ba 0
 refine mny 4 hst E (.r 0 1<|.b 1 5 hb2<|.r 2 2<|.b 4 1 hb49<|.nil) (fun a E=>?_)
 obtain ⟨t53,h54,H⟩:=bd H
 refine on1 5 E (.cl en112 (qAE.calls ((nth qE.z l27 x28).f1) _ _ _ _ _ S.own.sub g48 h54)) ?_
 rintro _ u52 a ⟨F55,A56,c57,rfl,hC⟩ E
 refine ⟨.of hC.agr,?_⟩
 have hs:=hC.sub
 replace S:=S.called (X:=[]) hC
 replace g48:=g48.mono hs
 replace g0_6:=g0_6.mono hs
 have hr60:=S.ra 5
 have c61:0≤x28∧x28<(l27.length:Int):=by rw [← (qBd hr60).1]; exact c39
 have hr_:=S.ra 5
 obtain ⟨cs63,⟨A65,c66,rfl,g67⟩,hc64⟩:=qBe hr_ qE.z x28 c61.1 c61.2
 refine mny 1 hst E (.x 6 c39<|.r 7 1<|.nil) (fun a E=>?_)
 obtain ⟨F69,hs,g70,S⟩:=S.give
 replace g48:=g48.mono hs
 replace g0_6:=g0_6.mono hs
 replace S:=S.front 4 rfl
 obtain ⟨cs74,⟨A71,c72,rfl,g73⟩,hc75⟩:=qBe (S.row_at (i:=0) rfl) qE.z x28 c61.1 c61.2
 refine on1 8 E (.set (d:=qE.k) (n:=t16.length) (i:=x28) (⟨(nth qE.z l27 x28).f0,t53⟩:qE) 1 (ea1 _ _ _) S c61 [iv ((nth qE.z l27 x28).f0),.slice A71 (((nth qE.z l27 x28).f1).length) c72] hc75 [iv ((nth qE.z l27 x28).f0),.slice A56 t53.length c57] ⟨_,_,rfl,g70⟩) ?_
 rintro _ u68 a ⟨rfl,S,hz⟩ E
 refine ⟨.d,?_⟩
 refine dn ?_
 refine qBb ?_
 refine hK37 _ _ (pl0 (plc E (.r 0 2 .nil) (fun a E=>pld ?_)))
 replace S:=S.pm [2,3,4,0] 5
 exact qBc ⟨k32,by omega,_,(l27.set (x28).toNat (⟨(nth qE.z l27 x28).f0,t53⟩:qE)),(w64 (x28+1)),F69,by omega,E,.of,S,g0_6,H⟩
 refine wp_exit ?_
 refine hK25 _ _ (sq fun K76 hK76=>pl0 (plc E (.r 0 1<|.b 1 6 (S.ba 0)<|.nil) (fun a E=>?_)))
 obtain ⟨t78,h79,H⟩:=bd H
 refine ple E (.cl en130 (qy.calls x.f6 _ _ _ _ _ S.own.sub g0_6 h79)) ?_
 rintro _ u77 a ⟨F80,A81,c82,rfl,hC⟩ E
 have hs:=hC.sub
 replace S:=S.called (X:=[]) hC
 replace g0_6:=g0_6.mono hs
 refine plc E (.r 3 1 .nil) (fun a E=>?_)
 replace S:=S.front 1 rfl
 refine pls E S [iv x.f0,iv x.f1,iv x.f2,iv x.f3,.slice A11 t8.length c12,.slice A19 t16.length c20,.slice A81 t78.length c82] fun u85 hb2 S a E=>pld (hK76 _ _ (sq fun K86 hK86=>rg E (.r 0 1<|.b 1 6 hb2<|.r 2 2<|.nil) fun a E=>(wp_block ?_)))
 replace S:=S.pm [0,2,3,4,1] 5
 refine wp_loop_ghost (fun kq92 a w'=>∃(G:NV)(l88:List qD)(x89:Int)(F90:World),kq92≤k32∧Env 54 G a∧At G [(1,.pointer (pb b2)),(2,.pointer (pb b4)),(37,.slice A81 t78.length c82),(38,iv (t78.length:Int)),(39,iv x89)]∧Sm W F w' F90 [box b2 #[iv x.f0,iv x.f1,iv x.f2,iv x.f3,.slice A11 t8.length c12,.slice A19 t16.length c20,.slice A81 t78.length c82] 26,box b4 #[iv 0,iv 0,iv 0,iv 0,.slice none 0 0,.slice none 0 0,.slice none 0 0] 26,row qA.k 104 (.slice A11 t8.length c12) t8,row qE.k 97 (.slice A19 t16.length c20) l27,row qD.k 49 (.slice A81 t78.length c82) l88]∧qAV.l91 kq92 x t8 l27 t78 l88 x89=some r) k32 ⟨_,t78,0,F80,Nat.le_refl _,E,.of,S,H⟩ ?_
 rintro kq92 a u94 ⟨G,l88,x89,F90,hkq,E,A,S,H⟩
 obtain _ | k93:=kq92
 exact zz H
 rw [qAV.l91_s]at H
 obtain ⟨J,E⟩:=E.at A
 refine rr E fun a E=>(sq fun K96 hK96=>E.ik 40 H (fun c97 E H=>?_) fun c97 E H=>?_)
 refine wp_skip (hK96 _ _ (sq fun K98 hK98=>wp_block (sq fun K99 hK99=>pl0 ?_)))
 obtain ⟨c100,H⟩:=gd H
 have hr101:=S.ra 4
 have c102:0≤x89∧x89<(l88.length:Int):=by rw [← (qBd hr101).1]; exact c100
 have hE_:=E
 obtain ⟨b103,rfl⟩:=qBf hr101 c102.1 c102.2
 replace E:=hE_
 have hr_:=S.ra 4
 obtain ⟨cs105,⟨A107,c108,rfl,g109⟩,hc106⟩:=qBe hr_ qD.z x89 c102.1 c102.2
 refine plc E (.r 0 1<|.x 1 c100<|.cs 2 hc106<|.nil) (fun a E=>pla (t:=49) E S [iv 0,.slice none 0 0] fun b110 u111 hb110 S a E=>plc E (.r 4 1 .nil) (fun a E=>pls E S [iv ((nth qD.z l88 x89).f0),.slice A107 (((nth qD.z l88 x89).f1).length) c108] fun u112 hb110 S a E=>pld (hK99 _ _ ?_)))
 refine drawn 9 ⟨[8],[],fun q=>False⟩ mixed rfl (by kernel_rfl) (fun hst=>?_)
 replace S:=S.drew
 have hb2:=S.ba 1
 have hb110:=S.ba 0
 refine mny 4 hst E (.r 0 1<|.b 1 6 hb2<|.r 2 2<|.b 4 1 hb110<|.nil) (fun a E=>?_)
 obtain ⟨t114,h115,H⟩:=bd H
 refine on1 5 E (.cl en131 (qAY.calls k93 ((nth qD.z l88 x89).f1) _ _ _ _ _ S.own.sub g109 h115)) ?_
 rintro _ u113 a ⟨F116,A117,c118,rfl,hC⟩ E
 refine ⟨.of hC.agr,?_⟩
 have hs:=hC.sub
 replace S:=S.called (X:=[]) hC
 replace g109:=g109.mono hs
 have hr121:=S.ra 6
 have c122:0≤x89∧x89<(l88.length:Int):=by rw [← (qBd hr121).1]; exact c100
 have hr_:=S.ra 6
 obtain ⟨cs124,⟨A126,c127,rfl,g128⟩,hc125⟩:=qBe hr_ qD.z x89 c122.1 c122.2
 refine mny 1 hst E (.x 6 c100<|.r 7 1<|.nil) (fun a E=>?_)
 obtain ⟨F130,hs,g131,S⟩:=S.give
 replace g109:=g109.mono hs
 replace S:=S.front 5 rfl
 obtain ⟨cs135,⟨A132,c133,rfl,g134⟩,hc136⟩:=qBe (S.row_at (i:=0) rfl) qD.z x89 c122.1 c122.2
 refine on1 8 E (.set (d:=qD.k) (n:=t78.length) (i:=x89) (⟨(nth qD.z l88 x89).f0,t114⟩:qD) 1 (ea1 _ _ _) S c122 [iv ((nth qD.z l88 x89).f0),.slice A132 (((nth qD.z l88 x89).f1).length) c133] hc136 [iv ((nth qD.z l88 x89).f0),.slice A117 t114.length c118] ⟨_,_,rfl,g131⟩) ?_
 rintro _ u129 a ⟨rfl,S,hz⟩ E
 refine ⟨.d,?_⟩
 refine dn ?_
 refine qBb ?_
 refine hK98 _ _ (pl0 (plc E (.r 0 2 .nil) (fun a E=>pld ?_)))
 replace S:=S.pm [2,3,4,5,0] 6
 exact qBc ⟨k93,by omega,_,(l88.set (x89).toNat (⟨(nth qD.z l88 x89).f0,t114⟩:qD)),(w64 (x89+1)),F130,by omega,E,.of,S,H⟩
 refine wp_exit ?_
 refine hK86 _ _ (sq fun K137 hK137=>pl0 (plc E (.bn 0 0 7 (S.ba 0) .nil) (fun a E=>?_)))
 replace S:=S.front 1 rfl
 refine pls E S [iv x.f0,iv x.f1,iv x.f2,iv x.f3,.slice A11 t8.length c12,.slice A19 t16.length c20,.slice A81 t78.length c82] fun u138 hb4 S a E=>pld (hK137 _ _ (wp_ret ?_))
 have hn139:=(qBd (S.row_at (i:=3) rfl)).1
 replace S:Sm W F u138 F90 [box b4 #[iv x.f0,iv x.f1,iv x.f2,iv x.f3,.slice A11 t8.length c12,.slice A19 l27.length c20,.slice A81 t78.length c82] 26,box b2 #[iv x.f0,iv x.f1,iv x.f2,iv x.f3,.slice A11 t8.length c12,.slice A19 l27.length c20,.slice A81 t78.length c82] 26,row qA.k 104 (.slice A11 t8.length c12) t8,row qE.k 97 (.slice A19 l27.length c20) l27,row qD.k 49 (.slice A81 t78.length c82) l88]:=by rw [← hn139]; exact S
 have hn140:=(qBd (S.row_at (i:=4) rfl)).1
 replace S:Sm W F u138 F90 [box b4 #[iv x.f0,iv x.f1,iv x.f2,iv x.f3,.slice A11 t8.length c12,.slice A19 l27.length c20,.slice A81 l88.length c82] 26,box b2 #[iv x.f0,iv x.f1,iv x.f2,iv x.f3,.slice A11 t8.length c12,.slice A19 l27.length c20,.slice A81 l88.length c82] 26,row qA.k 104 (.slice A11 t8.length c12) t8,row qE.k 97 (.slice A19 l27.length c20) l27,row qD.k 49 (.slice A81 l88.length c82) l88]:=by rw [← hn140]; exact S
 have hb4:=S.ba 0
 replace S:=S.pm [] 2
 obtain rfl:=si H
 exact ret1 E rfl (.cell (by kernel_rfl) (qFI [iv x.f0,iv x.f1,iv x.f2,iv x.f3,.slice A11 t8.length c12,.slice A19 l27.length c20,.slice A81 l88.length c82] ag26 sz26 hb4 rfl) .nil) ⟨_,rfl,_,_,_,_,_,_,_,rfl,S⟩
def qBI.f(x:qA)(y:Int):Option Int:=(qAU.f x.f0 y).bind fun t6=>(some t6)
def qBI.Post(W F:World)(r:Int)(v:Value)(w':World):Prop:=∃(F':World),v=iv r∧Sm W F w' F' []
theorem qBI.calls(x:qA)(y:Int)(r:Int)(W F:World)(hown:Sub F W)(H:qBI.f x y=some r):
    Cr 179 #[.agg #[iv x.f0,iv x.f1,iv x.f2,iv x.f3,.bool x.f4,.bool x.f5],iv y] W (qBI.Post W F r):=by
 have S:=sT hown
 unfold qBI.f at H
 refine ent 9 rfl rfl rfl (fun a E=>?_)
 refine sq fun K1 hK1=>pl0 (plx (t:=104) E S [iv x.f0,iv x.f1,iv x.f2,iv x.f3,.bool x.f4,.bool x.f5] fun b2 u3 hb2 S a E=>plc E (.r 1 1 .nil) (fun a E=>pld (hK1 _ _ (sq fun K4 hK4=>pl0 (plc E (.r 0 1<|.b 1 0 hb2<|.r 2 1<|.nil) (fun a E=>?_))))))
 obtain ⟨t6,h7,H⟩:=bd H
 refine plq E S en161 (qAU.calls x.f0 y _ _ _ S.own.sub h7) fun u5 S a E=>plc E (.r 4 1 .nil) (fun a E=>pld (hK4 _ _ (wp_ret ?_)))
 replace S:=S.tail
 obtain rfl:=si H
 exact rt1 E ⟨_,rfl,_,rfl,S⟩
def qO.l7:Nat→List qA→Int→Int→Int→Option (Int × Bool)
 | 0,_,_,_,_=>none
 | k+1,x,y,x5,x6=>if x5<x6 then (if 0≤(w64 ((IntKind.u64.wrap (w64 (x5+x6))).fdiv 2))∧(w64 ((IntKind.u64.wrap (w64 (x5+x6))).fdiv 2))<(x.length:Int) then ((qBI.f (nth qA.z x (w64 ((IntKind.u64.wrap (w64 (x5+x6))).fdiv 2))) y).bind fun t22=>(if t22<0 then (qO.l7 k x y (w64 ((w64 ((IntKind.u64.wrap (w64 (x5+x6))).fdiv 2))+1)) x6) else (qO.l7 k x y x5 (w64 ((IntKind.u64.wrap (w64 (x5+x6))).fdiv 2))))) else (none)) else (if x5<(x.length:Int) then (if 0≤x5∧x5<(x.length:Int) then ((qBI.f (nth qA.z x x5) y).bind fun t33=>(some (x5,(t33 == 0)))) else (none)) else (some (x5,false)))
theorem qO.l7_s k x y x5 x6:type_of% (qO.l7.eq_2 x y x5 x6 k):=qO.l7.eq_2 x y x5 x6 k
def qO.f(k:Nat)(x:List qA)(y:Int):Option (Int × Bool):=qO.l7 k x y 0 (x.length:Int)
def qO.Post(W F:World)(r:Int × Bool)(v:Value)(w':World):Prop:=∃(F':World),v = .tuple #[iv r.1,.bool r.2]∧Sm W F w' F' []
theorem qO.calls(k:Nat)(x:List qA)(y:Int)(A0_0:OA)(c0_0:Nat)(r:Int × Bool)(W F:World)(hown:Sub F W)(g0_0:Rd qA.k F A0_0 c0_0 x)(H:qO.f k x y=some r):
    Cr 173 #[.slice A0_0 x.length c0_0,iv y,.func (.func 179) #[] #[]] W (qO.Post W F r):=by
 have S:=sT hown
 unfold qO.f at H
 refine ent 49 rfl rfl rfl (fun a E=>?_)
 refine rr E fun a E=>(rr E fun a E=>(rr E fun a E=>(sq fun K4 hK4=>wp_block ?_)))
 refine wp_loop_ghost (fun kq8 a w'=>∃(G:NV)(x5:Int)(x6:Int),kq8≤k∧Env 49 G a∧At G [(0,.slice A0_0 x.length c0_0),(1,iv y),(2,.func (.func 179) #[] #[]),(8,iv (x.length:Int)),(9,iv x5),(10,iv x6)]∧Sm W F w' F []∧qO.l7 kq8 x y x5 x6=some r) k ⟨_,0,(x.length:Int),Nat.le_refl _,E,.of,S,H⟩ ?_
 rintro kq8 a u10 ⟨G,x5,x6,hkq,E,A,S,H⟩
 obtain _ | k9:=kq8
 exact zz H
 rw [qO.l7_s]at H
 obtain ⟨J,E⟩:=E.at A
 refine sq fun K11 hK11=>rr E fun a E=>(E.ik 17 H (fun c13 E H=>?_) fun c13 E H=>?_)
 refine wp_skip (hK11 _ _ (wp_block (rr E fun a E=>(sq fun K15 hK15=>pl0 ?_))))
 obtain ⟨c16,H⟩:=gd H
 have hE_:=E
 obtain ⟨ad17,rfl⟩:=g0_0.addr c16.1 c16.2
 replace E:=hE_
 obtain ⟨cs19,rfl,hc20⟩:=g0_0.el qA.z (w64 ((IntKind.u64.wrap (w64 (x5+x6))).fdiv 2)) c16.1 c16.2
 refine plc E (.r 0 3<|.x 3 c16<|.cs 4 (S.fcs hc20)<|.r 5 1<|.nil) (fun a E=>?_)
 obtain ⟨t22,h23,H⟩:=bd H
 refine plq E S en179 (qBI.calls (nth qA.z x (w64 ((IntKind.u64.wrap (w64 (x5+x6))).fdiv 2))) y _ _ _ S.own.sub h23) fun u21 S a E=>plc E (.r 7 1 .nil) (fun a E=>pld (hK15 _ _ (E.ik 31 H (fun c24 E H=>?_) fun c24 E H=>?_)))
 refine pl0 (plc E (.r 0 3 .nil) (fun a E=>pld ?_))
 refine qBb ?_
 exact qBc ⟨k9,by omega,_,(w64 ((w64 ((IntKind.u64.wrap (w64 (x5+x6))).fdiv 2))+1)),x6,by omega,E,.of,S,H⟩
 refine pl0 (plc E (.r 0 2 .nil) (fun a E=>pld ?_))
 refine qBb ?_
 exact qBc ⟨k9,by omega,_,x5,(w64 ((IntKind.u64.wrap (w64 (x5+x6))).fdiv 2)),by omega,E,.of,S,H⟩
 refine wp_exit ?_
 refine hK4 _ _ (sq fun K25 hK25=>pl0 (plc E (.r 0 5 .nil) (fun a E=>E.fk 39 H (fun c26 E H=>?_) fun c26 E H=>?_)))
 obtain ⟨c27,H⟩:=gd H
 have hE_:=E
 obtain ⟨ad28,rfl⟩:=g0_0.addr c27.1 c27.2
 replace E:=hE_
 obtain ⟨cs30,rfl,hc31⟩:=g0_0.el qA.z x5 c27.1 c27.2
 refine plc E (.r 5 3<|.x 8 c27<|.cs 9 (S.fcs hc31)<|.r 10 1<|.nil) (fun a E=>?_)
 obtain ⟨t33,h34,H⟩:=bd H
 refine plq E S en179 (qBI.calls (nth qA.z x x5) y _ _ _ S.own.sub h34) fun u32 S a E=>plc E (.r 12 4 .nil) (fun a E=>pld (hK25 _ _ (wp_ret ?_)))
 obtain rfl:=si H
 exact rtN E ⟨_,rfl,_,rfl,S⟩
 refine plc E (.r 5 11 .nil) (fun a E=>pld (hK25 _ _ (wp_ret ?_)))
 obtain rfl:=si H
 exact rtN E ⟨_,rfl,_,rfl,S⟩
def qBT.f(k:Nat)(x:qG)(y:Int):Option (Int × Bool):=(qO.f k x.f4 y).bind fun t6=>(some (t6.1,t6.2))
def qBT.Post(W F:World)(r:Int × Bool)(v:Value)(w':World):Prop:=∃(F':World),v = .tuple #[iv r.1,.bool r.2]∧Sm W F w' F' []
theorem qBT.calls(k:Nat)(x:qG)(y:Int)(A0_4:OA)(c0_4:Nat)(A0_5:OA)(c0_5:Nat)(A0_6:OA)(c0_6:Nat)(r:Int × Bool)(W F:World)(hown:Sub F W)(g0_4:Rd qA.k F A0_4 c0_4 x.f4)(g0_5:Rd qE.k F A0_5 c0_5 x.f5)(g0_6:Rd qD.k F A0_6 c0_6 x.f6)(H:qBT.f k x y=some r):
    Cr 135 #[.agg #[iv x.f0,iv x.f1,iv x.f2,iv x.f3,.slice A0_4 x.f4.length c0_4,.slice A0_5 x.f5.length c0_5,.slice A0_6 x.f6.length c0_6],iv y] W (qBT.Post W F r):=by
 have S:=sT hown
 unfold qBT.f at H
 refine ent 12 rfl rfl rfl (fun a E=>?_)
 refine sq fun K1 hK1=>pl0 (plx (t:=26) E S [iv x.f0,iv x.f1,iv x.f2,iv x.f3,.slice A0_4 x.f4.length c0_4,.slice A0_5 x.f5.length c0_5,.slice A0_6 x.f6.length c0_6] fun b2 u3 hb2 S a E=>plc E (.r 1 2 .nil) (fun a E=>pld (hK1 _ _ (sq fun K4 hK4=>pl0 (plc E (.r 0 1<|.b 1 4 hb2<|.r 2 1<|.nil) (fun a E=>?_))))))
 obtain ⟨t6,h7,H⟩:=bd H
 refine plq E S en173 (qO.calls k x.f4 y _ _ _ _ _ S.own.sub g0_4 h7) fun u5 S a E=>plc E (.r 4 4 .nil) (fun a E=>pld (hK4 _ _ (wp_ret ?_)))
 replace S:=S.tail
 obtain rfl:=si H
 exact rtN E ⟨_,rfl,_,rfl,S⟩
end Go.Proofs.YtpohepinmjmbkaaGreat.MX
