import Derived.Test.YthgfhlbjkmjlpaaGreatGD7
namespace Go.Proofs.YthgfhlbjkmjlpaaGreat.GD
open Go Go.RowKit Go.Proofs.YthgfhlbjkmjlpaaGreat.Sl
set_option linter.unusedVariables false
set_option linter.unusedSimpArgs false
set_option maxHeartbeats 4000000
set_option maxRecDepth 100000
mutual
def qH.j48:Nat->qD->qF->Bool->Option (qD × Int)
 | 0,_,_,_=>none
 | k+1,x,y,y47=>if y47=true then (some (x,1)) else (if 0<=y.f5/\y.f5<(x.f6.length:Int) then (if (nth qC.z x.f6 y.f5).f0=y.f4 then (if (((nth qC.z x.f6 y.f5).f1).length:Int)=0 then (some (x,7)) else (if ((([]:List qC).length:Int)+(x.f6.length:Int)) * 32<=140737488355328 then (if 0<=y.f5/\y.f5<((([]:List qC)++x.f6).length:Int) then (some ((⟨x.f0,x.f1,x.f2,x.f3,x.f4,x.f5,((([]:List qC)++x.f6).set (y.f5).toNat (⟨(nth qC.z x.f6 y.f5).f0,[]⟩:qC))⟩:qD),0)) else (none)) else (none))) else (some (x,5))) else (none))
def qH.j161:Nat->qD->qF->qA × Bool->Bool->Option (qD × Int)
 | 0,_,_,_,_=>none
 | k+1,x,y,t10,y160=>if y160=true then (some (x,1)) else (qH.j296 k x t10 false y.f4 t10.1.f4 t10.1.f5)
def qH.l187:Nat->qD->qA × Bool->Bool->Int->Option (qD × Int)
 | 0,_,_,_,_=>none
 | k+1,x,t10,y184,x185=>if x185<x.f3 then ((qAL.f k x x185).bind fun t197=>(qH.l207 k x t10 x185 t197 y184 0)) else (if y184=true then (qH.j283 k x t10 true) else (if t10.1.f4=true then (qH.j283 k x t10 true) else (if t10.1.f5=true then (qH.j283 k x t10 (decide (t10.1.f3>0))) else (qH.j283 k x t10 false))))
def qH.l207:Nat->qD->qA × Bool->Int->List Int->Bool->Int->Option (qD × Int)
 | 0,_,_,_,_,_,_=>none
 | k+1,x,t10,x185,t197,y205,x206=>if x206<(t197.length:Int) then (if y205=true then (qH.l207 k x t10 x185 t197 true (w64 (x206+1))) else (if 0<=x206/\x206<(t197.length:Int) then (qH.l207 k x t10 x185 t197 ((nth 0 t197 x206) == t10.1.f0) (w64 (x206+1))) else (none))) else (qH.l224 k x t10 x185 y205 0)
def qH.l224:Nat->qD->qA × Bool->Int->Bool->Int->Option (qD × Int)
 | 0,_,_,_,_,_=>none
 | k+1,x,t10,x185,y222,x223=>if 0<=x185/\x185<(x.f6.length:Int) then (if x223<(((nth qC.z x.f6 x185).f1).length:Int) then (qH.l243 k x t10 x185 x223 y222 0) else (qH.l187 k x t10 y222 (w64 (x185+1)))) else (none)
def qH.l243:Nat->qD->qA × Bool->Int->Int->Bool->Int->Option (qD × Int)
 | 0,_,_,_,_,_,_=>none
 | k+1,x,t10,x185,x223,y241,x242=>if 0<=x223/\x223<(((nth qC.z x.f6 x185).f1).length:Int) then (if x242<(((nth qG.z ((nth qC.z x.f6 x185).f1) x223).f1).length:Int) then (if y241=true then (qH.l243 k x t10 x185 x223 true (w64 (x242+1))) else (if 0<=x242/\x242<(((nth qG.z ((nth qC.z x.f6 x185).f1) x223).f1).length:Int) then (qH.l243 k x t10 x185 x223 ((nth 0 ((nth qG.z ((nth qC.z x.f6 x185).f1) x223).f1) x242) == t10.1.f0) (w64 (x242+1))) else (none))) else (qH.l224 k x t10 x185 y241 (w64 (x223+1)))) else (none)
def qH.j283:Nat->qD->qA × Bool->Bool->Option (qD × Int)
 | 0,_,_,_=>none
 | k+1,x,t10,y282=>if y282=true then (some (x,11)) else (qH.j296 k x t10 true t10.1.f3 t10.1.f4 t10.1.f5)
def qH.j296:Nat->qD->qA × Bool->Bool->Int->Bool->Bool->Option (qD × Int)
 | 0,_,_,_,_,_,_=>none
 | k+1,x,t10,y291,x292,y293,y294=>if y291=true then (qH.j306 k x t10 x292 y293 y294 true false) else (qH.j306 k x t10 x292 y293 y294 false (decide ((⟨t10.1.f0,t10.1.f1,t10.1.f2,x292,y293,y294⟩:qA)=t10.1)))
def qH.j306:Nat->qD->qA × Bool->Int->Bool->Bool->Bool->Bool->Option (qD × Int)
 | 0,_,_,_,_,_,_,_=>none
 | k+1,x,t10,x292,y293,y294,y304,y305=>if y305=true then (some (x,7)) else ((qk.f k x.f4 (⟨t10.1.f0,t10.1.f1,t10.1.f2,x292,y293,y294⟩:qA) y304).bind fun t316=>(some ((⟨x.f0,x.f1,x.f2,x.f3,t316,x.f5,x.f6⟩:qD),0)))
end
theorem qH.j48_s k x y y47:type_of% (qH.j48.eq_2 x y y47 k):=qH.j48.eq_2 x y y47 k
theorem qH.j161_s k x y t10 y160:type_of% (qH.j161.eq_2 x y t10 y160 k):=qH.j161.eq_2 x y t10 y160 k
theorem qH.l187_s k x t10 y184 x185:type_of% (qH.l187.eq_2 x t10 y184 x185 k):=qH.l187.eq_2 x t10 y184 x185 k
theorem qH.l207_s k x t10 x185 t197 y205 x206:type_of% (qH.l207.eq_2 x t10 x185 t197 y205 x206 k):=qH.l207.eq_2 x t10 x185 t197 y205 x206 k
theorem qH.l224_s k x t10 x185 y222 x223:type_of% (qH.l224.eq_2 x t10 x185 y222 x223 k):=qH.l224.eq_2 x t10 x185 y222 x223 k
theorem qH.l243_s k x t10 x185 x223 y241 x242:type_of% (qH.l243.eq_2 x t10 x185 x223 y241 x242 k):=qH.l243.eq_2 x t10 x185 x223 y241 x242 k
theorem qH.j283_s k x t10 y282:type_of% (qH.j283.eq_2 x t10 y282 k):=qH.j283.eq_2 x t10 y282 k
theorem qH.j296_s k x t10 y291 x292 y293 y294:type_of% (qH.j296.eq_2 x t10 y291 x292 y293 y294 k):=qH.j296.eq_2 x t10 y291 x292 y293 y294 k
theorem qH.j306_s k x t10 x292 y293 y294 y304 y305:type_of% (qH.j306.eq_2 x t10 x292 y293 y294 y304 y305 k):=qH.j306.eq_2 x t10 x292 y293 y294 y304 y305 k
def qH.f(k:Nat)(x:qD)(y:qF):Option (qD × Int):=(qAH.f k x.f4 y.f1).bind fun t10=>(if y.f0=9 then (some (x,0)) else (if y.f0=8 then ((qo.f k x y).bind fun t29=>(some (t29.1,t29.2))) else (if y.f0=10 then (if y.f5<0 then (qH.j48 k x y true) else (qH.j48 k x y (decide (y.f5>=x.f3)))) else (if y.f0=1 then (if t10.2=true then (some (x,7)) else (if (x.f4.length:Int)=12 then (some (x,6)) else ((qk.f k x.f4 (⟨y.f1,y.f2,y.f3,y.f4,false,true⟩:qA) false).bind fun t127=>((qn.f k t127).bind fun t138=>(if t138=true then (some ((⟨x.f0,x.f1,x.f2,x.f3,t127,x.f5,x.f6⟩:qD),0)) else (some (x,1))))))) else (if t10.2=true then (if y.f0=2 then (if y.f4<0 then (qH.j161 k x y t10 true) else (qH.j161 k x y t10 (decide (y.f4>65536)))) else (if y.f0=3 then (qH.j296 k x t10 false t10.1.f3 true t10.1.f5) else (if y.f0=4 then (qH.j296 k x t10 false t10.1.f3 false t10.1.f5) else (if y.f0=5 then (qH.j296 k x t10 false t10.1.f3 t10.1.f4 false) else (if y.f0=6 then (qH.j296 k x t10 false t10.1.f3 t10.1.f4 true) else (qH.l187 k x t10 false 0)))))) else (some (x,5)))))))
def qH.Post(W F:World)(r:qD × Int)(v:Value)(w':World):Prop:=∃(F':World)(RA0_4:OA)(rc0_4:Nat)(RA0_5:OA)(rc0_5:Nat)(RA0_6:OA)(rc0_6:Nat),v = .tuple #[.agg (mA r.1 RA0_4 rc0_4 RA0_5 rc0_5 RA0_6 rc0_6),iv r.2]/\Sm W F w' F' []/\Rd qA.k F' RA0_4 rc0_4 r.1.f4/\Rd qE.k F' RA0_5 rc0_5 r.1.f5/\Rd qC.k F' RA0_6 rc0_6 r.1.f6
theorem qH.calls(k:Nat)(x:qD)(y:qF)(A0_4:OA)(c0_4:Nat)(A0_5:OA)(c0_5:Nat)(A0_6:OA)(c0_6:Nat)(A1_6:OA)(c1_6:Nat)(r:qD × Int)(W F:World)(hown:Sub F W)(g0_4:Rd qA.k F A0_4 c0_4 x.f4)(g0_5:Rd qE.k F A0_5 c0_5 x.f5)(g0_6:Rd qC.k F A0_6 c0_6 x.f6)(g1_6:Rd ki F A1_6 c1_6 y.f6)(H:qH.f k x y=some r):
    Cr 47 #[.agg (mA x A0_4 c0_4 A0_5 c0_5 A0_6 c0_6),.agg (dA y A1_6 c1_6)] W (qH.Post W F r):=by
 have S:=sT hown
 unfold qH.f at H
 refine ent 242 rfl rfl rfl fun a E=>?_
 refine sq fun K1 hK1=>pl0 (plx (t:=26) E S (mL x A0_4 c0_4 A0_5 c0_5 A0_6 c0_6) fun b2 u3 hb2 S a E=>plx (t:=29) E S (dL y A1_6 c1_6) fun b4 u5 hb4 S a E=>pla (t:=26) E S [iv 0,iv 0,iv 0,iv 0,.slice none 0 0,.slice none 0 0,.slice none 0 0] fun b6 u7 hb6 S a E=>plc E (.r 3 1 .nil) fun a E=>pld (hK1 _ _ (sq fun K8 hK8=>pl0 ?_)))
 have hb2:=S.ba 2
 refine plc E (.r 0 1<|.b 1 4 hb2<|.r 2 1<|.b 3 1 (S.ba 1)<|.nil) fun a E=>?_
 obtain ⟨t10,h11,H⟩:=bd H
 refine plq E S en49 (qAH.calls k x.f4 y.f1 _ _ _ _ _ S.own.sub g0_4 h11) fun u9 S a E=>plc E (.r 5 3 .nil) fun a E=>pla (t:=68) E S [iv 0,iv 0,iv 0,iv 0,.bool false,.bool false] fun b12 u13 hb12 S a E=>pls E S (nL t10.1) fun u14 hb12 S a E=>plc E (.r 10 1 .nil) fun a E=>pld (hK8 _ _ (sq fun K15 hK15=>pl0 (plc E (.bn 0 0 6 hb12 .nil) fun a E=>pla (t:=68) E S [iv 0,iv 0,iv 0,iv 0,.bool false,.bool false] fun b16 u17 hb16 S a E=>pls E S (nL t10.1) fun u18 hb16 S a E=>pld (hK15 _ _ (sq fun K19 hK19=>sq fun K20 hK20=>pl0 ?_)))))
 have hb4:=S.ba 3
 refine plc E (.r 0 1<|.b 1 0 hb4<|.nil) fun a E=>pld (hK20 _ _ (wp_block (rr E fun a E=>(E.ik 28 H (fun c22 E H=>?_) fun c22 E H=>?_))))
 refine sq fun K23 hK23=>pl0 (plc E (.bn 0 0 7 (S.ba 4) .nil) fun a E=>?_)
 have S:=S.front 2 rfl
 refine pls E S (mL x A0_4 c0_4 A0_5 c0_5 A0_6 c0_6) fun u24 hb6 S a E=>plc E (.r 2 1 .nil) fun a E=>pld (hK23 _ _ (wp_ret (qCd (qCc ?_))))
 have S:=S.pm [] 5
 obtain rfl:=si H
 exact rtm E (.b hb6 ag26 sz26 (.t .nil)) ⟨_,rfl,_,_,_,_,_,_,_,rfl,S,g0_4,g0_5,g0_6⟩
 refine rr E fun a E=>(E.ik 31 H (fun c26 E H=>?_) fun c26 E H=>?_)
 refine sq fun K27 hK27=>pl0 (plc E (.bn 0 0 7 (S.ba 4)<|.bn 1 0 7 hb4<|.nil) fun a E=>?_)
 obtain ⟨t29,h30,H⟩:=bd H
 refine ple E (.cl en76 (qo.calls k x y _ _ _ _ _ _ _ _ _ _ _ S.own.sub g0_4 g0_5 g0_6 g1_6 h30)) ?_
 rintro _ u28 a ⟨F31,A32,c33,A35,c36,A38,c39,rfl,hC,g34,g37,g40⟩ E
 have hs:=hC.sub
 have S:=S.called (X:=[]) hC
 have g0_4:=g0_4.mono hs
 have g0_5:=g0_5.mono hs
 have g0_6:=g0_6.mono hs
 have g1_6:=g1_6.mono hs
 refine plc E (.r 3 2 .nil) fun a E=>?_
 have S:=S.front 2 rfl
 refine pls E S (mL t29.1 A32 c33 A35 c36 A38 c39) fun u41 hb6 S a E=>plc E (.r 6 1 .nil) fun a E=>pld (hK27 _ _ (wp_ret (qCd (qCc ?_))))
 have S:=S.pm [] 5
 obtain rfl:=si H
 exact rtm E (.b hb6 ag26 sz26 (.t .nil)) ⟨_,rfl,_,_,_,_,_,_,_,rfl,S,g34,g37,g40⟩
 refine rr E fun a E=>(E.ik 38 H (fun c43 E H=>?_) fun c43 E H=>?_)
 refine sq fun K44 hK44=>sq fun K45 hK45=>?_
 have J51:∀ kq49,kq49<=k->∀(G:NV)(y47:Bool)(a:Act)(w':World),Env 242 G a->At G [(2,.pointer (pb b2)),(3,.pointer (pb b4)),(4,.pointer (pb b6)),(49,.bool y47)]->Sm W F w' F [box b16 (nA t10.1) 68,box b12 (nA t10.1) 68,box b6 #[iv 0,iv 0,iv 0,iv 0,.slice none 0 0,.slice none 0 0,.slice none 0 0] 26,box b4 (dA y A1_6 c1_6) 29,box b2 (mA x A0_4 c0_4 A0_5 c0_5 A0_6 c0_6) 26]->qH.j48 kq49 x y y47=some r->K45 a w':=by
  intro kq49 hkq G y47 a u52 E A S H
  obtain _ | k50:=kq49
  exact zz H
  rw [qH.j48_s]at H
  obtain ⟨J,E⟩:=E.at A
  refine hK45 _ _ (E.ib 49 H (fun c53 E H=>?_) fun c53 E H=>?_)
  refine sq fun K54 hK54=>pl0 (plc E (.bn 0 0 7 (S.ba 4) .nil) fun a E=>?_)
  have S:=S.front 2 rfl
  refine pls E S (mL x A0_4 c0_4 A0_5 c0_5 A0_6 c0_6) fun u55 hb6 S a E=>plc E (.r 2 1 .nil) fun a E=>pld (hK54 _ _ (wp_ret (qCc (qCd (qCc ?_)))))
  have S:=S.pm [] 5
  obtain rfl:=si H
  exact rtm E (.b hb6 ag26 sz26 (.t .nil)) ⟨_,rfl,_,_,_,_,_,_,_,rfl,S,g0_4,g0_5,g0_6⟩
  refine wp_skip (hK44 _ _ (sq fun K56 hK56=>pl0 ?_))
  have hb2:=S.ba 4
  have hb4:=S.ba 3
  obtain ⟨c57,H⟩:=gd H
  have hE_:=E
  obtain ⟨ad58,rfl⟩:=g0_6.addr c57.1 c57.2
  replace E:=hE_
  obtain ⟨cs60,⟨A62,c63,rfl,g64⟩,hc61⟩:=g0_6.el qC.z y.f5 c57.1 c57.2
  refine plc E (.r 0 1<|.b 1 6 hb2<|.r 2 1<|.b 3 5 hb4<|.x 4 c57<|.cs 5 (S.fcs hc61)<|.nil) fun a E=>pla (t:=73) E S [iv 0,.slice none 0 0] fun b65 u66 hb65 S a E=>pls E S [iv ((nth qC.z x.f6 y.f5).f0),.slice A62 (((nth qC.z x.f6 y.f5).f1).length) c63] fun u67 hb65 S a E=>pld (hK56 _ _ (sq fun K68 hK68=>sq fun K69 hK69=>pl0 ?_))
  have hb4:=S.ba 4
  refine plc E (.r 0 1<|.b 1 0 hb65<|.r 2 1<|.b 3 4 hb4<|.r 4 1<|.nil) fun a E=>pld (hK69 _ _ (E.ikn 61 H (fun c70 E H=>?_) fun c70 E H=>?_))
  refine wp_skip (hK68 _ _ (sq fun K73 hK73=>rg E (.r 0 1<|.b 1 1 hb65<|.r 2 2<|.nil) fun a E=>(E.ik 66 H (fun c75 E H=>?_) fun c75 E H=>?_)))
  refine sq fun K76 hK76=>pl0 (plc E (.bn 0 0 7 (S.ba 5) .nil) fun a E=>?_)
  have S:=S.front 3 rfl
  refine pls E S [iv x.f0,iv x.f1,iv x.f2,iv x.f3,.slice A0_4 x.f4.length c0_4,.slice A0_5 x.f5.length c0_5,.slice (some ad58) x.f6.length c0_6] fun u77 hb6 S a E=>plc E (.r 2 1 .nil) fun a E=>pld (hK76 _ _ (wp_ret (qCc (qCd (qCc ?_)))))
  have S:=S.pm [] 6
  obtain rfl:=si H
  exact rtm E (.b hb6 ag26 sz26 (.t .nil)) ⟨_,rfl,_,_,_,_,_,_,_,rfl,S,g0_4,g0_5,g0_6⟩
  refine wp_skip (hK73 _ _ (sq fun K78 hK78=>pl0 (ple E (.lit (d:=qC.k) (e:=73) S ([]:List qC) (.nil)) ?_)))
  rintro _ u79 a ⟨A80,c81,rfl,S,hg⟩ E
  refine plc E (.r 1 1<|.b 2 6 (S.ba 6)<|.nil) fun a E=>?_
  obtain ⟨c83,H⟩:=gd H
  refine ple E (.ap (d:=qC.k) 32 S (g0_6.src S.own.sub) c83 c0_6) ?_
  rintro _ u86 a ⟨A84,c85,rfl,S,hz⟩ E
  refine plc E (.r 4 1 .nil) fun a E=>?_
  have S:=S.front 6 rfl
  refine pls E S [iv x.f0,iv x.f1,iv x.f2,iv x.f3,.slice A0_4 x.f4.length c0_4,.slice A0_5 x.f5.length c0_5,.slice A84 ((([]:List qC)++x.f6).length) c85] fun u87 hb2 S a E=>pld (hK78 _ _ (sq fun K88 hK88=>pl0 ?_))
  have hb4:=S.ba 6
  have hb65:=S.ba 2
  obtain ⟨c89,H⟩:=gd H
  have hr90:=S.ra 1
  have hE_:=E
  obtain ⟨b91,rfl⟩:=qCi hr90 c89.1 c89.2
  replace E:=hE_
  have hr_:=S.ra 1
  obtain ⟨cs93,⟨A95,c96,rfl,g97⟩,hc94⟩:=qCh hr_ qC.z y.f5 c89.1 c89.2
  refine plc E (.r 0 1<|.b 1 6 hb2<|.r 2 1<|.b 3 5 hb4<|.r 4 1<|.b 5 0 hb65<|.r 6 1<|.x 7 c89<|.nil) fun a E=>?_
  have S:=S.front 1 rfl
  obtain ⟨cs102,⟨A99,c100,rfl,g101⟩,hc103⟩:=qCh (S.row_at (i:=0) rfl) qC.z y.f5 c89.1 c89.2
  refine ple E (.set (d:=qC.k) (n:=(([]:List qC)++x.f6).length) (i:=y.f5) (⟨(nth qC.z x.f6 y.f5).f0,[]⟩:qC) (0) (ea0 _ _) S c89 [iv ((nth qC.z (([]:List qC)++x.f6) y.f5).f0),.slice A99 (((nth qC.z (([]:List qC)++x.f6) y.f5).f1).length) c100] hc103 [iv ((nth qC.z x.f6 y.f5).f0),.slice none 0 0] ⟨none,0,rfl,Rd.nil _ _⟩) ?_
  rintro _ u98 a ⟨rfl,S,hz⟩ E
  refine pld (hK88 _ _ (sq fun K104 hK104=>pl0 (plc E (.bn 0 0 7 (S.ba 1) .nil) fun a E=>?_)))
  have S:=S.front 5 rfl
  refine pls E S [iv x.f0,iv x.f1,iv x.f2,iv x.f3,.slice A0_4 x.f4.length c0_4,.slice A0_5 x.f5.length c0_5,.slice (pb b91) ((([]:List qC)++x.f6).length) c85] fun u105 hb6 S a E=>plc E (.r 2 1 .nil) fun a E=>pld (hK104 _ _ (wp_ret (qCd (qCc ?_))))
  have hn106:=(qCg (S.row_at (i:=1) rfl)).1
  replace S:Sm W F u105 F [box b6 #[iv x.f0,iv x.f1,iv x.f2,iv x.f3,.slice A0_4 x.f4.length c0_4,.slice A0_5 x.f5.length c0_5,.slice (pb b91) (((([]:List qC)++x.f6).set (y.f5).toNat (⟨(nth qC.z x.f6 y.f5).f0,[]⟩:qC)).length) c85] 26,row qC.k 73 (.slice (pb b91) (((([]:List qC)++x.f6).set (y.f5).toNat (⟨(nth qC.z x.f6 y.f5).f0,[]⟩:qC)).length) c85) ((([]:List qC)++x.f6).set (y.f5).toNat (⟨(nth qC.z x.f6 y.f5).f0,[]⟩:qC)),box b2 #[iv x.f0,iv x.f1,iv x.f2,iv x.f3,.slice A0_4 x.f4.length c0_4,.slice A0_5 x.f5.length c0_5,.slice (pb b91) (((([]:List qC)++x.f6).set (y.f5).toNat (⟨(nth qC.z x.f6 y.f5).f0,[]⟩:qC)).length) c85] 26,box b65 #[iv ((nth qC.z x.f6 y.f5).f0),.slice A62 (((nth qC.z x.f6 y.f5).f1).length) c63] 73,box b16 (nA t10.1) 68,box b12 (nA t10.1) 68,box b4 (dA y A1_6 c1_6) 29]:=by rw [← hn106]; exact S
  have hb6:=S.ba 0
  have S:=S.front 1 rfl
  obtain ⟨F107,hs,g108,S⟩:=S.give
  have g0_6:=g0_6.mono hs
  have g0_4:=g0_4.mono hs
  have g0_5:=g0_5.mono hs
  have g1_6:=g1_6.mono hs
  have S:=S.pm [] 6
  obtain rfl:=si H
  exact rtm E (.b hb6 ag26 sz26 (.t .nil)) ⟨_,rfl,_,_,_,_,_,_,_,rfl,S,g0_4,g0_5,g108⟩
  refine sq fun K71 hK71=>pl0 (plc E (.bn 0 0 7 (S.ba 5) .nil) fun a E=>?_)
  have S:=S.front 3 rfl
  refine pls E S [iv x.f0,iv x.f1,iv x.f2,iv x.f3,.slice A0_4 x.f4.length c0_4,.slice A0_5 x.f5.length c0_5,.slice (some ad58) x.f6.length c0_6] fun u72 hb6 S a E=>plc E (.r 2 1 .nil) fun a E=>pld (hK71 _ _ (wp_ret (qCc (qCd (qCc ?_)))))
  have S:=S.pm [] 6
  obtain rfl:=si H
  exact rtm E (.b hb6 ag26 sz26 (.t .nil)) ⟨_,rfl,_,_,_,_,_,_,_,rfl,S,g0_4,g0_5,g0_6⟩
 refine pl0 (plc E (.r 0 1<|.b 1 5 hb4<|.r 2 2<|.nil) fun a E=>E.fk 43 H (fun c46 E H=>?_) fun c46 E H=>?_)
 refine plc E (.r 4 6 .nil) fun a E=>pld ?_
 exact J51 _ (by omega) _ true _ _ E .of S H
 refine plc E (.r 4 1<|.b 5 5 hb4<|.r 6 1<|.b 7 3 (S.ba 4)<|.r 8 2<|.nil) fun a E=>pld ?_
 exact J51 _ (by omega) _ (decide (y.f5>=x.f3)) _ _ E .of S H
 refine rr E fun a E=>(E.ik 82 H (fun c110 E H=>?_) fun c110 E H=>?_)
 refine sq fun K111 hK111=>rr E fun a E=>(E.ib 84 H (fun c113 E H=>?_) fun c113 E H=>?_)
 refine sq fun K114 hK114=>pl0 (plc E (.bn 0 0 7 (S.ba 4) .nil) fun a E=>?_)
 have S:=S.front 2 rfl
 refine pls E S (mL x A0_4 c0_4 A0_5 c0_5 A0_6 c0_6) fun u115 hb6 S a E=>plc E (.r 2 1 .nil) fun a E=>pld (hK114 _ _ (wp_ret (qCc (qCd (qCc ?_)))))
 have S:=S.pm [] 5
 obtain rfl:=si H
 exact rtm E (.b hb6 ag26 sz26 (.t .nil)) ⟨_,rfl,_,_,_,_,_,_,_,rfl,S,g0_4,g0_5,g0_6⟩
 refine wp_skip (hK111 _ _ (sq fun K116 hK116=>sq fun K117 hK117=>pl0 ?_))
 have hb2:=S.ba 4
 refine plc E (.r 0 1<|.b 1 4 hb2<|.r 2 2<|.nil) fun a E=>pld (hK117 _ _ (E.ik 89 H (fun c118 E H=>?_) fun c118 E H=>?_))
 refine sq fun K119 hK119=>pl0 (plc E (.bn 0 0 7 hb2 .nil) fun a E=>?_)
 have S:=S.front 2 rfl
 refine pls E S (mL x A0_4 c0_4 A0_5 c0_5 A0_6 c0_6) fun u120 hb6 S a E=>plc E (.r 2 1 .nil) fun a E=>pld (hK119 _ _ (wp_ret (qCc (qCd (qCc ?_)))))
 have S:=S.pm [] 5
 obtain rfl:=si H
 exact rtm E (.b hb6 ag26 sz26 (.t .nil)) ⟨_,rfl,_,_,_,_,_,_,_,rfl,S,g0_4,g0_5,g0_6⟩
 refine wp_skip (hK116 _ _ (sq fun K121 hK121=>pl0 (plc E (.bn 0 0 7 hb2 .nil) fun a E=>pla (t:=26) E S [iv 0,iv 0,iv 0,iv 0,.slice none 0 0,.slice none 0 0,.slice none 0 0] fun b122 u123 hb122 S a E=>pls E S (mL x A0_4 c0_4 A0_5 c0_5 A0_6 c0_6) fun u124 hb122 S a E=>pld (hK121 _ _ (sq fun K125 hK125=>pl0 ?_)))))
 have hb4:=S.ba 4
 refine plc E (.r 0 1<|.b 1 4 (S.ba 5)<|.r 2 1<|.b 3 1 hb4<|.r 4 1<|.b 5 2 hb4<|.r 6 1<|.b 7 3 hb4<|.r 8 1<|.b 9 4 hb4<|.r 10 1<|.nil) fun a E=>?_
 obtain ⟨t127,h128,H⟩:=bd H
 refine ple E (.cl en77 (qk.calls k x.f4 (⟨y.f1,y.f2,y.f3,y.f4,false,true⟩:qA) false _ _ _ _ _ S.own.sub g0_4 h128)) ?_
 rintro _ u126 a ⟨F129,A130,c131,rfl,hC⟩ E
 have hs:=hC.sub
 have S:=S.called (X:=[]) hC
 have g0_4:=g0_4.mono hs
 have g0_5:=g0_5.mono hs
 have g0_6:=g0_6.mono hs
 have g1_6:=g1_6.mono hs
 refine plc E (.r 12 1 .nil) fun a E=>?_
 have S:=S.front 1 rfl
 refine pls E S [iv x.f0,iv x.f1,iv x.f2,iv x.f3,.slice A130 t127.length c131,.slice A0_5 x.f5.length c0_5,.slice A0_6 x.f6.length c0_6] fun u134 hb122 S a E=>pld (hK125 _ _ (sq fun K135 hK135=>sq fun K136 hK136=>pl0 (plc E (.r 0 1<|.b 1 4 hb122<|.nil) fun a E=>?_)))
 obtain ⟨t138,h139,H⟩:=bd H
 refine plq E S en50 (qn.calls k t127 _ _ _ _ _ (Sub.refl _) (S.rd_at (i:=1) rfl) h139) fun u137 S a E=>plc E (.r 3 1 .nil) fun a E=>pld (hK136 _ _ (E.ibn 108 H (fun c140 E H=>?_) fun c140 E H=>?_))
 refine wp_skip (hK135 _ _ (sq fun K143 hK143=>pl0 (plc E (.bn 0 0 7 (S.ba 0) .nil) fun a E=>?_)))
 have S:=S.front 4 rfl
 refine pls E S [iv x.f0,iv x.f1,iv x.f2,iv x.f3,.slice A130 t127.length c131,.slice A0_5 x.f5.length c0_5,.slice A0_6 x.f6.length c0_6] fun u144 hb6 S a E=>plc E (.r 2 1 .nil) fun a E=>pld (hK143 _ _ (wp_ret (qCd (qCc ?_))))
 have S:=S.front 2 rfl
 obtain ⟨F145,hs,g146,S⟩:=S.give
 have g0_4:=g0_4.mono hs
 have g0_5:=g0_5.mono hs
 have g0_6:=g0_6.mono hs
 have g1_6:=g1_6.mono hs
 have S:=S.pm [] 6
 obtain rfl:=si H
 exact rtm E (.b hb6 ag26 sz26 (.t .nil)) ⟨_,rfl,_,_,_,_,_,_,_,rfl,S,g146,g0_5,g0_6⟩
 refine sq fun K141 hK141=>pl0 (plc E (.bn 0 0 7 (S.ba 6) .nil) fun a E=>?_)
 have S:=S.front 4 rfl
 refine pls E S (mL x A0_4 c0_4 A0_5 c0_5 A0_6 c0_6) fun u142 hb6 S a E=>plc E (.r 2 1 .nil) fun a E=>pld (hK141 _ _ (wp_ret (qCc (qCd (qCc ?_)))))
 have S:=S.pm [] 7
 obtain rfl:=si H
 exact rtm E (.b hb6 ag26 sz26 (.t .nil)) ⟨_,rfl,_,_,_,_,_,_,_,rfl,S,g0_4,g0_5,g0_6⟩
 refine wp_skip ?_
 refine qCe ?_
 refine hK19 _ _ (sq fun K147 hK147=>rr E fun a E=>(E.ibn 112 H (fun c149 E H=>?_) fun c149 E H=>?_))
 refine wp_skip (hK147 _ _ (rr E fun a E=>(sq fun K153 hK153=>?_)))
 have J299:∀ kq297,kq297<=k->∀(G:NV)(y291:Bool)(x292:Int)(y293:Bool)(y294:Bool)(F295:World)(a:Act)(w':World),Env 242 G a->At G [(2,.pointer (pb b2)),(4,.pointer (pb b6)),(6,.pointer (pb b12)),(8,.pointer (pb b16)),(11,.bool y291)]->Sm W F w' F295 [box b12 #[iv t10.1.f0,iv t10.1.f1,iv t10.1.f2,iv x292,.bool y293,.bool y294] 68,box b16 (nA t10.1) 68,box b6 #[iv 0,iv 0,iv 0,iv 0,.slice none 0 0,.slice none 0 0,.slice none 0 0] 26,box b4 (dA y A1_6 c1_6) 29,box b2 (mA x A0_4 c0_4 A0_5 c0_5 A0_6 c0_6) 26]->Rd ki F295 A1_6 c1_6 y.f6->Rd qA.k F295 A0_4 c0_4 x.f4->Rd qE.k F295 A0_5 c0_5 x.f5->Rd qC.k F295 A0_6 c0_6 x.f6->qH.j296 kq297 x t10 y291 x292 y293 y294=some r->K153 a w':=by
  intro kq297 hkq G y291 x292 y293 y294 F295 a u300 E A S g1_6 g0_4 g0_5 g0_6 H
  obtain _ | k298:=kq297
  exact zz H
  rw [qH.j296_s]at H
  obtain ⟨J,E⟩:=E.at A
  refine hK153 _ _ (sq fun K301 hK301=>sq fun K302 hK302=>?_)
  have J309:∀ kq307,kq307<=k298->∀(G:NV)(y304:Bool)(y305:Bool)(a:Act)(w':World),Env 242 G a->At G [(2,.pointer (pb b2)),(4,.pointer (pb b6)),(6,.pointer (pb b12)),(11,.bool y304),(233,.bool y305)]->Sm W F w' F295 [box b12 #[iv t10.1.f0,iv t10.1.f1,iv t10.1.f2,iv x292,.bool y293,.bool y294] 68,box b16 (nA t10.1) 68,box b6 #[iv 0,iv 0,iv 0,iv 0,.slice none 0 0,.slice none 0 0,.slice none 0 0] 26,box b4 (dA y A1_6 c1_6) 29,box b2 (mA x A0_4 c0_4 A0_5 c0_5 A0_6 c0_6) 26]->qH.j306 kq307 x t10 x292 y293 y294 y304 y305=some r->K302 a w':=by
   intro kq307 hkq G y304 y305 a u310 E A S H
   obtain _ | k308:=kq307
   exact zz H
   rw [qH.j306_s]at H
   obtain ⟨J,E⟩:=E.at A
   refine hK302 _ _ (E.ib 233 H (fun c311 E H=>?_) fun c311 E H=>?_)
   refine sq fun K312 hK312=>pl0 (plc E (.bn 0 0 7 (S.ba 4) .nil) fun a E=>?_)
   have S:=S.front 2 rfl
   refine pls E S (mL x A0_4 c0_4 A0_5 c0_5 A0_6 c0_6) fun u313 hb6 S a E=>plc E (.r 2 1 .nil) fun a E=>pld (hK312 _ _ (wp_ret (qCc ?_)))
   have S:=S.pm [] 5
   obtain rfl:=si H
   exact rtm E (.b hb6 ag26 sz26 (.t .nil)) ⟨_,rfl,_,_,_,_,_,_,_,rfl,S,g0_4,g0_5,g0_6⟩
   refine wp_skip (hK301 _ _ (sq fun K314 hK314=>pl0 (plc E (.r 0 1<|.b 1 4 (S.ba 4)<|.bn 2 0 6 (S.ba 0)<|.r 3 1<|.nil) fun a E=>?_)))
   obtain ⟨t316,h317,H⟩:=bd H
   refine ple E (.cl en77 (qk.calls k308 x.f4 (⟨t10.1.f0,t10.1.f1,t10.1.f2,x292,y293,y294⟩:qA) y304 _ _ _ _ _ S.own.sub g0_4 h317)) ?_
   rintro _ u315 a ⟨F318,A319,c320,rfl,hC⟩ E
   have hs:=hC.sub
   have S:=S.called (X:=[]) hC
   have g0_4:=g0_4.mono hs
   have g1_6:=g1_6.mono hs
   have g0_5:=g0_5.mono hs
   have g0_6:=g0_6.mono hs
   refine plc E (.r 5 1 .nil) fun a E=>?_
   have S:=S.front 5 rfl
   refine pls E S [iv x.f0,iv x.f1,iv x.f2,iv x.f3,.slice A319 t316.length c320,.slice A0_5 x.f5.length c0_5,.slice A0_6 x.f6.length c0_6] fun u323 hb2 S a E=>pld (hK314 _ _ (sq fun K324 hK324=>pl0 (plc E (.bn 0 0 7 hb2 .nil) fun a E=>?_)))
   have S:=S.front 4 rfl
   refine pls E S [iv x.f0,iv x.f1,iv x.f2,iv x.f3,.slice A319 t316.length c320,.slice A0_5 x.f5.length c0_5,.slice A0_6 x.f6.length c0_6] fun u325 hb6 S a E=>plc E (.r 2 1 .nil) fun a E=>pld (hK324 _ _ (wp_ret ?_))
   have S:=S.front 2 rfl
   obtain ⟨F326,hs,g327,S⟩:=S.give
   have g0_4:=g0_4.mono hs
   have g0_5:=g0_5.mono hs
   have g0_6:=g0_6.mono hs
   have g1_6:=g1_6.mono hs
   have S:=S.pm [] 5
   obtain rfl:=si H
   exact rtm E (.b hb6 ag26 sz26 (.t .nil)) ⟨_,rfl,_,_,_,_,_,_,_,rfl,S,g327,g0_5,g0_6⟩
  refine pl0 (plc E (.r 0 3 .nil) fun a E=>E.fb 11 H (fun c303 E H=>?_) fun c303 E H=>?_)
  replace E:=E.btn 229 c303
  refine plc E (.r 3 4 .nil) fun a E=>pld ?_
  exact J309 _ (by omega) _ true false _ _ E .of S H
  replace E:=E.bfn 229 c303
  refine plc E (.bn 3 0 6 (S.ba 0)<|.bn 4 0 6 (S.ba 1)<|.y 5 (y_eqs fun w=>eqs68 (⟨t10.1.f0,t10.1.f1,t10.1.f2,x292,y293,y294⟩:qA) t10.1 w 9998)<|.r 6 1<|.nil) fun a E=>pld ?_
  exact J309 _ (by omega) _ false (decide ((⟨t10.1.f0,t10.1.f1,t10.1.f2,x292,y293,y294⟩:qA)=t10.1)) _ _ E .of S H
 refine rg E (.r 0 1<|.b 1 0 hb4<|.nil) fun a E=>(wp_block (rr E fun a E=>(E.ik 201 H (fun c156 E H=>?_) fun c156 E H=>?_)))
 refine sq fun K157 hK157=>sq fun K158 hK158=>?_
 have J164:∀ kq162,kq162<=k->∀(G:NV)(y160:Bool)(a:Act)(w':World),Env 242 G a->At G [(2,.pointer (pb b2)),(3,.pointer (pb b4)),(4,.pointer (pb b6)),(6,.pointer (pb b12)),(8,.pointer (pb b16)),(11,.bool false),(210,.bool y160)]->Sm W F w' F [box b16 (nA t10.1) 68,box b12 (nA t10.1) 68,box b6 #[iv 0,iv 0,iv 0,iv 0,.slice none 0 0,.slice none 0 0,.slice none 0 0] 26,box b4 (dA y A1_6 c1_6) 29,box b2 (mA x A0_4 c0_4 A0_5 c0_5 A0_6 c0_6) 26]->qH.j161 kq162 x y t10 y160=some r->K158 a w':=by
  intro kq162 hkq G y160 a u165 E A S H
  obtain _ | k163:=kq162
  exact zz H
  rw [qH.j161_s]at H
  obtain ⟨J,E⟩:=E.at A
  refine hK158 _ _ (E.ib 210 H (fun c166 E H=>?_) fun c166 E H=>?_)
  refine sq fun K167 hK167=>pl0 (plc E (.bn 0 0 7 (S.ba 4) .nil) fun a E=>?_)
  have S:=S.front 2 rfl
  refine pls E S (mL x A0_4 c0_4 A0_5 c0_5 A0_6 c0_6) fun u168 hb6 S a E=>plc E (.r 2 1 .nil) fun a E=>pld (hK167 _ _ (wp_ret (qCc (qCd (qCc ?_)))))
  have S:=S.pm [] 5
  obtain rfl:=si H
  exact rtm E (.b hb6 ag26 sz26 (.t .nil)) ⟨_,rfl,_,_,_,_,_,_,_,rfl,S,g0_4,g0_5,g0_6⟩
  refine wp_skip (hK157 _ _ (pl0 (plc E (.r 0 1<|.b 1 4 (S.ba 3)<|.r 2 1<|.nil) fun a E=>?_)))
  have S:=S.front 1 rfl
  refine pls E S [iv t10.1.f0,iv t10.1.f1,iv t10.1.f2,iv y.f4,.bool t10.1.f4,.bool t10.1.f5] fun u169 hb12 S a E=>pld ?_
  refine qCe ?_
  exact J299 _ (by omega) _ false y.f4 t10.1.f4 t10.1.f5 F _ _ E .of S g1_6 g0_4 g0_5 g0_6 H
 refine pl0 (plc E (.r 0 1<|.b 1 4 hb4<|.r 2 2<|.nil) fun a E=>E.fk 206 H (fun c159 E H=>?_) fun c159 E H=>?_)
 refine plc E (.r 4 4 .nil) fun a E=>pld ?_
 exact J164 _ (by omega) _ true _ _ E .of S H
 refine plc E (.r 4 1<|.b 5 4 hb4<|.r 6 2<|.nil) fun a E=>pld ?_
 exact J164 _ (by omega) _ (decide (y.f4>65536)) _ _ E .of S H
 refine rr E fun a E=>(E.ik 215 H (fun c171 E H=>?_) fun c171 E H=>?_)
 refine pl0 (plc E (.r 0 1 .nil) fun a E=>?_)
 have S:=S.front 1 rfl
 refine pls E S [iv t10.1.f0,iv t10.1.f1,iv t10.1.f2,iv t10.1.f3,.bool true,.bool t10.1.f5] fun u172 hb12 S a E=>pld ?_
 refine qCe ?_
 exact J299 _ (by omega) _ false t10.1.f3 true t10.1.f5 F _ _ E .of S g1_6 g0_4 g0_5 g0_6 H
 refine rr E fun a E=>(E.ik 218 H (fun c174 E H=>?_) fun c174 E H=>?_)
 refine pl0 (plc E (.r 0 1 .nil) fun a E=>?_)
 have S:=S.front 1 rfl
 refine pls E S [iv t10.1.f0,iv t10.1.f1,iv t10.1.f2,iv t10.1.f3,.bool false,.bool t10.1.f5] fun u175 hb12 S a E=>pld ?_
 refine qCe ?_
 exact J299 _ (by omega) _ false t10.1.f3 false t10.1.f5 F _ _ E .of S g1_6 g0_4 g0_5 g0_6 H
 refine rr E fun a E=>(E.ik 221 H (fun c177 E H=>?_) fun c177 E H=>?_)
 refine pl0 (plc E (.r 0 1 .nil) fun a E=>?_)
 have S:=S.front 1 rfl
 refine pls E S [iv t10.1.f0,iv t10.1.f1,iv t10.1.f2,iv t10.1.f3,.bool t10.1.f4,.bool false] fun u178 hb12 S a E=>pld ?_
 refine qCe ?_
 exact J299 _ (by omega) _ false t10.1.f3 t10.1.f4 false F _ _ E .of S g1_6 g0_4 g0_5 g0_6 H
 refine rr E fun a E=>(E.ik 224 H (fun c180 E H=>?_) fun c180 E H=>?_)
 refine pl0 (plc E (.r 0 1 .nil) fun a E=>?_)
 have S:=S.front 1 rfl
 refine pls E S [iv t10.1.f0,iv t10.1.f1,iv t10.1.f2,iv t10.1.f3,.bool t10.1.f4,.bool true] fun u181 hb12 S a E=>pld ?_
 refine qCe ?_
 exact J299 _ (by omega) _ false t10.1.f3 t10.1.f4 true F _ _ E .of S g1_6 g0_4 g0_5 g0_6 H
 refine sq fun K182 hK182=>rr E fun a E=>(wp_block ?_)
 refine wp_loop_ghost (fun kq188 a w'=>∃(G:NV)(y184:Bool)(x185:Int)(F186:World),kq188<=k/\Env 242 G a/\At G [(2,.pointer (pb b2)),(4,.pointer (pb b6)),(6,.pointer (pb b12)),(8,.pointer (pb b16)),(11,.bool y184),(12,iv x185)]/\Sm W F w' F186 [box b16 (nA t10.1) 68,box b12 (nA t10.1) 68,box b6 #[iv 0,iv 0,iv 0,iv 0,.slice none 0 0,.slice none 0 0,.slice none 0 0] 26,box b4 (dA y A1_6 c1_6) 29,box b2 (mA x A0_4 c0_4 A0_5 c0_5 A0_6 c0_6) 26]/\Rd ki F186 A1_6 c1_6 y.f6/\Rd qA.k F186 A0_4 c0_4 x.f4/\Rd qE.k F186 A0_5 c0_5 x.f5/\Rd qC.k F186 A0_6 c0_6 x.f6/\qH.l187 kq188 x t10 y184 x185=some r) k ⟨_,false,0,F,Nat.le_refl _,E,.of,S,g1_6,g0_4,g0_5,g0_6,H⟩ ?_
 rintro kq188 a u190 ⟨G,y184,x185,F186,hkq,E,A,S,g1_6,g0_4,g0_5,g0_6,H⟩
 obtain _ | k189:=kq188
 exact zz H
 rw [qH.l187_s]at H
 obtain ⟨J,E⟩:=E.at A
 refine sq fun K191 hK191=>sq fun K192 hK192=>pl0 ?_
 have hb2:=S.ba 4
 refine plc E (.r 0 2<|.b 2 3 hb2<|.r 3 1<|.nil) fun a E=>pld (hK192 _ _ (E.ik 119 H (fun c193 E H=>?_) fun c193 E H=>?_))
 refine wp_skip (hK191 _ _ (sq fun K194 hK194=>wp_block (sq fun K195 hK195=>pl0 (plc E (.bn 0 0 7 hb2<|.r 1 1<|.nil) fun a E=>?_))))
 obtain ⟨t197,h198,H⟩:=bd H
 refine ple E (.cl en61 (qAL.calls k189 x x185 _ _ _ _ _ _ _ _ _ S.own.sub g0_4 g0_5 g0_6 h198)) ?_
 rintro _ u196 a ⟨F199,A200,c201,rfl,hC,g202⟩ E
 have hs:=hC.sub
 have S:=S.called (X:=[]) hC
 have g0_4:=g0_4.mono hs
 have g0_5:=g0_5.mono hs
 have g0_6:=g0_6.mono hs
 have g1_6:=g1_6.mono hs
 refine plc E (.r 3 1 .nil) fun a E=>pld (hK195 _ _ (sq fun K203 hK203=>rr E fun a E=>(wp_block ?_)))
 refine wp_loop_ghost (fun kq208 a w'=>∃(G:NV)(y205:Bool)(x206:Int),kq208<=k189/\Env 242 G a/\At G [(2,.pointer (pb b2)),(4,.pointer (pb b6)),(6,.pointer (pb b12)),(8,.pointer (pb b16)),(11,.bool y205),(12,iv x185),(13,.slice A200 t197.length c201),(14,iv x206)]/\Sm W F w' F199 [box b16 (nA t10.1) 68,box b12 (nA t10.1) 68,box b6 #[iv 0,iv 0,iv 0,iv 0,.slice none 0 0,.slice none 0 0,.slice none 0 0] 26,box b4 (dA y A1_6 c1_6) 29,box b2 (mA x A0_4 c0_4 A0_5 c0_5 A0_6 c0_6) 26]/\qH.l207 kq208 x t10 x185 t197 y205 x206=some r) k189 ⟨_,y184,0,Nat.le_refl _,E,.of,S,H⟩ ?_
 rintro kq208 a u210 ⟨G,y205,x206,hkq,E,A,S,H⟩
 obtain _ | k209:=kq208
 exact zz H
 rw [qH.l207_s]at H
 obtain ⟨J,E⟩:=E.at A
 refine sq fun K211 hK211=>rr E fun a E=>(E.ik 128 H (fun c213 E H=>?_) fun c213 E H=>?_)
 refine wp_skip (hK211 _ _ (sq fun K214 hK214=>wp_block ?_))
 refine drawn 11 ⟨[],[],fun q=>False⟩ mixed rfl (by kernel_rfl) fun hst=>?_
 have S:=S.drew
 refine mny 9 hst E (.r 0 2 .nil) fun a E=>?_
 refine E.fb 11 H (fun c215 E H=>?_) fun c215 E H=>?_
 replace E:=E.bt 132 c215
 refine mny 0 hst E (.r 2 9 .nil) fun a E=>?_
 refine dn ?_
 refine qCe ?_
 refine hK214 _ _ (pl0 (plc E (.r 0 3 .nil) fun a E=>pld ?_))
 exact qCf ⟨k209,by omega,_,true,(w64 (x206+1)),by omega,E,.of,S,H⟩
 replace E:=E.bf 132 c215
 obtain ⟨c216,H⟩:=gd H
 have hE_:=E
 obtain ⟨ad217,rfl⟩:=g202.addr c216.1 c216.2
 replace E:=hE_
 obtain ⟨cs219,rfl,hc220⟩:=g202.el 0 x206 c216.1 c216.2
 have hb12:=S.ba 1
 refine mny 0 hst E (.r 2 2<|.x 4 c216<|.c 5 (S.fc hc220 0)<|.r 6 1<|.b 7 0 hb12<|.r 8 3<|.nil) fun a E=>?_
 refine dn ?_
 refine qCe ?_
 refine hK214 _ _ (pl0 (plc E (.r 0 3 .nil) fun a E=>pld ?_))
 exact qCf ⟨k209,by omega,_,((nth 0 t197 x206) == t10.1.f0),(w64 (x206+1)),by omega,E,.of,S,H⟩
 refine wp_exit ?_
 refine hK203 _ _ (rr E fun a E=>(wp_block ?_))
 refine wp_loop_ghost (fun kq225 a w'=>∃(G:NV)(y222:Bool)(x223:Int),kq225<=k209/\Env 242 G a/\At G [(2,.pointer (pb b2)),(4,.pointer (pb b6)),(6,.pointer (pb b12)),(8,.pointer (pb b16)),(11,.bool y222),(12,iv x185),(15,iv x223)]/\Sm W F w' F199 [box b16 (nA t10.1) 68,box b12 (nA t10.1) 68,box b6 #[iv 0,iv 0,iv 0,iv 0,.slice none 0 0,.slice none 0 0,.slice none 0 0] 26,box b4 (dA y A1_6 c1_6) 29,box b2 (mA x A0_4 c0_4 A0_5 c0_5 A0_6 c0_6) 26]/\qH.l224 kq225 x t10 x185 y222 x223=some r) k209 ⟨_,y205,0,Nat.le_refl _,E,.of,S,H⟩ ?_
 rintro kq225 a u227 ⟨G,y222,x223,hkq,E,A,S,H⟩
 obtain _ | k226:=kq225
 exact zz H
 rw [qH.l224_s]at H
 obtain ⟨J,E⟩:=E.at A
 refine sq fun K228 hK228=>sq fun K229 hK229=>pl0 ?_
 have hb2:=S.ba 4
 obtain ⟨c230,H⟩:=gd H
 have hE_:=E
 obtain ⟨ad231,rfl⟩:=g0_6.addr c230.1 c230.2
 replace E:=hE_
 obtain ⟨cs233,⟨A235,c236,rfl,g237⟩,hc234⟩:=g0_6.el qC.z x185 c230.1 c230.2
 refine plc E (.r 0 2<|.b 2 6 hb2<|.r 3 1<|.x 4 c230<|.r 5 1<|.c 6 (S.fc hc234 1)<|.r 7 2<|.nil) fun a E=>pld (hK229 _ _ (E.ik 149 H (fun c238 E H=>?_) fun c238 E H=>?_))
 refine wp_skip (hK228 _ _ (sq fun K239 hK239=>wp_block (rr E fun a E=>(wp_block ?_))))
 refine wp_loop_ghost (fun kq244 a w'=>∃(G:NV)(y241:Bool)(x242:Int),kq244<=k226/\Env 242 G a/\At G [(2,.pointer (pb b2)),(4,.pointer (pb b6)),(6,.pointer (pb b12)),(8,.pointer (pb b16)),(11,.bool y241),(12,iv x185),(15,iv x223),(16,iv x242)]/\Sm W F w' F199 [box b16 (nA t10.1) 68,box b12 (nA t10.1) 68,box b6 #[iv 0,iv 0,iv 0,iv 0,.slice none 0 0,.slice none 0 0,.slice none 0 0] 26,box b4 (dA y A1_6 c1_6) 29,box b2 #[iv x.f0,iv x.f1,iv x.f2,iv x.f3,.slice A0_4 x.f4.length c0_4,.slice A0_5 x.f5.length c0_5,.slice (some ad231) x.f6.length c0_6] 26]/\qH.l243 kq244 x t10 x185 x223 y241 x242=some r) k226 ⟨_,y222,0,Nat.le_refl _,E,.of,S,H⟩ ?_
 rintro kq244 a u246 ⟨G,y241,x242,hkq,E,A,S,H⟩
 obtain _ | k245:=kq244
 exact zz H
 rw [qH.l243_s]at H
 obtain ⟨J,E⟩:=E.at A
 refine sq fun K247 hK247=>sq fun K248 hK248=>pl0 ?_
 have hb2:=S.ba 4
 obtain ⟨cs250,⟨A252,c253,rfl,g254⟩,hc251⟩:=g0_6.el qC.z x185 c230.1 c230.2
 obtain ⟨c255,H⟩:=gd H
 have hE_:=E
 obtain ⟨ad256,rfl⟩:=g254.addr c255.1 c255.2
 replace E:=hE_
 obtain ⟨cs258,⟨A260,c261,rfl,g262⟩,hc259⟩:=g254.el qG.z x223 c255.1 c255.2
 refine plc E (.r 0 2<|.b 2 6 hb2<|.r 3 1<|.x 4 c230<|.r 5 1<|.c 6 (S.fc hc251 1)<|.r 7 1<|.x 8 c255<|.r 9 1<|.c 10 (S.fc hc259 1)<|.r 11 2<|.nil) fun a E=>pld (hK248 _ _ (E.ik 164 H (fun c263 E H=>?_) fun c263 E H=>?_))
 refine wp_skip (hK247 _ _ (sq fun K264 hK264=>wp_block ?_))
 refine drawn 20 ⟨[],[],fun q=>False⟩ mixed rfl (by kernel_rfl) fun hst=>?_
 have S:=S.drew
 refine mny 18 hst E (.r 0 2 .nil) fun a E=>?_
 refine E.fb 11 H (fun c265 E H=>?_) fun c265 E H=>?_
 replace E:=E.bt 168 c265
 refine mny 0 hst E (.r 2 18 .nil) fun a E=>?_
 refine dn ?_
 refine qCe ?_
 refine hK264 _ _ (pl0 (plc E (.r 0 3 .nil) fun a E=>pld ?_))
 exact qCf ⟨k245,by omega,_,true,(w64 (x242+1)),by omega,E,.of,S,H⟩
 replace E:=E.bf 168 c265
 have hb2:=S.ba 4
 obtain ⟨c272,H⟩:=gd H
 have hE_:=E
 obtain ⟨ad273,rfl⟩:=g262.addr c272.1 c272.2
 replace E:=hE_
 obtain ⟨cs275,rfl,hc276⟩:=g262.el 0 x242 c272.1 c272.2
 have hb12:=S.ba 1
 refine mny 0 hst E (.r 2 1<|.b 3 6 hb2<|.r 4 1<|.x 5 c230<|.r 6 1<|.c 7 (S.fc hc251 1)<|.r 8 1<|.x 9 c255<|.r 10 1<|.c 11 (S.fc hc259 1)<|.r 12 1<|.x 13 c272<|.c 14 (S.fc hc276 0)<|.r 15 1<|.b 16 0 hb12<|.r 17 3<|.nil) fun a E=>?_
 refine dn ?_
 refine qCe ?_
 refine hK264 _ _ (pl0 (plc E (.r 0 3 .nil) fun a E=>pld ?_))
 exact qCf ⟨k245,by omega,_,((nth 0 ((nth qG.z ((nth qC.z x.f6 x185).f1) x223).f1) x242) == t10.1.f0),(w64 (x242+1)),by omega,E,.of,S,H⟩
 refine wp_exit ?_
 refine hK239 _ _ (pl0 (plc E (.r 0 3 .nil) fun a E=>pld ?_))
 exact qCf ⟨k245,by omega,_,y241,(w64 (x223+1)),by omega,E,.of,S,H⟩
 refine wp_exit ?_
 refine hK194 _ _ (pl0 (plc E (.r 0 3 .nil) fun a E=>pld ?_))
 exact qCf ⟨k226,by omega,_,y222,(w64 (x185+1)),F199,by omega,E,.of,S,g1_6,g0_4,g0_5,g0_6,H⟩
 refine wp_exit ?_
 refine hK182 _ _ (sq fun K277 hK277=>sq fun K278 hK278=>?_)
 have J286:∀ kq284,kq284<=k189->∀(G:NV)(y282:Bool)(a:Act)(w':World),Env 242 G a->At G [(2,.pointer (pb b2)),(4,.pointer (pb b6)),(6,.pointer (pb b12)),(8,.pointer (pb b16)),(199,.bool y282)]->Sm W F w' F186 [box b16 (nA t10.1) 68,box b12 (nA t10.1) 68,box b6 #[iv 0,iv 0,iv 0,iv 0,.slice none 0 0,.slice none 0 0,.slice none 0 0] 26,box b4 (dA y A1_6 c1_6) 29,box b2 (mA x A0_4 c0_4 A0_5 c0_5 A0_6 c0_6) 26]->qH.j283 kq284 x t10 y282=some r->K278 a w':=by
  intro kq284 hkq G y282 a u287 E A S H
  obtain _ | k285:=kq284
  exact zz H
  rw [qH.j283_s]at H
  obtain ⟨J,E⟩:=E.at A
  refine hK278 _ _ (E.ib 199 H (fun c288 E H=>?_) fun c288 E H=>?_)
  refine sq fun K289 hK289=>pl0 (plc E (.bn 0 0 7 (S.ba 4) .nil) fun a E=>?_)
  have S:=S.front 2 rfl
  refine pls E S (mL x A0_4 c0_4 A0_5 c0_5 A0_6 c0_6) fun u290 hb6 S a E=>plc E (.r 2 1 .nil) fun a E=>pld (hK289 _ _ (wp_ret (qCc (qCd (qCc ?_)))))
  have S:=S.pm [] 5
  obtain rfl:=si H
  exact rtm E (.b hb6 ag26 sz26 (.t .nil)) ⟨_,rfl,_,_,_,_,_,_,_,rfl,S,g0_4,g0_5,g0_6⟩
  refine wp_skip (hK277 _ _ (pl0 (plc E (.r 0 1 .nil) fun a E=>pld ?_)))
  refine qCe ?_
  have S:=S.pm [1,0] 2
  exact J299 _ (by omega) _ true t10.1.f3 t10.1.f4 t10.1.f5 F186 _ _ E .of S g1_6 g0_4 g0_5 g0_6 H
 refine pl0 (plc E (.r 0 2 .nil) fun a E=>E.fb 187 H (fun c279 E H=>?_) fun c279 E H=>?_)
 refine plc E (.r 2 12 .nil) fun a E=>pld ?_
 exact J286 _ (by omega) _ true _ _ E .of S H
 have hb12:=S.ba 1
 refine plc E (.r 2 1<|.b 3 4 hb12<|.r 4 2<|.nil) fun a E=>E.fb 191 H (fun c280 E H=>?_) fun c280 E H=>?_
 refine plc E (.r 6 8 .nil) fun a E=>pld ?_
 exact J286 _ (by omega) _ true _ _ E .of S H
 refine plc E (.r 6 1<|.b 7 5 hb12<|.r 8 1<|.nil) fun a E=>E.fb 194 H (fun c281 E H=>?_) fun c281 E H=>?_
 refine plc E (.r 9 1<|.b 10 3 hb12<|.r 11 3<|.nil) fun a E=>pld ?_
 exact J286 _ (by omega) _ (decide (t10.1.f3>0)) _ _ E .of S H
 refine plc E (.r 9 5 .nil) fun a E=>pld ?_
 exact J286 _ (by omega) _ false _ _ E .of S H
 refine sq fun K150 hK150=>pl0 (plc E (.bn 0 0 7 (S.ba 4) .nil) fun a E=>?_)
 have S:=S.front 2 rfl
 refine pls E S (mL x A0_4 c0_4 A0_5 c0_5 A0_6 c0_6) fun u151 hb6 S a E=>plc E (.r 2 1 .nil) fun a E=>pld (hK150 _ _ (wp_ret (qCc ?_)))
 have S:=S.pm [] 5
 obtain rfl:=si H
 exact rtm E (.b hb6 ag26 sz26 (.t .nil)) ⟨_,rfl,_,_,_,_,_,_,_,rfl,S,g0_4,g0_5,g0_6⟩
mutual
def qf.l15:Nat->List Int->List Int->Int->Option (List Int)
 | 0,_,_,_=>none
 | k+1,x,l12,x13=>if x13<(x.length:Int) then (qf.l26 k x l12 x13 (l12.length:Int)) else (some l12)
def qf.l26:Nat->List Int->List Int->Int->Int->Option (List Int)
 | 0,_,_,_,_=>none
 | k+1,x,l12,x13,x25=>if x25>0 then (if 0<=(w64 (x25 - 1))/\(w64 (x25 - 1))<(l12.length:Int) then (if 0<=x13/\x13<(x.length:Int) then (qf.j45 k x l12 x13 x25 (decide ((nth 0 l12 (w64 (x25 - 1)))>(nth 0 x x13)))) else (none)) else (none)) else (qf.j45 k x l12 x13 x25 false)
def qf.j45:Nat->List Int->List Int->Int->Int->Bool->Option (List Int)
 | 0,_,_,_,_,_=>none
 | k+1,x,l12,x13,x25,y44=>if y44=true then (qf.l26 k x l12 x13 (w64 (x25 - 1))) else (if 0<=x25/\x25<=(l12.length:Int) then (if 0<=x13/\x13<(x.length:Int) then (if ((([]:List Int).length:Int)+((cutl l12 0 x25).length:Int)) * 8<=140737488355328 then (if (((([]:List Int)++(cutl l12 0 x25)).length:Int)+((1:Nat):Int)) * 8<=140737488355328 then (if ((((([]:List Int)++(cutl l12 0 x25))++[(nth 0 x x13)]).length:Int)+((cutl l12 x25 (l12.length:Int)).length:Int)) * 8<=140737488355328 then (qf.l15 k x (((([]:List Int)++(cutl l12 0 x25))++[(nth 0 x x13)])++(cutl l12 x25 (l12.length:Int))) (w64 (x13+1))) else (none)) else (none)) else (none)) else (none)) else (none))
end
theorem qf.l15_s k x l12 x13:type_of% (qf.l15.eq_2 x l12 x13 k):=qf.l15.eq_2 x l12 x13 k
theorem qf.l26_s k x l12 x13 x25:type_of% (qf.l26.eq_2 x l12 x13 x25 k):=qf.l26.eq_2 x l12 x13 x25 k
theorem qf.j45_s k x l12 x13 x25 y44:type_of% (qf.j45.eq_2 x l12 x13 x25 y44 k):=qf.j45.eq_2 x l12 x13 x25 y44 k
def qf.f(k:Nat)(x:List Int):Option (List Int):=qf.l15 k x ([]:List Int) 0
def qf.Post(W F:World)(r:List Int)(v:Value)(w':World):Prop:=∃(F':World)(RA0_0:OA)(rc0_0:Nat),v = .slice RA0_0 r.length rc0_0/\Sm W F w' F' [row ki 3 (.slice RA0_0 r.length rc0_0) r]
theorem qf.calls(k:Nat)(x:List Int)(A0_0:OA)(c0_0:Nat)(r:List Int)(W F:World)(hown:Sub F W)(g0_0:Rd ki F A0_0 c0_0 x)(H:qf.f k x=some r):
    Cr 78 #[.slice A0_0 x.length c0_0] W (qf.Post W F r):=by
 have S:=sT hown
 unfold qf.f at H
 refine ent 47 rfl rfl rfl fun a E=>?_
 refine rr E fun a E=>(sq fun K2 hK2=>pl0 (ple E (.lit (d:=ki) (e:=3) S ([]:List Int) (.nil)) ?_))
 rintro _ u3 a ⟨A4,c5,rfl,S,hg⟩ E
 refine plc E (.r 1 1 .nil) fun a E=>pld (hK2 _ _ (sq fun K7 hK7=>rr E fun a E=>(wp_block ?_)))
 refine wp_loop_ghost (fun kq16 a w'=>∃(G:NV)(A10:OA)(c11:Nat)(l12:List Int)(x13:Int)(F14:World),kq16<=k/\Env 47 G a/\At G [(0,.slice A0_0 x.length c0_0),(3,.slice A10 l12.length c11),(4,iv x13)]/\Sm W F w' F14 [row ki 3 (.slice A10 l12.length c11) l12]/\Rd ki F14 A0_0 c0_0 x/\qf.l15 kq16 x l12 x13=some r) k ⟨_,A4,c5,([]:List Int),0,F,Nat.le_refl _,E,.of,S,g0_0,H⟩ ?_
 rintro kq16 a u18 ⟨G,A10,c11,l12,x13,F14,hkq,E,A,S,g0_0,H⟩
 obtain _ | k17:=kq16
 exact zz H
 rw [qf.l15_s]at H
 obtain ⟨J,E⟩:=E.at A
 refine sq fun K19 hK19=>rr E fun a E=>(E.ik 10 H (fun c21 E H=>?_) fun c21 E H=>?_)
 refine wp_skip (hK19 _ _ (sq fun K22 hK22=>wp_block (rr E fun a E=>(sq fun K24 hK24=>wp_block ?_))))
 refine wp_loop_ghost (fun kq27 a w'=>∃(G:NV)(x25:Int),kq27<=k17/\Env 47 G a/\At G [(0,.slice A0_0 x.length c0_0),(3,.slice A10 l12.length c11),(4,iv x13),(5,iv x25)]/\Sm W F w' F14 [row ki 3 (.slice A10 l12.length c11) l12]/\qf.l26 kq27 x l12 x13 x25=some r) k17 ⟨_,(l12.length:Int),Nat.le_refl _,E,.of,S,H⟩ ?_
 rintro kq27 a u29 ⟨G,x25,hkq,E,A,S,H⟩
 obtain _ | k28:=kq27
 exact zz H
 rw [qf.l26_s]at H
 obtain ⟨J,E⟩:=E.at A
 refine sq fun K30 hK30=>sq fun K31 hK31=>?_
 have J48:∀ kq46,kq46<=k28->∀(G:NV)(y44:Bool)(a:Act)(w':World),Env 47 G a->At G [(0,.slice A0_0 x.length c0_0),(3,.slice A10 l12.length c11),(4,iv x13),(5,iv x25),(28,.bool y44)]->Sm W F w' F14 [row ki 3 (.slice A10 l12.length c11) l12]->qf.j45 kq46 x l12 x13 x25 y44=some r->K31 a w':=by
  intro kq46 hkq G y44 a u49 E A S H
  obtain _ | k47:=kq46
  exact zz H
  rw [qf.j45_s]at H
  obtain ⟨J,E⟩:=E.at A
  refine hK31 _ _ (E.ib 28 H (fun c50 E H=>?_) fun c50 E H=>?_)
  refine wp_skip (hK30 _ _ (wp_block (pl0 (plc E (.r 0 3 .nil) fun a E=>pld ?_))))
  refine qCe ?_
  exact qCf ⟨k47,by omega,_,(w64 (x25 - 1)),by omega,E,.of,S,H⟩
  refine wp_exit ?_
  refine hK24 _ _ ?_
  obtain ⟨F51,hs,g52,S⟩:=S.give
  have g0_0:=g0_0.mono hs
  refine drawn 16 ⟨[4,10,14],[4,10,14],fun q=>XF F51 q⟩ mixed rfl (by kernel_rfl) fun hst=>?_
  have S:=S.drew
  obtain ⟨c53,H⟩:=gd H
  obtain ⟨A54,c55,g56,hv57⟩:=qFa (P:=Tryz.prog) g52 ⟨Int.le_refl _,c53.1,c53.2⟩ sz3
  obtain ⟨c58,H⟩:=gd H
  have hE_:=E
  obtain ⟨ad59,rfl⟩:=g0_0.addr c58.1 c58.2
  replace E:=hE_
  obtain ⟨cs61,rfl,hc62⟩:=g0_0.el 0 x13 c58.1 c58.2
  obtain ⟨A63,c64,g65,hv66⟩:=qFa (P:=Tryz.prog) g52 ⟨c53.1,c53.2,Int.le_refl _⟩ sz3
  refine mny 6 hst E (.r 1 2<|.y 3 (hv57 (by kernel_rfl))<|.r 5 2<|.x 7 c58<|.cF 8 S.own.sub (hc62 0 _ rfl)<|.r 11 2<|.y 13 (hv66 (by kernel_rfl))<|.nil) fun a E=>?_
  obtain ⟨c75,H⟩:=gd H
  refine meet2 (fun a w'=>∃(G:NV)(A76:OA)(c77:Nat)(A72:OA)(c73:Nat),Env 47 G a/\At G [(0,.slice (some ad59) x.length c0_0),(3,.slice A10 l12.length c11),(4,iv x13),(35,.slice A76 ((([]:List Int)++(cutl l12 0 x25)).length) c77),(40,.slice A72 ([(nth 0 x x13)].length) c73),(44,.slice A63 ((cutl l12 x25 (l12.length:Int)).length) c64)]/\Sm W F w' F51 [row ki 3 (.slice A76 ((([]:List Int)++(cutl l12 0 x25)).length) c77) (([]:List Int)++(cutl l12 0 x25)),row ki 3 (.slice A72 ([(nth 0 x x13)].length) c73) [(nth 0 x x13)]]) 3 15359 ?_ fun hJb=>?_
  rintro a u82 ⟨G,A76,c77,A72,c73,E,A,S⟩
  obtain ⟨J,E⟩:=E.at A
  obtain ⟨c83,H⟩:=gd H
  have hSo:=S.own.sub
  refine on1 10 E (.ap (d:=ki) 8 S (qCj (S.row_at (i:=1) rfl)) c83 c73) ?_
  rintro _ u86 a ⟨A84,c85,rfl,S,hz⟩ E
  refine ⟨.c (xf hSo S.own.sub hz),?_⟩
  obtain ⟨c87,H⟩:=gd H
  have hSo:=S.own.sub
  refine on1 14 E (.ap (d:=ki) 8 S (g65.src S.own.sub) c87 c64) ?_
  rintro _ u90 a ⟨A88,c89,rfl,S,hz⟩ E
  refine ⟨.c (xf hSo S.own.sub hz),?_⟩
  refine mny 0 hst E (.r 15 1 .nil) fun a E=>?_
  refine dn ?_
  refine qCe ?_
  refine hK22 _ _ (pl0 (plc E (.r 0 3 .nil) fun a E=>pld ?_))
  have S:=S.pm [0] 2
  exact qCf ⟨k47,by omega,_,A88,c89,(((([]:List Int)++(cutl l12 0 x25))++[(nth 0 x x13)])++(cutl l12 x25 (l12.length:Int))),(w64 (x13+1)),F51,by omega,E,.of,S,g0_0,H⟩
  refine meet2 (fun a w'=>∃(G:NV)(A72:OA)(c73:Nat)(A68:OA)(c69:Nat),Env 47 G a/\At G [(0,.slice (some ad59) x.length c0_0),(3,.slice A10 l12.length c11),(4,iv x13),(31,.slice A68 (([]:List Int).length) c69),(34,.slice A54 ((cutl l12 0 x25).length) c55),(40,.slice A72 ([(nth 0 x x13)].length) c73),(44,.slice A63 ((cutl l12 x25 (l12.length:Int)).length) c64)]/\Sm W F w' F51 [row ki 3 (.slice A72 ([(nth 0 x x13)].length) c73) [(nth 0 x x13)],row ki 3 (.slice A68 (([]:List Int).length) c69) ([]:List Int)]) 4 15343 ?_ fun hJ=>?_
  rintro a u80 ⟨G,A72,c73,A68,c69,E,A,S⟩
  obtain ⟨J,E⟩:=E.at A
  have S:=S.front 1 rfl
  have hSo:=S.own.sub
  refine on1 4 E (.ap (d:=ki) 8 S (g56.src S.own.sub) c75 c55) ?_
  rintro _ u78 a ⟨A76,c77,rfl,S,hz⟩ E
  refine ⟨.c (xf hSo S.own.sub hz),?_⟩
  exact hJb _ _ ⟨_,A76,c77,A72,c73,E,.of,S⟩
  refine pk2 0 9 ?_ ?_
  refine pk1 0 E (.lit (d:=ki) (e:=3) S ([]:List Int) (.nil)) ?_
  rintro _ u67 a ⟨A68,c69,rfl,S,hg⟩ E
  refine ⟨.of hg,?_⟩
  refine pk2 9 4 ?_ ?_
  refine pk1 9 E (.lit (d:=ki) (e:=3) S [(nth 0 x x13)] (.cons rfl .nil)) ?_
  rintro _ u71 a ⟨A72,c73,rfl,S,hg⟩ E
  refine ⟨.of hg,?_⟩
  exact hJ _ _ ⟨_,A72,c73,A68,c69,E,.of,S⟩
  have hSo:=S.own.sub
  refine pk1 4 E (.ap (d:=ki) 8 S (g56.src S.own.sub) c75 c55) ?_
  rintro _ u78 a ⟨A76,c77,rfl,S,hz⟩ E
  refine ⟨.c (xf hSo S.own.sub hz),?_⟩
  refine on1 9 E (.lit (d:=ki) (e:=3) S [(nth 0 x x13)] (.cons rfl .nil)) ?_
  rintro _ u71 a ⟨A72,c73,rfl,S,hg⟩ E
  refine ⟨.of hg,?_⟩
  have S:=S.front 1 rfl
  exact hJb _ _ ⟨_,A76,c77,A72,c73,E,.of,S⟩
  refine pk1 9 E (.lit (d:=ki) (e:=3) S [(nth 0 x x13)] (.cons rfl .nil)) ?_
  rintro _ u71 a ⟨A72,c73,rfl,S,hg⟩ E
  refine ⟨.of hg,?_⟩
  refine on1 0 E (.lit (d:=ki) (e:=3) S ([]:List Int) (.nil)) ?_
  rintro _ u67 a ⟨A68,c69,rfl,S,hg⟩ E
  refine ⟨.of hg,?_⟩
  have S:=S.front 1 rfl
  exact hJ _ _ ⟨_,A72,c73,A68,c69,E,.of,S⟩
 refine drawn 14 ⟨[],[],fun q=>False⟩ mixed rfl (by kernel_rfl) fun hst=>?_
 have S:=S.drew
 refine mny 11 hst E (.r 0 3 .nil) fun a E=>?_
 refine E.fk 17 H (fun c32 E H=>?_) fun c32 E H=>?_
 obtain ⟨c33,H⟩:=gd H
 have hr34:=S.ra 0
 have hE_:=E
 obtain ⟨b35,rfl⟩:=qCi hr34 c33.1 c33.2
 replace E:=hE_
 have hr_:=S.ra 0
 obtain ⟨cs37,rfl,hc38⟩:=qCh hr_ 0 (w64 (x25 - 1)) c33.1 c33.2
 obtain ⟨c39,H⟩:=gd H
 have hE_:=E
 obtain ⟨ad40,rfl⟩:=g0_0.addr c39.1 c39.2
 replace E:=hE_
 obtain ⟨cs42,rfl,hc43⟩:=g0_0.el 0 x13 c39.1 c39.2
 refine mny 0 hst E (.r 3 3<|.x 6 c33<|.c 7 (hc38 0 _ rfl)<|.r 8 2<|.x 10 c39<|.c 11 (S.fc hc43 0)<|.r 12 2<|.nil) fun a E=>?_
 refine dn ?_
 exact J48 _ (by omega) _ (decide ((nth 0 l12 (w64 (x25 - 1)))>(nth 0 x x13))) _ _ E .of S H
 refine mny 0 hst E (.r 3 11 .nil) fun a E=>?_
 refine dn ?_
 exact J48 _ (by omega) _ false _ _ E .of S H
 refine wp_exit ?_
 refine hK7 _ _ (rr E fun a E=>(wp_ret ?_))
 obtain rfl:=si H
 exact rt1 E ⟨_,rfl,_,_,_,rfl,S⟩
mutual
def qh.l27:Nat->qC->List Int->Int->Int->List qG->Int->Option qC
 | 0,_,_,_,_,_,_=>none
 | k+1,x,y,p,s,l24,x25=>if x25<(x.f1.length:Int) then (if (y.length:Int)<p then (qh.j58 k x y p s l24 x25 true) else (if 0<=x25/\x25<(x.f1.length:Int) then ((qf.f k y).bind fun t46=>((qAE.f k ((nth qG.z x.f1 x25).f1) t46).bind fun t54=>(qh.j58 k x y p s l24 x25 (!t54)))) else (none))) else (if (y.length:Int)>=p then ((qf.f k y).bind fun t84=>(if ((l24.length:Int)+((1:Nat):Int)) * 32<=140737488355328 then (qh.j106 k s (l24++[(⟨x.f0,t84⟩:qG)])) else (none))) else (qh.j106 k s l24))
def qh.j58:Nat->qC->List Int->Int->Int->List qG->Int->Bool->Option qC
 | 0,_,_,_,_,_,_,_=>none
 | k+1,x,y,p,s,l24,x25,y56=>if y56=true then (if 0<=x25/\x25<(x.f1.length:Int) then (if ((l24.length:Int)+((1:Nat):Int)) * 32<=140737488355328 then (qh.l27 k x y p s (l24++[(nth qG.z x.f1 x25)]) (w64 (x25+1))) else (none)) else (none)) else (qh.l27 k x y p s l24 (w64 (x25+1)))
def qh.j106:Nat->Int->List qG->Option qC
 | 0,_,_=>none
 | k+1,s,l104=>some (⟨s,l104⟩:qC)
end
theorem qh.l27_s k x y p s l24 x25:type_of% (qh.l27.eq_2 x y p s l24 x25 k):=qh.l27.eq_2 x y p s l24 x25 k
theorem qh.j58_s k x y p s l24 x25 y56:type_of% (qh.j58.eq_2 x y p s l24 x25 y56 k):=qh.j58.eq_2 x y p s l24 x25 y56 k
theorem qh.j106_s k s l104:type_of% (qh.j106.eq_2 s l104 k):=qh.j106.eq_2 s l104 k
def qh.f(k:Nat)(x:qC)(y:List Int)(z:List Int)(p:Int)(s:Int):Option qC:=(qAE.f k y z).bind fun t9=>(if t9=true then (some x) else (qh.l27 k x y p s ([]:List qG) 0))
def qh.Post(W F:World)(r:qC)(v:Value)(w':World):Prop:=∃(F':World)(RA0_1:OA)(rc0_1:Nat),v = .agg #[iv r.f0,.slice RA0_1 r.f1.length rc0_1]/\Sm W F w' F' []/\Rd qG.k F' RA0_1 rc0_1 r.f1
theorem qh.calls(k:Nat)(x:qC)(y:List Int)(z:List Int)(p:Int)(s:Int)(A0_1:OA)(c0_1:Nat)(A1_0:OA)(c1_0:Nat)(A2_0:OA)(c2_0:Nat)(r:qC)(W F:World)(hown:Sub F W)(g0_1:Rd qG.k F A0_1 c0_1 x.f1)(g1_0:Rd ki F A1_0 c1_0 y)(g2_0:Rd ki F A2_0 c2_0 z)(H:qh.f k x y z p s=some r):
    Cr 48 #[.agg #[iv x.f0,.slice A0_1 x.f1.length c0_1],.slice A1_0 y.length c1_0,.slice A2_0 z.length c2_0,iv p,iv s] W (qh.Post W F r):=by
 have S:=sT hown
 unfold qh.f at H
 refine ent 64 rfl rfl rfl fun a E=>?_
 refine sq fun K1 hK1=>pl0 (plx (t:=73) E S [iv x.f0,.slice A0_1 x.f1.length c0_1] fun b2 u3 hb2 S a E=>pla (t:=73) E S [iv 0,.slice none 0 0] fun b4 u5 hb4 S a E=>pld (hK1 _ _ (sq fun K6 hK6=>sq fun K7 hK7=>pl0 (plc E (.r 0 2 .nil) fun a E=>?_))))
 obtain ⟨t9,h10,H⟩:=bd H
 refine plq E S en23 (qAE.calls k y z _ _ _ _ _ _ _ S.own.sub g1_0 g2_0 h10) fun u8 S a E=>pld (hK7 _ _ (E.ib 15 H (fun c11 E H=>?_) fun c11 E H=>?_))
 refine sq fun K12 hK12=>pl0 (plc E (.bn 0 0 2 (S.ba 1) .nil) fun a E=>pls E S [iv x.f0,.slice A0_1 x.f1.length c0_1] fun u13 hb4 S a E=>pld (hK12 _ _ (wp_ret (qCc ?_))))
 have S:=S.pm [] 2
 obtain rfl:=si H
 exact ret1 E rfl (.cell (by kernel_rfl) (qCw [iv x.f0,.slice A0_1 x.f1.length c0_1] ag73 sz73 hb4 rfl) .nil) ⟨_,rfl,_,_,_,rfl,S,g0_1⟩
 refine wp_skip (hK6 _ _ (sq fun K14 hK14=>pl0 (ple E (.lit (d:=qG.k) (e:=77) S ([]:List qG) (.nil)) ?_)))
 rintro _ u15 a ⟨A16,c17,rfl,S,hg⟩ E
 refine plc E (.r 1 1 .nil) fun a E=>pld (hK14 _ _ (sq fun K19 hK19=>rr E fun a E=>(wp_block ?_)))
 have S:=S.pm [1,2,0] 3
 refine wp_loop_ghost (fun kq28 a w'=>∃(G:NV)(A22:OA)(c23:Nat)(l24:List qG)(x25:Int)(F26:World),kq28<=k/\Env 64 G a/\At G [(1,.slice A1_0 y.length c1_0),(3,iv p),(4,iv s),(5,.pointer (pb b2)),(10,.pointer (pb b4)),(11,.slice A22 l24.length c23),(12,iv x25)]/\Sm W F w' F26 [box b4 #[iv 0,.slice none 0 0] 73,box b2 #[iv x.f0,.slice A0_1 x.f1.length c0_1] 73,row qG.k 77 (.slice A22 l24.length c23) l24]/\Rd ki F26 A1_0 c1_0 y/\Rd qG.k F26 A0_1 c0_1 x.f1/\qh.l27 kq28 x y p s l24 x25=some r) k ⟨_,A16,c17,([]:List qG),0,F,Nat.le_refl _,E,.of,S,g1_0,g0_1,H⟩ ?_
 rintro kq28 a u30 ⟨G,A22,c23,l24,x25,F26,hkq,E,A,S,g1_0,g0_1,H⟩
 obtain _ | k29:=kq28
 exact zz H
 rw [qh.l27_s]at H
 obtain ⟨J,E⟩:=E.at A
 refine sq fun K31 hK31=>sq fun K32 hK32=>pl0 ?_
 have hb2:=S.ba 1
 refine plc E (.r 0 2<|.b 2 1 hb2<|.r 3 2<|.nil) fun a E=>pld (hK32 _ _ (E.ik 22 H (fun c33 E H=>?_) fun c33 E H=>?_))
 refine wp_skip (hK31 _ _ (sq fun K34 hK34=>wp_block (sq fun K35 hK35=>?_)))
 have J61:∀ kq59,kq59<=k29->∀(G:NV)(y56:Bool)(F57:World)(a:Act)(w':World),Env 64 G a->At G [(1,.slice A1_0 y.length c1_0),(3,iv p),(4,iv s),(5,.pointer (pb b2)),(10,.pointer (pb b4)),(11,.slice A22 l24.length c23),(12,iv x25),(40,.bool y56)]->Sm W F w' F57 [box b4 #[iv 0,.slice none 0 0] 73,box b2 #[iv x.f0,.slice A0_1 x.f1.length c0_1] 73,row qG.k 77 (.slice A22 l24.length c23) l24]->Rd ki F57 A1_0 c1_0 y->Rd qG.k F57 A0_1 c0_1 x.f1->qh.j58 kq59 x y p s l24 x25 y56=some r->K35 a w':=by
  intro kq59 hkq G y56 F57 a u62 E A S g1_0 g0_1 H
  obtain _ | k60:=kq59
  exact zz H
  rw [qh.j58_s]at H
  obtain ⟨J,E⟩:=E.at A
  refine hK35 _ _ (E.ib 40 H (fun c63 E H=>?_) fun c63 E H=>?_)
  refine pl0 ?_
  have hb2:=S.ba 1
  obtain ⟨c64,H⟩:=gd H
  have hE_:=E
  obtain ⟨ad65,rfl⟩:=g0_1.addr c64.1 c64.2
  replace E:=hE_
  obtain ⟨cs67,⟨A69,c70,rfl,g71⟩,hc68⟩:=g0_1.el qG.z x25 c64.1 c64.2
  refine plc E (.r 0 2<|.b 2 1 hb2<|.r 3 1<|.x 4 c64<|.cs 5 (S.fcs hc68)<|.nil) fun a E=>ple E (.lit (d:=qG.k) (e:=77) S [(nth qG.z x.f1 x25)] (.cons ⟨_,_,rfl,g71⟩ .nil)) ?_
  rintro _ u72 a ⟨A73,c74,rfl,S,hg⟩ E
  obtain ⟨c76,H⟩:=gd H
  have S:=S.front 3 rfl
  refine ple E (.ap (d:=qG.k) 32 S (qCj (S.row_at (i:=1) rfl)) c76 c74) ?_
  rintro _ u79 a ⟨A77,c78,rfl,S,hz⟩ E
  refine plc E (.r 8 1 .nil) fun a E=>pld ?_
  refine qCe ?_
  refine hK34 _ _ (pl0 (plc E (.r 0 3 .nil) fun a E=>pld ?_))
  have S:=S.pm [2,3,0] 4
  exact qCf ⟨k60,by omega,_,A77,c78,(l24++[(nth qG.z x.f1 x25)]),(w64 (x25+1)),F57,by omega,E,.of,S,g1_0,g0_1,H⟩
  refine wp_skip ?_
  refine qCe ?_
  refine hK34 _ _ (pl0 (plc E (.r 0 3 .nil) fun a E=>pld ?_))
  exact qCf ⟨k60,by omega,_,A22,c23,l24,(w64 (x25+1)),F57,by omega,E,.of,S,g1_0,g0_1,H⟩
 refine drawn 16 ⟨[],[],fun q=>False⟩ mixed rfl (by kernel_rfl) fun hst=>?_
 have S:=S.drew
 refine mny 11 hst E (.r 0 5 .nil) fun a E=>?_
 refine E.fk 29 H (fun c36 E H=>?_) fun c36 E H=>?_
 refine mny 0 hst E (.r 5 11 .nil) fun a E=>?_
 refine dn ?_
 exact J61 _ (by omega) _ true F26 _ _ E .of S g1_0 g0_1 H
 have hb2:=S.ba 1
 obtain ⟨c37,H⟩:=gd H
 have hE_:=E
 obtain ⟨ad38,rfl⟩:=g0_1.addr c37.1 c37.2
 replace E:=hE_
 obtain ⟨cs40,⟨A42,c43,rfl,g44⟩,hc41⟩:=g0_1.el qG.z x25 c37.1 c37.2
 refine mny 4 hst E (.r 5 1<|.b 6 1 hb2<|.r 7 1<|.x 8 c37<|.r 9 1<|.c 10 (S.fc hc41 1)<|.r 11 1<|.nil) fun a E=>?_
 obtain ⟨t46,h47,H⟩:=bd H
 refine on1 12 E (.cl en78 (qf.calls k29 y _ _ _ _ _ S.own.sub g1_0 h47)) ?_
 rintro _ u45 a ⟨F48,A49,c50,rfl,hC⟩ E
 refine ⟨.of hC.agr,?_⟩
 have hs:=hC.sub
 have S:=S.called (X:=[]) hC
 have g1_0:=g1_0.mono hs
 have g0_1:=g0_1.mono hs
 have g44:=g44.mono hs
 obtain ⟨t54,h55,H⟩:=bd H
 refine on1 13 E (.cl en23 (qAE.calls k29 ((nth qG.z x.f1 x25).f1) t46 _ _ _ _ _ _ _ (Sub.refl _) (g44.mono S.own.sub) (S.rd_at (i:=0) rfl) h55)) ?_
 rintro _ u53 a ⟨_,rfl,hC⟩ E
 refine ⟨.of hC.agr,?_⟩
 have S:=S.lent hC
 refine mny 0 hst E (.r 14 2 .nil) fun a E=>?_
 refine dn ?_
 have S:=S.tail
 exact J61 _ (by omega) _ (!t54) F48 _ _ E .of S g1_0 g0_1 H
 refine wp_exit ?_
 refine hK19 _ _ (sq fun K80 hK80=>?_)
 have J109:∀ kq107,kq107<=k29->∀(G:NV)(A102:OA)(c103:Nat)(l104:List qG)(F105:World)(a:Act)(w':World),Env 64 G a->At G [(4,iv s),(10,.pointer (pb b4)),(11,.slice A102 l104.length c103)]->Sm W F w' F105 [box b4 #[iv 0,.slice none 0 0] 73,box b2 #[iv x.f0,.slice A0_1 x.f1.length c0_1] 73,row qG.k 77 (.slice A102 l104.length c103) l104]->Rd qG.k F105 A0_1 c0_1 x.f1->qh.j106 kq107 s l104=some r->K80 a w':=by
  intro kq107 hkq G A102 c103 l104 F105 a u110 E A S g0_1 H
  obtain _ | k108:=kq107
  exact zz H
  rw [qh.j106_s]at H
  obtain ⟨J,E⟩:=E.at A
  refine hK80 _ _ (sq fun K111 hK111=>pl0 (plc E (.r 0 3 .nil) fun a E=>pls E S [iv s,.slice A102 l104.length c103] fun u112 hb4 S a E=>pld (hK111 _ _ (wp_ret ?_))))
  have S:=S.front 2 rfl
  obtain ⟨F113,hs,g114,S⟩:=S.give
  have g0_1:=g0_1.mono hs
  have S:=S.pm [] 2
  obtain rfl:=si H
  exact ret1 E rfl (.cell (by kernel_rfl) (qCw [iv s,.slice A102 l104.length c103] ag73 sz73 hb4 rfl) .nil) ⟨_,rfl,_,_,_,rfl,S,g114⟩
 refine rr E fun a E=>(E.ik 52 H (fun c82 E H=>?_) fun c82 E H=>?_)
 refine drawn 9 ⟨[7],[],fun q=>False⟩ mixed rfl (by kernel_rfl) fun hst=>?_
 have S:=S.drew
 have hb2:=S.ba 1
 refine mny 5 hst E (.r 0 2<|.b 2 0 hb2<|.r 3 1<|.nil) fun a E=>?_
 obtain ⟨t84,h85,H⟩:=bd H
 refine on1 4 E (.cl en78 (qf.calls k29 y _ _ _ _ _ S.own.sub g1_0 h85)) ?_
 rintro _ u83 a ⟨F86,A87,c88,rfl,hC⟩ E
 refine ⟨.of hC.agr,?_⟩
 have hs:=hC.sub
 have S:=S.called (X:=[]) hC
 have g0_1:=g0_1.mono hs
 refine mny 3 hst E (.r 5 1 .nil) fun a E=>?_
 obtain ⟨F94,hs,g95,S⟩:=S.give
 have g0_1:=g0_1.mono hs
 refine on1 6 E (.lit (d:=qG.k) (e:=77) S [(⟨x.f0,t84⟩:qG)] (.cons ⟨_,_,rfl,g95⟩ .nil)) ?_
 rintro _ u91 a ⟨A92,c93,rfl,S,hg⟩ E
 refine ⟨.of hg,?_⟩
 obtain ⟨c97,H⟩:=gd H
 have S:=S.front 3 rfl
 refine on1 7 E (.ap (d:=qG.k) 32 S (qCj (S.row_at (i:=1) rfl)) c97 c93) ?_
 rintro _ u100 a ⟨A98,c99,rfl,S,hz⟩ E
 refine ⟨.d,?_⟩
 refine mny 0 hst E (.r 8 1 .nil) fun a E=>?_
 refine dn ?_
 have S:=S.pm [2,3,0] 4
 exact J109 _ (by omega) _ A98 c99 (l24++[(⟨x.f0,t84⟩:qG)]) F94 _ _ E .of S g0_1 H
 refine wp_skip ?_
 exact J109 _ (by omega) _ A22 c23 l24 F26 _ _ E .of S g0_1 H
mutual
def qt.j24:Nat->qD->qF->Bool->Option (qD × Int)
 | 0,_,_,_=>none
 | k+1,x,y,y22=>if y22=true then (some (x,1)) else (if x.f0=2147483647 then (some (x,6)) else ((qH.f k x y).bind fun t39=>(if t39.2=0 then (qt.l72 k x t39 ([]:List qC) 0) else (some (x,t39.2)))))
def qt.l72:Nat->qD->qD × Int->List qC->Int->Option (qD × Int)
 | 0,_,_,_,_=>none
 | k+1,x,t39,l69,x70=>if x70<x.f3 then (if 0<=x70/\x70<(t39.1.f6.length:Int) then ((qAI.f k x x70).bind fun t89=>((qAI.f k t39.1 x70).bind fun t97=>((qh.f k (nth qC.z t39.1.f6 x70) t89 t97 x.f2 (w64 (x.f0+1))).bind fun t109=>(if ((l69.length:Int)+((1:Nat):Int)) * 32<=140737488355328 then (qt.l72 k x t39 (l69++[t109]) (w64 (x70+1))) else (none))))) else (none)) else (some ((⟨(w64 (t39.1.f0+1)),t39.1.f1,t39.1.f2,t39.1.f3,t39.1.f4,t39.1.f5,l69⟩:qD),0))
end
theorem qt.j24_s k x y y22:type_of% (qt.j24.eq_2 x y y22 k):=qt.j24.eq_2 x y y22 k
theorem qt.l72_s k x t39 l69 x70:type_of% (qt.l72.eq_2 x t39 l69 x70 k):=qt.l72.eq_2 x t39 l69 x70 k
def qt.f(k:Nat)(x:qD)(y:qF):Option (qD × Int):=if y.f0<1 then (qt.j24 k x y true) else (if y.f0>10 then (qt.j24 k x y true) else ((qBU.f y).bind fun t13=>((qBM.f k y t13).bind fun t20=>(qt.j24 k x y (!t20)))))
def qt.Post(W F:World)(r:qD × Int)(v:Value)(w':World):Prop:=∃(F':World)(RA0_4:OA)(rc0_4:Nat)(RA0_5:OA)(rc0_5:Nat)(RA0_6:OA)(rc0_6:Nat),v = .tuple #[.agg (mA r.1 RA0_4 rc0_4 RA0_5 rc0_5 RA0_6 rc0_6),iv r.2]/\Sm W F w' F' []/\Rd qA.k F' RA0_4 rc0_4 r.1.f4/\Rd qE.k F' RA0_5 rc0_5 r.1.f5/\Rd qC.k F' RA0_6 rc0_6 r.1.f6
theorem qt.calls(k:Nat)(x:qD)(y:qF)(A0_4:OA)(c0_4:Nat)(A0_5:OA)(c0_5:Nat)(A0_6:OA)(c0_6:Nat)(A1_6:OA)(c1_6:Nat)(r:qD × Int)(W F:World)(hown:Sub F W)(g0_4:Rd qA.k F A0_4 c0_4 x.f4)(g0_5:Rd qE.k F A0_5 c0_5 x.f5)(g0_6:Rd qC.k F A0_6 c0_6 x.f6)(g1_6:Rd ki F A1_6 c1_6 y.f6)(H:qt.f k x y=some r):
    Cr 14 #[.agg (mA x A0_4 c0_4 A0_5 c0_5 A0_6 c0_6),.agg (dA y A1_6 c1_6)] W (qt.Post W F r):=by
 have S:=sT hown
 unfold qt.f at H
 refine ent 74 rfl rfl rfl fun a E=>?_
 refine sq fun K1 hK1=>pl0 (plx (t:=26) E S (mL x A0_4 c0_4 A0_5 c0_5 A0_6 c0_6) fun b2 u3 hb2 S a E=>plx (t:=29) E S (dL y A1_6 c1_6) fun b4 u5 hb4 S a E=>pla (t:=26) E S [iv 0,iv 0,iv 0,iv 0,.slice none 0 0,.slice none 0 0,.slice none 0 0] fun b6 u7 hb6 S a E=>plc E (.r 3 1 .nil) fun a E=>pld (hK1 _ _ (sq fun K8 hK8=>sq fun K9 hK9=>?_)))
 have J27:∀ kq25,kq25<=k->∀(G:NV)(y22:Bool)(F23:World)(a:Act)(w':World),Env 74 G a->At G [(2,.pointer (pb b2)),(3,.pointer (pb b4)),(4,.pointer (pb b6)),(24,.bool y22)]->Sm W F w' F23 [box b6 #[iv 0,iv 0,iv 0,iv 0,.slice none 0 0,.slice none 0 0,.slice none 0 0] 26,box b4 (dA y A1_6 c1_6) 29,box b2 (mA x A0_4 c0_4 A0_5 c0_5 A0_6 c0_6) 26]->Rd ki F23 A1_6 c1_6 y.f6->Rd qA.k F23 A0_4 c0_4 x.f4->Rd qE.k F23 A0_5 c0_5 x.f5->Rd qC.k F23 A0_6 c0_6 x.f6->qt.j24 kq25 x y y22=some r->K9 a w':=by
  intro kq25 hkq G y22 F23 a u28 E A S g1_6 g0_4 g0_5 g0_6 H
  obtain _ | k26:=kq25
  exact zz H
  rw [qt.j24_s]at H
  obtain ⟨J,E⟩:=E.at A
  refine hK9 _ _ (E.ib 24 H (fun c29 E H=>?_) fun c29 E H=>?_)
  refine sq fun K30 hK30=>pl0 (plc E (.bn 0 0 7 (S.ba 2) .nil) fun a E=>pls E S (mL x A0_4 c0_4 A0_5 c0_5 A0_6 c0_6) fun u31 hb6 S a E=>plc E (.r 2 1 .nil) fun a E=>pld (hK30 _ _ (wp_ret (qCc ?_))))
  have S:=S.pm [] 3
  obtain rfl:=si H
  exact rtm E (.b hb6 ag26 sz26 (.t .nil)) ⟨_,rfl,_,_,_,_,_,_,_,rfl,S,g0_4,g0_5,g0_6⟩
  refine wp_skip (hK8 _ _ (sq fun K32 hK32=>sq fun K33 hK33=>pl0 ?_))
  have hb2:=S.ba 2
  refine plc E (.r 0 1<|.b 1 0 hb2<|.r 2 1<|.nil) fun a E=>pld (hK33 _ _ (E.ik 28 H (fun c34 E H=>?_) fun c34 E H=>?_))
  refine sq fun K35 hK35=>pl0 (plc E (.bn 0 0 7 hb2 .nil) fun a E=>pls E S (mL x A0_4 c0_4 A0_5 c0_5 A0_6 c0_6) fun u36 hb6 S a E=>plc E (.r 2 1 .nil) fun a E=>pld (hK35 _ _ (wp_ret (qCc ?_))))
  have S:=S.pm [] 3
  obtain rfl:=si H
  exact rtm E (.b hb6 ag26 sz26 (.t .nil)) ⟨_,rfl,_,_,_,_,_,_,_,rfl,S,g0_4,g0_5,g0_6⟩
  refine wp_skip (hK32 _ _ (sq fun K37 hK37=>pl0 (plc E (.bn 0 0 7 hb2<|.bn 1 0 7 (S.ba 1)<|.nil) fun a E=>?_)))
  obtain ⟨t39,h40,H⟩:=bd H
  refine ple E (.cl en47 (qH.calls k26 x y _ _ _ _ _ _ _ _ _ _ _ S.own.sub g0_4 g0_5 g0_6 g1_6 h40)) ?_
  rintro _ u38 a ⟨F41,A42,c43,A45,c46,A48,c49,rfl,hC,g44,g47,g50⟩ E
  have hs:=hC.sub
  have S:=S.called (X:=[]) hC
  have g0_4:=g0_4.mono hs
  have g0_5:=g0_5.mono hs
  have g0_6:=g0_6.mono hs
  have g1_6:=g1_6.mono hs
  refine plc E (.r 3 3 .nil) fun a E=>pla (t:=26) E S [iv 0,iv 0,iv 0,iv 0,.slice none 0 0,.slice none 0 0,.slice none 0 0] fun b51 u52 hb51 S a E=>pls E S (mL t39.1 A42 c43 A45 c46 A48 c49) fun u53 hb51 S a E=>plc E (.r 8 1 .nil) fun a E=>pld (hK37 _ _ (sq fun K54 hK54=>rr E fun a E=>(E.ikn 37 H (fun c56 E H=>?_) fun c56 E H=>?_)))
  refine wp_skip (hK54 _ _ (sq fun K59 hK59=>pl0 (ple E (.lit (d:=qC.k) (e:=73) S ([]:List qC) (.nil)) ?_)))
  rintro _ u60 a ⟨A61,c62,rfl,S,hg⟩ E
  refine plc E (.r 1 1 .nil) fun a E=>pld (hK59 _ _ (sq fun K64 hK64=>rr E fun a E=>(wp_block ?_)))
  have S:=S.pm [1,2,3,4,0] 5
  refine wp_loop_ghost (fun kq73 a w'=>∃(G:NV)(A67:OA)(c68:Nat)(l69:List qC)(x70:Int)(F71:World),kq73<=k26/\Env 74 G a/\At G [(2,.pointer (pb b2)),(4,.pointer (pb b6)),(6,.pointer (pb b51)),(8,.slice A67 l69.length c68),(9,iv x70)]/\Sm W F w' F71 [box b51 (mA t39.1 A42 c43 A45 c46 A48 c49) 26,box b6 #[iv 0,iv 0,iv 0,iv 0,.slice none 0 0,.slice none 0 0,.slice none 0 0] 26,box b4 (dA y A1_6 c1_6) 29,box b2 (mA x A0_4 c0_4 A0_5 c0_5 A0_6 c0_6) 26,row qC.k 73 (.slice A67 l69.length c68) l69]/\Rd qA.k F71 A42 c43 t39.1.f4/\Rd qE.k F71 A45 c46 t39.1.f5/\Rd qC.k F71 A48 c49 t39.1.f6/\Rd ki F71 A1_6 c1_6 y.f6/\Rd qA.k F71 A0_4 c0_4 x.f4/\Rd qE.k F71 A0_5 c0_5 x.f5/\Rd qC.k F71 A0_6 c0_6 x.f6/\qt.l72 kq73 x t39 l69 x70=some r) k26 ⟨_,A61,c62,([]:List qC),0,F41,Nat.le_refl _,E,.of,S,g44,g47,g50,g1_6,g0_4,g0_5,g0_6,H⟩ ?_
  rintro kq73 a u75 ⟨G,A67,c68,l69,x70,F71,hkq,E,A,S,g44,g47,g50,g1_6,g0_4,g0_5,g0_6,H⟩
  obtain _ | k74:=kq73
  exact zz H
  rw [qt.l72_s]at H
  obtain ⟨J,E⟩:=E.at A
  refine sq fun K76 hK76=>sq fun K77 hK77=>pl0 ?_
  have hb2:=S.ba 3
  refine plc E (.r 0 2<|.b 2 3 hb2<|.r 3 1<|.nil) fun a E=>pld (hK77 _ _ (E.ik 44 H (fun c78 E H=>?_) fun c78 E H=>?_))
  refine wp_skip (hK76 _ _ (sq fun K79 hK79=>wp_block ?_))
  refine drawn 21 ⟨[19],[],fun q=>False⟩ mixed rfl (by kernel_rfl) fun hst=>?_
  have S:=S.drew
  have hb51:=S.ba 0
  obtain ⟨c80,H⟩:=gd H
  have hE_:=E
  obtain ⟨ad81,rfl⟩:=g50.addr c80.1 c80.2
  replace E:=hE_
  obtain ⟨cs83,⟨A85,c86,rfl,g87⟩,hc84⟩:=g50.el qC.z x70 c80.1 c80.2
  have hb2:=S.ba 3
  refine mny 6 hst E (.r 0 2<|.b 2 6 hb51<|.r 3 1<|.x 4 c80<|.cs 5 (S.fcs hc84)<|.bn 6 0 7 hb2<|.r 7 1<|.bn 9 0 7 hb51<|.r 10 1<|.r 12 1<|.b 13 2 hb2<|.r 14 1<|.b 15 0 hb2<|.r 16 1<|.nil) fun a E=>?_
  obtain ⟨t89,h90,H⟩:=bd H
  refine on1 8 E (.cl en16 (qAI.calls k74 x x70 _ _ _ _ _ _ _ _ _ S.own.sub g0_4 g0_5 g0_6 h90)) ?_
  rintro _ u88 a ⟨F91,A92,c93,rfl,hC⟩ E
  refine ⟨.of hC.agr,?_⟩
  have hs:=hC.sub
  have S:=S.called (X:=[]) hC
  have g50:=g50.mono hs
  have g87:=g87.mono hs
  have g0_4:=g0_4.mono hs
  have g0_5:=g0_5.mono hs
  have g0_6:=g0_6.mono hs
  have g44:=g44.mono hs
  have g47:=g47.mono hs
  have g1_6:=g1_6.mono hs
  obtain ⟨t97,h98,H⟩:=bd H
  refine on1 11 E (.cl en16 (qAI.calls k74 t39.1 x70 _ _ _ _ _ _ _ _ _ S.own.sub g44 g47 g50 h98)) ?_
  rintro _ u96 a ⟨F99,A100,c101,rfl,hC⟩ E
  refine ⟨.of hC.agr,?_⟩
  have hs:=hC.sub
  have S:=S.called (X:=[]) hC
  have g50:=g50.mono hs
  have g87:=g87.mono hs
  have g0_4:=g0_4.mono hs
  have g0_5:=g0_5.mono hs
  have g0_6:=g0_6.mono hs
  have g44:=g44.mono hs
  have g47:=g47.mono hs
  have g1_6:=g1_6.mono hs
  have S:=S.front 1 rfl
  obtain ⟨F104,hs,g105,S⟩:=S.give
  have g50:=g50.mono hs
  have g87:=g87.mono hs
  have g0_4:=g0_4.mono hs
  have g0_5:=g0_5.mono hs
  have g0_6:=g0_6.mono hs
  have g44:=g44.mono hs
  have g47:=g47.mono hs
  have g1_6:=g1_6.mono hs
  obtain ⟨F106,hs,g107,S⟩:=S.give
  have g50:=g50.mono hs
  have g87:=g87.mono hs
  have g0_4:=g0_4.mono hs
  have g0_5:=g0_5.mono hs
  have g0_6:=g0_6.mono hs
  have g105:=g105.mono hs
  have g44:=g44.mono hs
  have g47:=g47.mono hs
  have g1_6:=g1_6.mono hs
  obtain ⟨t109,h110,H⟩:=bd H
  refine on1 17 E (.cl en48 (qh.calls k74 (nth qC.z t39.1.f6 x70) t89 t97 x.f2 (w64 (x.f0+1)) _ _ _ _ _ _ _ _ _ S.own.sub g87 g105 g107 h110)) ?_
  rintro _ u108 a ⟨F111,A112,c113,rfl,hC,g114⟩ E
  refine ⟨.of hC.agr,?_⟩
  have hs:=hC.sub
  have S:=S.called (X:=[]) hC
  have g50:=g50.mono hs
  have g0_4:=g0_4.mono hs
  have g0_5:=g0_5.mono hs
  have g0_6:=g0_6.mono hs
  have g44:=g44.mono hs
  have g47:=g47.mono hs
  have g1_6:=g1_6.mono hs
  refine on1 18 E (.lit (d:=qC.k) (e:=73) S [t109] (.cons ⟨_,_,rfl,g114⟩ .nil)) ?_
  rintro _ u115 a ⟨A116,c117,rfl,S,hg⟩ E
  refine ⟨.of hg,?_⟩
  obtain ⟨c119,H⟩:=gd H
  have S:=S.front 5 rfl
  refine on1 19 E (.ap (d:=qC.k) 32 S (qCj (S.row_at (i:=1) rfl)) c119 c117) ?_
  rintro _ u122 a ⟨A120,c121,rfl,S,hz⟩ E
  refine ⟨.d,?_⟩
  refine mny 0 hst E (.r 20 1 .nil) fun a E=>?_
  refine dn ?_
  refine qCe ?_
  refine hK79 _ _ (pl0 (plc E (.r 0 3 .nil) fun a E=>pld ?_))
  have S:=S.pm [2,3,4,5,0] 6
  exact qCf ⟨k74,by omega,_,A120,c121,(l69++[t109]),(w64 (x70+1)),F111,by omega,E,.of,S,g44,g47,g50,g1_6,g0_4,g0_5,g0_6,H⟩
  refine wp_exit ?_
  refine hK64 _ _ (sq fun K123 hK123=>pl0 (plc E (.r 0 2 .nil) fun a E=>pls E S [iv t39.1.f0,iv t39.1.f1,iv t39.1.f2,iv t39.1.f3,.slice A42 t39.1.f4.length c43,.slice A45 t39.1.f5.length c46,.slice A67 l69.length c68] fun u124 hb51 S a E=>pld (hK123 _ _ (sq fun K125 hK125=>pl0 (plc E (.r 0 1<|.b 1 0 hb51<|.r 2 2<|.nil) fun a E=>pls E S [iv (w64 (t39.1.f0+1)),iv t39.1.f1,iv t39.1.f2,iv t39.1.f3,.slice A42 t39.1.f4.length c43,.slice A45 t39.1.f5.length c46,.slice A67 l69.length c68] fun u126 hb51 S a E=>pld (hK125 _ _ (sq fun K127 hK127=>pl0 (plc E (.bn 0 0 7 hb51 .nil) fun a E=>?_))))))))
  have S:=S.front 1 rfl
  refine pls E S [iv (w64 (t39.1.f0+1)),iv t39.1.f1,iv t39.1.f2,iv t39.1.f3,.slice A42 t39.1.f4.length c43,.slice A45 t39.1.f5.length c46,.slice A67 l69.length c68] fun u128 hb6 S a E=>plc E (.r 2 1 .nil) fun a E=>pld (hK127 _ _ (wp_ret ?_))
  have S:=S.front 4 rfl
  obtain ⟨F129,hs,g130,S⟩:=S.give
  have g44:=g44.mono hs
  have g47:=g47.mono hs
  have g1_6:=g1_6.mono hs
  have g0_4:=g0_4.mono hs
  have g0_5:=g0_5.mono hs
  have g0_6:=g0_6.mono hs
  have S:=S.pm [] 4
  obtain rfl:=si H
  exact rtm E (.b hb6 ag26 sz26 (.t .nil)) ⟨_,rfl,_,_,_,_,_,_,_,rfl,S,g44,g47,g130⟩
  refine sq fun K57 hK57=>pl0 (plc E (.bn 0 0 7 (S.ba 3)<|.r 1 1<|.nil) fun a E=>?_)
  have S:=S.front 1 rfl
  refine pls E S (mL x A0_4 c0_4 A0_5 c0_5 A0_6 c0_6) fun u58 hb6 S a E=>plc E (.r 3 1 .nil) fun a E=>pld (hK57 _ _ (wp_ret (qCc ?_)))
  have S:=S.pm [] 4
  obtain rfl:=si H
  exact rtm E (.b hb6 ag26 sz26 (.t .nil)) ⟨_,rfl,_,_,_,_,_,_,_,rfl,S,g0_4,g0_5,g0_6⟩
 refine drawn 15 ⟨[],[],fun q=>False⟩ mixed rfl (by kernel_rfl) fun hst=>?_
 have S:=S.drew
 have hb4:=S.ba 1
 refine mny 11 hst E (.r 0 1<|.b 1 0 hb4<|.r 2 2<|.nil) fun a E=>?_
 refine E.fk 13 H (fun c10 E H=>?_) fun c10 E H=>?_
 refine mny 0 hst E (.r 4 11 .nil) fun a E=>?_
 refine dn ?_
 exact J27 _ (by omega) _ true F _ _ E .of S g1_6 g0_4 g0_5 g0_6 H
 refine mny 6 hst E (.r 4 1<|.b 5 0 hb4<|.r 6 3<|.nil) fun a E=>?_
 refine E.fk 18 H (fun c11 E H=>?_) fun c11 E H=>?_
 refine mny 0 hst E (.r 9 6 .nil) fun a E=>?_
 refine dn ?_
 exact J27 _ (by omega) _ true F _ _ E .of S g1_6 g0_4 g0_5 g0_6 H
 refine mny 4 hst E (.bn 9 0 7 hb4<|.bn 10 0 7 hb4<|.nil) fun a E=>?_
 obtain ⟨t13,h14,H⟩:=bd H
 refine on1 11 E (.cl en46 (qBU.calls y _ _ _ _ _ S.own.sub g1_6 h14)) ?_
 rintro _ u12 a ⟨F15,A16,c17,rfl,hC,g18⟩ E
 refine ⟨.of hC.agr,?_⟩
 have hs:=hC.sub
 have S:=S.called (X:=[]) hC
 have g0_4:=g0_4.mono hs
 have g0_5:=g0_5.mono hs
 have g0_6:=g0_6.mono hs
 have g1_6:=g1_6.mono hs
 obtain ⟨t20,h21,H⟩:=bd H
 refine on1 12 E (.cl en27 (qBM.calls k y t13 _ _ _ _ _ _ _ S.own.sub g1_6 g18 h21)) ?_
 rintro _ u19 a ⟨_,rfl,hC⟩ E
 refine ⟨.of hC.agr,?_⟩
 have S:=S.lent hC
 refine mny 0 hst E (.r 13 2 .nil) fun a E=>?_
 refine dn ?_
 exact J27 _ (by omega) _ (!t20) F15 _ _ E .of S g1_6 g0_4 g0_5 g0_6 H
def qCX.f(k:Nat)(x:Int)(y:Int)(z:Int):Option (qD × Int):=if 0<=(if (if 8<z then 8 else z)>0 then (if 8<z then 8 else z) else 0)/\(if (if 8<z then 8 else z)>0 then (if 8<z then 8 else z) else 0) * 32<=140737488355328 then ((qAF.f k (⟨0,x,y,z,[],[],(List.replicate ((if (if 8<z then 8 else z)>0 then (if 8<z then 8 else z) else 0)).toNat (qC.z:qC))⟩:qD)).bind fun t16=>(if t16=0 then (some ((⟨0,x,y,z,[],[],(List.replicate ((if (if 8<z then 8 else z)>0 then (if 8<z then 8 else z) else 0)).toNat (qC.z:qC))⟩:qD),0)) else (some ((⟨0,0,0,0,[],[],[]⟩:qD),t16)))) else (none)
def qCX.Post(W F:World)(r:qD × Int)(v:Value)(w':World):Prop:=∃(F':World)(RA0_4:OA)(rc0_4:Nat)(RA0_5:OA)(rc0_5:Nat)(RA0_6:OA)(rc0_6:Nat),v = .tuple #[.agg (mA r.1 RA0_4 rc0_4 RA0_5 rc0_5 RA0_6 rc0_6),iv r.2]/\Sm W F w' F' [row qC.k 73 (.slice RA0_6 r.1.f6.length rc0_6) r.1.f6]/\Rd qA.k F' RA0_4 rc0_4 r.1.f4/\Rd qE.k F' RA0_5 rc0_5 r.1.f5
theorem qCX.calls(k:Nat)(x:Int)(y:Int)(z:Int)(r:qD × Int)(W F:World)(hown:Sub F W)(H:qCX.f k x y z=some r):
    Cr 67 #[iv x,iv y,iv z] W (qCX.Post W F r):=by
 have S:=sT hown
 unfold qCX.f at H
 refine ent 25 rfl rfl rfl fun a E=>?_
 refine sq fun K1 hK1=>pl0 (pla (t:=26) E S [iv 0,iv 0,iv 0,iv 0,.slice none 0 0,.slice none 0 0,.slice none 0 0] fun b2 u3 hb2 S a E=>plc E (.r 1 1 .nil) fun a E=>pld (hK1 _ _ (sq fun K4 hK4=>pl0 (plc E (.r 0 6 .nil) fun a E=>?_))))
 obtain ⟨c5,H⟩:=gd H
 refine ple E (.mk (d:=qC.k) (e:=73) 32 qC.z S c5 (by rw [zr73]; exact ⟨none,0,rfl,Rd.nil _ _⟩)) ?_
 rintro _ u8 a ⟨A6,c7,rfl,S,hg⟩ E
 refine plc E (.r 7 1 .nil) fun a E=>pla (t:=26) E S [iv 0,iv 0,iv 0,iv 0,.slice none 0 0,.slice none 0 0,.slice none 0 0] fun b10 u11 hb10 S a E=>pls E S [iv 0,iv x,iv y,iv z,.slice none 0 0,.slice none 0 0,.slice A6 ((List.replicate ((if (if 8<z then 8 else z)>0 then (if 8<z then 8 else z) else 0)).toNat (qC.z:qC)).length) c7] fun u12 hb10 S a E=>pld (hK4 _ _ (sq fun K13 hK13=>sq fun K14 hK14=>pl0 (plc E (.bn 0 0 7 hb10 .nil) fun a E=>?_)))
 obtain ⟨t16,h17,H⟩:=bd H
 refine plq E S en65 (qAF.calls k (⟨0,x,y,z,[],[],(List.replicate ((if (if 8<z then 8 else z)>0 then (if 8<z then 8 else z) else 0)).toNat (qC.z:qC))⟩:qD) _ _ _ _ _ _ _ _ _ (Sub.refl _) (Rd.nil _ _) (Rd.nil _ _) (S.rd_at (i:=1) rfl) h17) fun u15 S a E=>plc E (.r 2 1 .nil) fun a E=>pld (hK14 _ _ (rr E fun a E=>(E.ikn 21 H (fun c19 E H=>?_) fun c19 E H=>?_)))
 refine wp_skip (hK13 _ _ (sq fun K23 hK23=>pl0 (plc E (.bn 0 0 7 (S.ba 0) .nil) fun a E=>?_)))
 have S:=S.front 2 rfl
 refine pls E S [iv 0,iv x,iv y,iv z,.slice none 0 0,.slice none 0 0,.slice A6 ((List.replicate ((if (if 8<z then 8 else z)>0 then (if 8<z then 8 else z) else 0)).toNat (qC.z:qC)).length) c7] fun u24 hb2 S a E=>plc E (.r 2 1 .nil) fun a E=>pld (hK23 _ _ (wp_ret ?_))
 have S:=S.pm [] 2
 obtain rfl:=si H
 exact rtm E (.b hb2 ag26 sz26 (.t .nil)) ⟨_,rfl,_,_,_,_,_,_,_,rfl,S,(Rd.nil _ _),(Rd.nil _ _)⟩
 refine sq fun K20 hK20=>pl0 (plc E (.r 0 2 .nil) fun a E=>?_)
 have S:=S.front 2 rfl
 refine pls E S [iv 0,iv 0,iv 0,iv 0,.slice none 0 0,.slice none 0 0,.slice none 0 0] fun u21 hb2 S a E=>plc E (.r 3 1 .nil) fun a E=>pld (hK20 _ _ (wp_ret (qCc ?_)))
 have S:=S.nilrow qC.k 73
 have S:=S.pm [0] 4
 obtain rfl:=si H
 exact rtm E (.b hb2 ag26 sz26 (.t .nil)) ⟨_,rfl,_,_,_,_,_,_,_,rfl,S,(Rd.nil _ _),(Rd.nil _ _)⟩
def qAv.l42:Nat->Int->Int->Int->Int->Int->Int->List qA->List qE->List qC->Option qD
 | 0,_,_,_,_,_,_,_,_,_=>none
 | k+1,x,x25,x26,x27,x28,x29,l32,l36,l40=>if x25<=x then ((qAz.f k (⟨x26,x27,x28,x29,l32,l36,l40⟩:qD) (⟨1,x25,x25,1,1,0,[]⟩:qF)).bind fun t54=>((qAz.f k t54.1 (⟨3,x25,0,0,0,0,[]⟩:qF)).bind fun t71=>(qAv.l42 k x (w64 (x25+1)) t71.1.f0 t71.1.f1 t71.1.f2 t71.1.f3 t71.1.f4 t71.1.f5 t71.1.f6))) else (some (⟨x26,x27,x28,x29,l32,l36,l40⟩:qD))
theorem qAv.l42_s k x x25 x26 x27 x28 x29 l32 l36 l40:type_of% (qAv.l42.eq_2 x x25 x26 x27 x28 x29 l32 l36 l40 k):=qAv.l42.eq_2 x x25 x26 x27 x28 x29 l32 l36 l40 k
def qAv.f(k:Nat)(x:Int)(y:Int):Option qD:=(qCX.f k 3 y 1).bind fun t6=>(qAv.l42 k x 1 t6.1.f0 t6.1.f1 t6.1.f2 t6.1.f3 t6.1.f4 t6.1.f5 t6.1.f6)
def qAv.Post(W F:World)(r:qD)(v:Value)(w':World):Prop:=∃(F':World)(RA0_4:OA)(rc0_4:Nat)(RA0_5:OA)(rc0_5:Nat)(RA0_6:OA)(rc0_6:Nat),v = .agg (mA r RA0_4 rc0_4 RA0_5 rc0_5 RA0_6 rc0_6)/\Sm W F w' F' [row qC.k 73 (.slice RA0_6 r.f6.length rc0_6) r.f6]/\Rd qA.k F' RA0_4 rc0_4 r.f4/\Rd qE.k F' RA0_5 rc0_5 r.f5
theorem qAv.calls(k:Nat)(x:Int)(y:Int)(r:qD)(W F:World)(hown:Sub F W)(H:qAv.f k x y=some r):
    Cr 37 #[iv x,iv y] W (qAv.Post W F r):=by
 have S:=sT hown
 unfold qAv.f at H
 refine ent 34 rfl rfl rfl fun a E=>?_
 refine sq fun K1 hK1=>pl0 (pla (t:=26) E S [iv 0,iv 0,iv 0,iv 0,.slice none 0 0,.slice none 0 0,.slice none 0 0] fun b2 u3 hb2 S a E=>pld (hK1 _ _ (sq fun K4 hK4=>pl0 (plc E (.r 0 1 .nil) fun a E=>?_))))
 obtain ⟨t6,h7,H⟩:=bd H
 refine ple E (.cl en67 (qCX.calls k 3 y 1 _ _ _ S.own.sub h7)) ?_
 rintro _ u5 a ⟨F8,A9,c10,A12,c13,A15,c16,rfl,hC,g11,g14⟩ E
 have hs:=hC.sub
 have S:=S.called (X:=[]) hC
 refine plc E (.r 2 3 .nil) fun a E=>pla (t:=26) E S [iv 0,iv 0,iv 0,iv 0,.slice none 0 0,.slice none 0 0,.slice none 0 0] fun b19 u20 hb19 S a E=>pls E S (mL t6.1 A9 c10 A12 c13 A15 c16) fun u21 hb19 S a E=>plc E (.r 7 1 .nil) fun a E=>pld (hK4 _ _ (sq fun K22 hK22=>rr E fun a E=>(wp_block ?_)))
 have S:=S.pm [0,2,1] 3
 refine wp_loop_ghost (fun kq43 a w'=>∃(G:NV)(x25:Int)(x26:Int)(x27:Int)(x28:Int)(x29:Int)(A30:OA)(c31:Nat)(l32:List qA)(A34:OA)(c35:Nat)(l36:List qE)(A38:OA)(c39:Nat)(l40:List qC)(F41:World),kq43<=k/\Env 34 G a/\At G [(0,iv x),(4,.pointer (pb b2)),(5,.pointer (pb b19)),(7,iv x25)]/\Sm W F w' F41 [box b19 #[iv x26,iv x27,iv x28,iv x29,.slice A30 l32.length c31,.slice A34 l36.length c35,.slice A38 l40.length c39] 26,box b2 #[iv 0,iv 0,iv 0,iv 0,.slice none 0 0,.slice none 0 0,.slice none 0 0] 26,row qC.k 73 (.slice A38 l40.length c39) l40]/\Rd qA.k F41 A30 c31 l32/\Rd qE.k F41 A34 c35 l36/\qAv.l42 kq43 x x25 x26 x27 x28 x29 l32 l36 l40=some r) k ⟨_,1,t6.1.f0,t6.1.f1,t6.1.f2,t6.1.f3,A9,c10,t6.1.f4,A12,c13,t6.1.f5,A15,c16,t6.1.f6,F8,Nat.le_refl _,E,.of,S,g11,g14,H⟩ ?_
 rintro kq43 a u45 ⟨G,x25,x26,x27,x28,x29,A30,c31,l32,A34,c35,l36,A38,c39,l40,F41,hkq,E,A,S,g33,g37,H⟩
 obtain _ | k44:=kq43
 exact zz H
 rw [qAv.l42_s]at H
 obtain ⟨J,E⟩:=E.at A
 refine sq fun K46 hK46=>rr E fun a E=>(E.ik 15 H (fun c48 E H=>?_) fun c48 E H=>?_)
 refine wp_skip (hK46 _ _ (sq fun K49 hK49=>wp_block (sq fun K50 hK50=>pl0 (plc E (.bn 0 0 7 (S.ba 0)<|.r 1 3<|.nil) fun a E=>?_))))
 have S:=S.front 2 rfl
 obtain ⟨F51,hs,g52,S⟩:=S.give
 have g33:=g33.mono hs
 have g37:=g37.mono hs
 obtain ⟨t54,h55,H⟩:=bd H
 refine ple E (.cl en39 (qAz.calls k44 (⟨x26,x27,x28,x29,l32,l36,l40⟩:qD) (⟨1,x25,x25,1,1,0,[]⟩:qF) _ _ _ _ _ _ _ _ _ _ _ S.own.sub g33 g37 g52 (Rd.nil _ _) h55)) ?_
 rintro _ u53 a ⟨F56,A57,c58,A60,c61,A63,c64,rfl,hC,g59,g62⟩ E
 have hs:=hC.sub
 have S:=S.called (X:=[]) hC
 have g33:=g33.mono hs
 have g37:=g37.mono hs
 refine plc E (.r 5 3 .nil) fun a E=>?_
 have S:=S.front 1 rfl
 refine pls E S (mL t54.1 A57 c58 A60 c61 A63 c64) fun u67 hb19 S a E=>pld (hK50 _ _ (pl0 (plc E (.bn 0 0 7 hb19<|.r 1 2<|.nil) fun a E=>?_)))
 have S:=S.front 1 rfl
 obtain ⟨F68,hs,g69,S⟩:=S.give
 have g59:=g59.mono hs
 have g62:=g62.mono hs
 have g33:=g33.mono hs
 have g37:=g37.mono hs
 obtain ⟨t71,h72,H⟩:=bd H
 refine ple E (.cl en39 (qAz.calls k44 t54.1 (⟨3,x25,0,0,0,0,[]⟩:qF) _ _ _ _ _ _ _ _ _ _ _ S.own.sub g59 g62 g69 (Rd.nil _ _) h72)) ?_
 rintro _ u70 a ⟨F73,A74,c75,A77,c78,A80,c81,rfl,hC,g76,g79⟩ E
 have hs:=hC.sub
 have S:=S.called (X:=[]) hC
 have g33:=g33.mono hs
 have g37:=g37.mono hs
 refine plc E (.r 4 3 .nil) fun a E=>?_
 have S:=S.front 1 rfl
 refine pls E S (mL t71.1 A74 c75 A77 c78 A80 c81) fun u84 hb19 S a E=>pld ?_
 refine qCe ?_
 refine hK49 _ _ (pl0 (plc E (.r 0 3 .nil) fun a E=>pld ?_))
 have S:=S.pm [0,2,1] 3
 exact qCf ⟨k44,by omega,_,(w64 (x25+1)),t71.1.f0,t71.1.f1,t71.1.f2,t71.1.f3,A74,c75,t71.1.f4,A77,c78,t71.1.f5,A80,c81,t71.1.f6,F73,by omega,E,.of,S,g76,g79,H⟩
 refine wp_exit ?_
 refine hK22 _ _ (sq fun K85 hK85=>pl0 (plc E (.bn 0 0 7 (S.ba 0) .nil) fun a E=>?_))
 have S:=S.front 1 rfl
 refine pls E S [iv x26,iv x27,iv x28,iv x29,.slice A30 l32.length c31,.slice A34 l36.length c35,.slice A38 l40.length c39] fun u86 hb2 S a E=>pld (hK85 _ _ (wp_ret ?_))
 have S:=S.pm [] 2
 obtain rfl:=si H
 exact ret1 E rfl (.cell (by kernel_rfl) (qCw [iv x26,iv x27,iv x28,iv x29,.slice A30 l32.length c31,.slice A34 l36.length c35,.slice A38 l40.length c39] ag26 sz26 hb2 rfl) .nil) ⟨_,rfl,_,_,_,_,_,_,_,rfl,S,g33,g37⟩
def qAW.f(k:Nat):Option Bool:=(qAv.f k 3 1).bind fun t4=>(if 0<=(0:Int)/\0<(t4.f6.length:Int) then ((qt.f k t4 (⟨10,0,0,0,(nth qC.z t4.f6 0).f0,0,[]⟩:qF)).bind fun t33=>((qAn.f k t33.1 (⟨4,2,0,0,0,0,[]⟩:qF) [false] 1).bind fun t56=>(if t56=11 then ((qAn.f k t33.1 (⟨4,2,0,0,0,0,[]⟩:qF) [true] 1).bind fun t64=>(some (t64 == 0))) else (some false)))) else (none))
def qAW.Post(W F:World)(r:Bool)(v:Value)(w':World):Prop:=∃(F':World),v = .bool r/\Sm W F w' F' []
theorem qAW.calls(k:Nat)(r:Bool)(W F:World)(hown:Sub F W)(H:qAW.f k=some r):
    Cr 11 #[] W (qAW.Post W F r):=by
 have S:=sT hown
 unfold qAW.f at H
 refine ent 28 rfl rfl rfl fun a E=>?_
 refine rr E fun a E=>(sq fun K2 hK2=>pl0 ?_)
 obtain ⟨t4,h5,H⟩:=bd H
 refine ple E (.cl en37 (qAv.calls k 3 1 _ _ _ S.own.sub h5)) ?_
 rintro _ u3 a ⟨F6,A7,c8,A10,c11,A13,c14,rfl,hC,g9,g12⟩ E
 have hs:=hC.sub
 have S:=S.called (X:=[]) hC
 refine pla (t:=26) E S [iv 0,iv 0,iv 0,iv 0,.slice none 0 0,.slice none 0 0,.slice none 0 0] fun b17 u18 hb17 S a E=>pls E S (mL t4 A7 c8 A10 c11 A13 c14) fun u19 hb17 S a E=>pld (hK2 _ _ (sq fun K20 hK20=>?_))
 refine drawn 12 ⟨[11],[],fun q=>False⟩ mixed rfl (by kernel_rfl) fun hst=>?_
 have S:=S.drew
 have hb17:=S.ba 0
 obtain ⟨c21,H⟩:=gd H
 have hr22:=S.ra 1
 have hE_:=E
 obtain ⟨b23,rfl⟩:=qCi hr22 c21.1 c21.2
 replace E:=hE_
 have hr_:=S.ra 1
 obtain ⟨cs25,⟨A27,c28,rfl,g29⟩,hc26⟩:=qCh hr_ qC.z 0 c21.1 c21.2
 refine mny 5 hst E (.bn 0 0 7 hb17<|.r 1 1<|.b 2 6 hb17<|.x 3 c21<|.r 4 1<|.c 5 (hc26 0 _ rfl)<|.r 6 1<|.nil) fun a E=>?_
 have S:=S.front 1 rfl
 obtain ⟨F30,hs,g31,S⟩:=S.give
 have g9:=g9.mono hs
 have g12:=g12.mono hs
 obtain ⟨t33,h34,H⟩:=bd H
 refine on1 7 E (.cl en14 (qt.calls k t4 (⟨10,0,0,0,(nth qC.z t4.f6 0).f0,0,[]⟩:qF) _ _ _ _ _ _ _ _ _ _ _ S.own.sub g9 g12 g31 (Rd.nil _ _) h34)) ?_
 rintro _ u32 a ⟨F35,A36,c37,A39,c40,A42,c43,rfl,hC,g38,g41,g44⟩ E
 refine ⟨.of hC.agr,?_⟩
 have S:=S.called (X:=[]) hC
 refine mny 1 hst E (.r 8 3 .nil) fun a E=>?_
 refine on1 11 E (.sto S (mL t33.1 A36 c37 A39 c40 A42 c43)) ?_
 rintro _ u45 a ⟨rfl,hb17,S,hz⟩ E
 refine ⟨.d,?_⟩
 refine dn ?_
 refine hK20 _ _ (sq fun K46 hK46=>pl0 (plc E (.r 0 1 .nil) fun a E=>pla (t:=29) E S [iv 0,iv 0,iv 0,iv 0,iv 0,iv 0,.slice none 0 0] fun b47 u48 hb47 S a E=>pls E S [iv 4,iv 2,iv 0,iv 0,iv 0,iv 0,.slice none 0 0] fun u49 hb47 S a E=>pld (hK46 _ _ (sq fun K50 hK50=>pl0 ?_))))
 have hb17:=S.ba 1
 refine plc E (.bn 0 0 7 hb17<|.bn 1 0 7 hb47<|.nil) fun a E=>ple E (.lit (d:=Kn.bool) (e:=4) S [false] (.cons rfl .nil)) ?_
 rintro _ u51 a ⟨A52,c53,rfl,S,hg⟩ E
 obtain ⟨t56,h57,H⟩:=bd H
 refine plq E S en12 (qAn.calls k t33.1 (⟨4,2,0,0,0,0,[]⟩:qF) [false] 1 _ _ _ _ _ _ _ _ _ _ _ _ _ (Sub.refl _) (g38.mono S.own.sub) (g41.mono S.own.sub) (g44.mono S.own.sub) (Rd.nil _ _) (S.rd_at (i:=0) rfl) h57) fun u55 S a E=>plc E (.r 4 2 .nil) fun a E=>E.fk 21 H (fun c58 E H=>?_) fun c58 E H=>?_
 refine plc E (.bn 6 0 7 (S.ba 2)<|.bn 7 0 7 (S.ba 1)<|.nil) fun a E=>ple E (.lit (d:=Kn.bool) (e:=4) S [true] (.cons rfl .nil)) ?_
 rintro _ u59 a ⟨A60,c61,rfl,S,hg⟩ E
 obtain ⟨t64,h65,H⟩:=bd H
 refine plq E S en12 (qAn.calls k t33.1 (⟨4,2,0,0,0,0,[]⟩:qF) [true] 1 _ _ _ _ _ _ _ _ _ _ _ _ _ (Sub.refl _) (g38.mono S.own.sub) (g41.mono S.own.sub) (g44.mono S.own.sub) (Rd.nil _ _) (S.rd_at (i:=0) rfl) h65) fun u63 S a E=>plc E (.r 10 3 .nil) fun a E=>pld (hK50 _ _ (wp_ret ?_))
 have S:=S.pm [] 4
 obtain rfl:=si H
 exact rt1 E ⟨_,rfl,_,rfl,S⟩
 refine plc E (.r 6 7 .nil) fun a E=>pld (hK50 _ _ (wp_ret ?_))
 have S:=S.pm [] 3
 obtain rfl:=si H
 exact rt1 E ⟨_,rfl,_,rfl,S⟩
def qBQ.j11:Nat->Bool->Option Int
 | 0,_=>none
 | k+1,y10=>if y10=true then (some 1) else (some 0)
theorem qBQ.j11_s k y10:type_of% (qBQ.j11.eq_2 y10 k):=qBQ.j11.eq_2 y10 k
def qBQ.f(k:Nat)(x:qAm):Option Int:=if (x.f0.length:Int)>100 then (qBQ.j11 k true) else (if x.f1<0 then (qBQ.j11 k true) else (if x.f1>(x.f0.length:Int) then (qBQ.j11 k true) else (if x.f2<1 then (qBQ.j11 k true) else (qBQ.j11 k (decide (x.f2>8))))))
def qBQ.Post(W F:World)(r:Int)(v:Value)(w':World):Prop:=∃(F':World),v=iv r/\Sm W F w' F' []
theorem qBQ.calls(k:Nat)(x:qAm)(A0_0:OA)(c0_0:Nat)(r:Int)(W F:World)(hown:Sub F W)(g0_0:Rd qF.k F A0_0 c0_0 x.f0)(H:qBQ.f k x=some r):
    Cr 25 #[.agg #[.slice A0_0 x.f0.length c0_0,iv x.f1,iv x.f2]] W (qBQ.Post W F r):=by
 have S:=sT hown
 unfold qBQ.f at H
 refine ent 30 rfl rfl rfl fun a E=>?_
 refine sq fun K1 hK1=>pl0 (plx (t:=50) E S [.slice A0_0 x.f0.length c0_0,iv x.f1,iv x.f2] fun b2 u3 hb2 S a E=>plc E (.r 1 1 .nil) fun a E=>pld (hK1 _ _ (sq fun K4 hK4=>sq fun K5 hK5=>?_)))
 have J14:∀ kq12,kq12<=k->∀(G:NV)(y10:Bool)(a:Act)(w':World),Env 30 G a->At G [(29,.bool y10)]->Sm W F w' F [box b2 #[.slice A0_0 x.f0.length c0_0,iv x.f1,iv x.f2] 50]->qBQ.j11 kq12 y10=some r->K5 a w':=by
  intro kq12 hkq G y10 a u15 E A S H
  obtain _ | k13:=kq12
  exact zz H
  rw [qBQ.j11_s]at H
  obtain ⟨J,E⟩:=E.at A
  refine hK5 _ _ (E.ib 29 H (fun c16 E H=>?_) fun c16 E H=>?_)
  refine rr E fun a E=>(wp_ret (qCc ?_))
  have S:=S.tail
  obtain rfl:=si H
  exact rt1 E ⟨_,rfl,_,rfl,S⟩
  refine wp_skip (hK4 _ _ (rr E fun a E=>(wp_ret ?_)))
  have S:=S.tail
  obtain rfl:=si H
  exact rt1 E ⟨_,rfl,_,rfl,S⟩
 refine pl0 (plc E (.r 0 1<|.b 1 0 hb2<|.r 2 3<|.nil) fun a E=>E.fk 7 H (fun c6 E H=>?_) fun c6 E H=>?_)
 refine plc E (.r 5 22 .nil) fun a E=>pld ?_
 exact J14 _ (by omega) _ true _ _ E .of S H
 refine plc E (.r 5 1<|.b 6 1 hb2<|.r 7 3<|.nil) fun a E=>E.fk 12 H (fun c7 E H=>?_) fun c7 E H=>?_
 refine plc E (.r 10 17 .nil) fun a E=>pld ?_
 exact J14 _ (by omega) _ true _ _ E .of S H
 refine plc E (.r 10 1<|.b 11 1 hb2<|.r 12 1<|.b 13 0 hb2<|.r 14 4<|.nil) fun a E=>E.fk 20 H (fun c8 E H=>?_) fun c8 E H=>?_
 refine plc E (.r 18 9 .nil) fun a E=>pld ?_
 exact J14 _ (by omega) _ true _ _ E .of S H
 refine plc E (.r 18 1<|.b 19 2 hb2<|.r 20 3<|.nil) fun a E=>E.fk 25 H (fun c9 E H=>?_) fun c9 E H=>?_
 refine plc E (.r 23 4 .nil) fun a E=>pld ?_
 exact J14 _ (by omega) _ true _ _ E .of S H
 refine plc E (.r 23 1<|.b 24 2 hb2<|.r 25 2<|.nil) fun a E=>pld ?_
 exact J14 _ (by omega) _ (decide (x.f2>8)) _ _ E .of S H
def qAf.f(x:List qF):Option (List qF):=if ((([]:List qF).length:Int)+(x.length:Int)) * 72<=140737488355328 then (some (([]:List qF)++x)) else (none)
def qAf.Post(W F:World)(r:List qF)(v:Value)(w':World):Prop:=∃(F':World)(RA0_0:OA)(rc0_0:Nat),v = .slice RA0_0 r.length rc0_0/\Sm W F w' F' [row qF.k 29 (.slice RA0_0 r.length rc0_0) r]
theorem qAf.calls(x:List qF)(A0_0:OA)(c0_0:Nat)(r:List qF)(W F:World)(hown:Sub F W)(g0_0:Rd qF.k F A0_0 c0_0 x)(H:qAf.f x=some r):
    Cr 79 #[.slice A0_0 x.length c0_0] W (qAf.Post W F r):=by
 have S:=sT hown
 unfold qAf.f at H
 refine ent 8 rfl rfl rfl fun a E=>?_
 rcases A0_0 with _ | ad1
 have hnil:=g0_0.none_nil
 replace H:(some [])=some r:=by simpa [hnil] using H
 refine rr E fun a E=>(sq fun K3 hK3=>rr E fun a E=>(ct E (rr E fun a E=>(wp_ret (qCc ?_)))))
 have S:=S.nilrow qF.k 29
 obtain rfl:=si H
 exact rt1 E ⟨_,rfl,_,_,_,rfl,S⟩
 refine rr E fun a E=>(sq fun K8 hK8=>rr E fun a E=>(cf E (wp_skip (hK8 _ _ (sq fun K10 hK10=>pl0 (ple E (.lit (d:=qF.k) (e:=29) S ([]:List qF) (.nil)) ?_))))))
 rintro _ u11 a ⟨A12,c13,rfl,S,hg⟩ E
 refine plc E (.r 1 1 .nil) fun a E=>?_
 obtain ⟨c15,H⟩:=gd H
 refine ple E (.ap (d:=qF.k) 72 S (g0_0.src S.own.sub) c15 c0_0) ?_
 rintro _ u18 a ⟨A16,c17,rfl,S,hz⟩ E
 refine plc E (.r 3 1 .nil) fun a E=>pld (hK10 _ _ (wp_ret ?_))
 obtain rfl:=si H
 exact rt1 E ⟨_,rfl,_,_,_,rfl,S⟩
def qBj.l21:Nat->qAm->List qF->List qF->Int->Option qAm
 | 0,_,_,_,_=>none
 | k+1,x,t8,l18,x19=>if x19<(t8.length:Int) then (if 0<=x19/\x19<(t8.length:Int) then ((qAP.f ((nth qF.z l18 x19).f6)).bind fun t44=>(qBj.l21 k x t8 (l18.set (x19).toNat (⟨(nth qF.z l18 x19).f0,(nth qF.z l18 x19).f1,(nth qF.z l18 x19).f2,(nth qF.z l18 x19).f3,(nth qF.z l18 x19).f4,(nth qF.z l18 x19).f5,t44⟩:qF)) (w64 (x19+1)))) else (none)) else (some (⟨l18,x.f1,x.f2⟩:qAm))
theorem qBj.l21_s k x t8 l18 x19:type_of% (qBj.l21.eq_2 x t8 l18 x19 k):=qBj.l21.eq_2 x t8 l18 x19 k
def qBj.f(k:Nat)(x:qAm):Option qAm:=(qAf.f x.f0).bind fun t8=>(qBj.l21 k x t8 t8 0)
def qBj.Post(W F:World)(r:qAm)(v:Value)(w':World):Prop:=∃(F':World)(RA0_0:OA)(rc0_0:Nat),v = .agg #[.slice RA0_0 r.f0.length rc0_0,iv r.f1,iv r.f2]/\Sm W F w' F' [row qF.k 29 (.slice RA0_0 r.f0.length rc0_0) r.f0]
theorem qBj.calls(k:Nat)(x:qAm)(A0_0:OA)(c0_0:Nat)(r:qAm)(W F:World)(hown:Sub F W)(g0_0:Rd qF.k F A0_0 c0_0 x.f0)(H:qBj.f k x=some r):
    Cr 52 #[.agg #[.slice A0_0 x.f0.length c0_0,iv x.f1,iv x.f2]] W (qBj.Post W F r):=by
 have S:=sT hown
 unfold qBj.f at H
 refine ent 27 rfl rfl rfl fun a E=>?_
 refine sq fun K1 hK1=>pl0 (plx (t:=50) E S [.slice A0_0 x.f0.length c0_0,iv x.f1,iv x.f2] fun b2 u3 hb2 S a E=>pla (t:=50) E S [.slice none 0 0,iv 0,iv 0] fun b4 u5 hb4 S a E=>pld (hK1 _ _ (sq fun K6 hK6=>pl0 (plc E (.r 0 1<|.b 1 0 (S.ba 1)<|.nil) fun a E=>?_))))
 obtain ⟨t8,h9,H⟩:=bd H
 refine ple E (.cl en79 (qAf.calls x.f0 _ _ _ _ _ S.own.sub g0_0 h9)) ?_
 rintro _ u7 a ⟨F10,A11,c12,rfl,hC⟩ E
 have hs:=hC.sub
 have S:=S.called (X:=[]) hC
 refine plc E (.r 3 1 .nil) fun a E=>?_
 have S:=S.front 2 rfl
 refine pls E S [.slice A11 t8.length c12,iv x.f1,iv x.f2] fun u15 hb2 S a E=>pld (hK6 _ _ (sq fun K16 hK16=>rg E (.r 0 1<|.b 1 0 hb2<|.r 2 2<|.nil) fun a E=>(wp_block ?_)))
 have S:=S.pm [0,2,1] 3
 refine wp_loop_ghost (fun kq22 a w'=>∃(G:NV)(l18:List qF)(x19:Int)(F20:World),kq22<=k/\Env 27 G a/\At G [(1,.pointer (pb b2)),(2,.pointer (pb b4)),(10,.slice A11 t8.length c12),(11,iv (t8.length:Int)),(12,iv x19)]/\Sm W F w' F20 [box b2 #[.slice A11 t8.length c12,iv x.f1,iv x.f2] 50,box b4 #[.slice none 0 0,iv 0,iv 0] 50,row qF.k 29 (.slice A11 t8.length c12) l18]/\qBj.l21 kq22 x t8 l18 x19=some r) k ⟨_,t8,0,F10,Nat.le_refl _,E,.of,S,H⟩ ?_
 rintro kq22 a u24 ⟨G,l18,x19,F20,hkq,E,A,S,H⟩
 obtain _ | k23:=kq22
 exact zz H
 rw [qBj.l21_s]at H
 obtain ⟨J,E⟩:=E.at A
 refine rr E fun a E=>(sq fun K26 hK26=>E.ik 13 H (fun c27 E H=>?_) fun c27 E H=>?_)
 refine wp_skip (hK26 _ _ (sq fun K28 hK28=>wp_block (sq fun K29 hK29=>pl0 ?_)))
 obtain ⟨c30,H⟩:=gd H
 have hr31:=S.ra 2
 have c32:0<=x19/\x19<(l18.length:Int):=by rw [← (qCg hr31).1]; exact c30
 have hE_:=E
 obtain ⟨b33,rfl⟩:=qCi hr31 c32.1 c32.2
 replace E:=hE_
 have hr_:=S.ra 2
 obtain ⟨cs35,⟨A37,c38,rfl,g39⟩,hc36⟩:=qCh hr_ qF.z x19 c32.1 c32.2
 refine plc E (.r 0 1<|.x 1 c30<|.cs 2 hc36<|.nil) fun a E=>pla (t:=29) E S [iv 0,iv 0,iv 0,iv 0,iv 0,iv 0,.slice none 0 0] fun b40 u41 hb40 S a E=>plc E (.r 4 1 .nil) fun a E=>pls E S [iv ((nth qF.z l18 x19).f0),iv ((nth qF.z l18 x19).f1),iv ((nth qF.z l18 x19).f2),iv ((nth qF.z l18 x19).f3),iv ((nth qF.z l18 x19).f4),iv ((nth qF.z l18 x19).f5),.slice A37 (((nth qF.z l18 x19).f6).length) c38] fun u42 hb40 S a E=>pld (hK29 _ _ ?_)
 refine drawn 9 ⟨[8],[],fun q=>False⟩ mixed rfl (by kernel_rfl) fun hst=>?_
 have S:=S.drew
 have hb2:=S.ba 1
 have hb40:=S.ba 0
 refine mny 4 hst E (.r 0 1<|.b 1 0 hb2<|.r 2 2<|.b 4 6 hb40<|.nil) fun a E=>?_
 obtain ⟨t44,h45,H⟩:=bd H
 refine on1 5 E (.cl en54 (qAP.calls ((nth qF.z l18 x19).f6) _ _ _ _ _ S.own.sub g39 h45)) ?_
 rintro _ u43 a ⟨F46,A47,c48,rfl,hC⟩ E
 refine ⟨.of hC.agr,?_⟩
 have hs:=hC.sub
 have S:=S.called (X:=[]) hC
 have hr51:=S.ra 4
 have c52:0<=x19/\x19<(l18.length:Int):=by rw [← (qCg hr51).1]; exact c30
 have hr_:=S.ra 4
 obtain ⟨cs54,⟨A56,c57,rfl,g58⟩,hc55⟩:=qCh hr_ qF.z x19 c52.1 c52.2
 refine mny 1 hst E (.x 6 c30<|.r 7 1<|.nil) fun a E=>?_
 obtain ⟨F60,hs,g61,S⟩:=S.give
 have S:=S.front 3 rfl
 obtain ⟨cs65,⟨A62,c63,rfl,g64⟩,hc66⟩:=qCh (S.row_at (i:=0) rfl) qF.z x19 c52.1 c52.2
 refine on1 8 E (.set (d:=qF.k) (n:=t8.length) (i:=x19) (⟨(nth qF.z l18 x19).f0,(nth qF.z l18 x19).f1,(nth qF.z l18 x19).f2,(nth qF.z l18 x19).f3,(nth qF.z l18 x19).f4,(nth qF.z l18 x19).f5,t44⟩:qF) 6 (ea1 _ _ _) S c52 [iv ((nth qF.z l18 x19).f0),iv ((nth qF.z l18 x19).f1),iv ((nth qF.z l18 x19).f2),iv ((nth qF.z l18 x19).f3),iv ((nth qF.z l18 x19).f4),iv ((nth qF.z l18 x19).f5),.slice A62 (((nth qF.z l18 x19).f6).length) c63] hc66 [iv ((nth qF.z l18 x19).f0),iv ((nth qF.z l18 x19).f1),iv ((nth qF.z l18 x19).f2),iv ((nth qF.z l18 x19).f3),iv ((nth qF.z l18 x19).f4),iv ((nth qF.z l18 x19).f5),.slice A47 t44.length c48] ⟨_,_,rfl,g61⟩) ?_
 rintro _ u59 a ⟨rfl,S,hz⟩ E
 refine ⟨.d,?_⟩
 refine dn ?_
 refine qCe ?_
 refine hK28 _ _ (pl0 (plc E (.r 0 2 .nil) fun a E=>pld ?_))
 have S:=S.pm [2,3,0] 4
 exact qCf ⟨k23,by omega,_,(l18.set (x19).toNat (⟨(nth qF.z l18 x19).f0,(nth qF.z l18 x19).f1,(nth qF.z l18 x19).f2,(nth qF.z l18 x19).f3,(nth qF.z l18 x19).f4,(nth qF.z l18 x19).f5,t44⟩:qF)),(w64 (x19+1)),F60,by omega,E,.of,S,H⟩
 refine wp_exit ?_
 refine hK16 _ _ (sq fun K67 hK67=>pl0 (plc E (.bn 0 0 3 (S.ba 0) .nil) fun a E=>?_))
 have S:=S.front 1 rfl
 refine pls E S [.slice A11 t8.length c12,iv x.f1,iv x.f2] fun u68 hb4 S a E=>pld (hK67 _ _ (wp_ret ?_))
 have hn69:=(qCg (S.row_at (i:=2) rfl)).1
 replace S:Sm W F u68 F20 [box b4 #[.slice A11 l18.length c12,iv x.f1,iv x.f2] 50,box b2 #[.slice A11 l18.length c12,iv x.f1,iv x.f2] 50,row qF.k 29 (.slice A11 l18.length c12) l18]:=by rw [← hn69]; exact S
 have hb4:=S.ba 0
 have S:=S.pm [] 2
 obtain rfl:=si H
 exact ret1 E rfl (.cell (by kernel_rfl) (qCw [.slice A11 l18.length c12,iv x.f1,iv x.f2] ag50 sz50 hb4 rfl) .nil) ⟨_,rfl,_,_,_,rfl,S⟩
def qCF.f(k:Nat)(x:qD)(y:qF):Option Bool:=(qAz.f k x y).bind fun t8=>(if t8.2=7 then (some true) else (some (t8.2 == 5)))
def qCF.Post(W F:World)(r:Bool)(v:Value)(w':World):Prop:=∃(F':World),v = .bool r/\Sm W F w' F' []
theorem qCF.calls(k:Nat)(x:qD)(y:qF)(A0_4:OA)(c0_4:Nat)(A0_5:OA)(c0_5:Nat)(A0_6:OA)(c0_6:Nat)(A1_6:OA)(c1_6:Nat)(r:Bool)(W F:World)(hown:Sub F W)(g0_4:Rd qA.k F A0_4 c0_4 x.f4)(g0_5:Rd qE.k F A0_5 c0_5 x.f5)(g0_6:Rd qC.k F A0_6 c0_6 x.f6)(g1_6:Rd ki F A1_6 c1_6 y.f6)(H:qCF.f k x y=some r):
    Cr 53 #[.agg (mA x A0_4 c0_4 A0_5 c0_5 A0_6 c0_6),.agg (dA y A1_6 c1_6)] W (qCF.Post W F r):=by
 have S:=sT hown
 unfold qCF.f at H
 refine ent 19 rfl rfl rfl fun a E=>?_
 refine sq fun K1 hK1=>pl0 (plx (t:=26) E S (mL x A0_4 c0_4 A0_5 c0_5 A0_6 c0_6) fun b2 u3 hb2 S a E=>plx (t:=29) E S (dL y A1_6 c1_6) fun b4 u5 hb4 S a E=>plc E (.r 2 1 .nil) fun a E=>pld (hK1 _ _ (sq fun K6 hK6=>pl0 (plc E (.bn 0 0 7 (S.ba 1)<|.bn 1 0 7 hb4<|.nil) fun a E=>?_))))
 obtain ⟨t8,h9,H⟩:=bd H
 refine ple E (.cl en39 (qAz.calls k x y _ _ _ _ _ _ _ _ _ _ _ S.own.sub g0_4 g0_5 g0_6 g1_6 h9)) ?_
 rintro _ u7 a ⟨F10,A11,c12,A14,c15,A17,c18,rfl,hC,g13,g16⟩ E
 have S:=S.called (X:=[]) hC
 refine plc E (.r 3 3 .nil) fun a E=>pla (t:=26) E S [iv 0,iv 0,iv 0,iv 0,.slice none 0 0,.slice none 0 0,.slice none 0 0] fun b21 u22 hb21 S a E=>pls E S (mL t8.1 A11 c12 A14 c15 A17 c18) fun u23 hb21 S a E=>plc E (.r 8 1 .nil) fun a E=>pld (hK6 _ _ (sq fun K24 hK24=>pl0 (plc E (.r 0 3 .nil) fun a E=>E.fk 15 H (fun c25 E H=>?_) fun c25 E H=>?_)))
 refine plc E (.r 3 4 .nil) fun a E=>pld (hK24 _ _ (wp_ret ?_))
 have S:=S.pm [] 4
 obtain rfl:=si H
 exact rt1 E ⟨_,rfl,_,rfl,S⟩
 refine plc E (.r 3 4 .nil) fun a E=>pld (hK24 _ _ (wp_ret ?_))
 have S:=S.pm [] 4
 obtain rfl:=si H
 exact rt1 E ⟨_,rfl,_,rfl,S⟩
end Go.Proofs.YthgfhlbjkmjlpaaGreat.GD
