import Derived.Test.YtpohepinmjmbkaaGreatMX6
namespace Go.Proofs.YtpohepinmjmbkaaGreat.MX
open Go Go.RowKit Go.Proofs.YtpohepinmjmbkaaGreat.Sl
set_option linter.unusedVariables false
set_option linter.unusedSimpArgs false
set_option maxHeartbeats 4000000
set_option maxRecDepth 100000
mutual
def qC.j19:Nat→qG→List qU→Bool→Option Bool
 | 0,_,_,_=>none
 | k+1,x,y,y18=>if y18=true then ((qAT.f k).bind fun t27=>(some t27)) else (qC.l85 k y 0 [] [] [] [] [] [] [] [] x.f0 x.f1 x.f2 x.f3 x.f4 x.f5 x.f6)
def qC.l85:Nat→List qU→Int→List (List Int)→List (List Int)→List (List Int)→List (List Int)→List (List Int)→List (List Int)→List (List Int)→List (List Int)→Int→Int→Int→Int→List qA→List qE→List qD→Option Bool
 | 0,_,_,_,_,_,_,_,_,_,_,_,_,_,_,_,_,_=>none
 | k+1,y,x43,l46,l49,l52,l55,l58,l61,l64,l67,x68,x69,x70,x71,l74,l78,l82=>if x43<(y.length:Int) then (qC.l129 k y x43 x68 x69 x70 x71 l74 l78 l82 0 l46 l49 l52 l55 l58 l61 l64 l67) else (qC.l371 k l46 l49 l52 l55 l58 l61 l64 l67 x68 x69 x70 x71 l74 l78 l82 0)
def qC.l129:Nat→List qU→Int→Int→Int→Int→Int→List qA→List qE→List qD→Int→List (List Int)→List (List Int)→List (List Int)→List (List Int)→List (List Int)→List (List Int)→List (List Int)→List (List Int)→Option Bool
 | 0,_,_,_,_,_,_,_,_,_,_,_,_,_,_,_,_,_,_=>none
 | k+1,y,x43,x68,x69,x70,x71,l74,l78,l82,x103,l106,l109,l112,l115,l118,l121,l124,l127=>if x103<x71 then ((qAe.f k (⟨x68,x69,x70,x71,l74,l78,l82⟩:qG) x103).bind fun t139=>(if (t139.length:Int)≥x70 then (if x103=0 then (if ((l106.length:Int)+((1:Nat):Int)) * 24≤140737488355328 then (qC.l129 k y x43 x68 x69 x70 x71 l74 l78 l82 (w64 (0+1)) (l106++[t139]) l109 l112 l115 l118 l121 l124 l127) else (none)) else (if x103=1 then (if ((l109.length:Int)+((1:Nat):Int)) * 24≤140737488355328 then (qC.l129 k y x43 x68 x69 x70 x71 l74 l78 l82 (w64 (1+1)) l106 (l109++[t139]) l112 l115 l118 l121 l124 l127) else (none)) else (if x103=2 then (if ((l112.length:Int)+((1:Nat):Int)) * 24≤140737488355328 then (qC.l129 k y x43 x68 x69 x70 x71 l74 l78 l82 (w64 (2+1)) l106 l109 (l112++[t139]) l115 l118 l121 l124 l127) else (none)) else (if x103=3 then (if ((l115.length:Int)+((1:Nat):Int)) * 24≤140737488355328 then (qC.l129 k y x43 x68 x69 x70 x71 l74 l78 l82 (w64 (3+1)) l106 l109 l112 (l115++[t139]) l118 l121 l124 l127) else (none)) else (if x103=4 then (if ((l118.length:Int)+((1:Nat):Int)) * 24≤140737488355328 then (qC.l129 k y x43 x68 x69 x70 x71 l74 l78 l82 (w64 (4+1)) l106 l109 l112 l115 (l118++[t139]) l121 l124 l127) else (none)) else (if x103=5 then (if ((l121.length:Int)+((1:Nat):Int)) * 24≤140737488355328 then (qC.l129 k y x43 x68 x69 x70 x71 l74 l78 l82 (w64 (5+1)) l106 l109 l112 l115 l118 (l121++[t139]) l124 l127) else (none)) else (if x103=6 then (if ((l124.length:Int)+((1:Nat):Int)) * 24≤140737488355328 then (qC.l129 k y x43 x68 x69 x70 x71 l74 l78 l82 (w64 (6+1)) l106 l109 l112 l115 l118 l121 (l124++[t139]) l127) else (none)) else (if x103=7 then (if ((l127.length:Int)+((1:Nat):Int)) * 24≤140737488355328 then (qC.l129 k y x43 x68 x69 x70 x71 l74 l78 l82 (w64 (7+1)) l106 l109 l112 l115 l118 l121 l124 (l127++[t139])) else (none)) else (none))))))))) else (qC.l129 k y x43 x68 x69 x70 x71 l74 l78 l82 (w64 (x103+1)) l106 l109 l112 l115 l118 l121 l124 l127))) else (if 0≤x43∧x43<(y.length:Int) then ((qAW.f k (⟨x68,x69,x70,x71,l74,l78,l82⟩:qG) (nth qU.z y x43)).bind fun t253=>(if t253.2=0 then (qC.j283 k y x43 l106 l109 l112 l115 l118 l121 l124 l127 t253 ((nth qU.z y x43).f0 == 10)) else (qC.j283 k y x43 l106 l109 l112 l115 l118 l121 l124 l127 t253 false))) else (none))
def qC.j283:Nat→List qU→Int→List (List Int)→List (List Int)→List (List Int)→List (List Int)→List (List Int)→List (List Int)→List (List Int)→List (List Int)→qG × Int→Bool→Option Bool
 | 0,_,_,_,_,_,_,_,_,_,_,_,_=>none
 | k+1,y,x43,l106,l109,l112,l115,l118,l121,l124,l127,t253,y282=>if y282=true then (if (nth qU.z y x43).f5=0 then (qC.j343 k y x43 t253 [] l109 l112 l115 l118 l121 l124 l127) else (if (nth qU.z y x43).f5=1 then (qC.j343 k y x43 t253 l106 [] l112 l115 l118 l121 l124 l127) else (if (nth qU.z y x43).f5=2 then (qC.j343 k y x43 t253 l106 l109 [] l115 l118 l121 l124 l127) else (if (nth qU.z y x43).f5=3 then (qC.j343 k y x43 t253 l106 l109 l112 [] l118 l121 l124 l127) else (if (nth qU.z y x43).f5=4 then (qC.j343 k y x43 t253 l106 l109 l112 l115 [] l121 l124 l127) else (if (nth qU.z y x43).f5=5 then (qC.j343 k y x43 t253 l106 l109 l112 l115 l118 [] l124 l127) else (if (nth qU.z y x43).f5=6 then (qC.j343 k y x43 t253 l106 l109 l112 l115 l118 l121 [] l127) else (if (nth qU.z y x43).f5=7 then (qC.j343 k y x43 t253 l106 l109 l112 l115 l118 l121 l124 []) else (none))))))))) else (qC.j343 k y x43 t253 l106 l109 l112 l115 l118 l121 l124 l127)
def qC.j343:Nat→List qU→Int→qG × Int→List (List Int)→List (List Int)→List (List Int)→List (List Int)→List (List Int)→List (List Int)→List (List Int)→List (List Int)→Option Bool
 | 0,_,_,_,_,_,_,_,_,_,_,_=>none
 | k+1,y,x43,t253,l321,l324,l327,l330,l333,l336,l339,l342=>qC.l85 k y (w64 (x43+1)) l321 l324 l327 l330 l333 l336 l339 l342 t253.1.f0 t253.1.f1 t253.1.f2 t253.1.f3 t253.1.f4 t253.1.f5 t253.1.f6
def qC.l371:Nat→List (List Int)→List (List Int)→List (List Int)→List (List Int)→List (List Int)→List (List Int)→List (List Int)→List (List Int)→Int→Int→Int→Int→List qA→List qE→List qD→Int→Option Bool
 | 0,_,_,_,_,_,_,_,_,_,_,_,_,_,_,_,_=>none
 | k+1,l46,l49,l52,l55,l58,l61,l64,l67,x68,x69,x70,x71,l74,l78,l82,x369=>if x369<x71 then ((qAe.f k (⟨x68,x69,x70,x71,l74,l78,l82⟩:qG) x369).bind fun t381=>(qC.l391 k l46 l49 l52 l55 l58 l61 l64 l67 x68 x69 x70 x71 l74 l78 l82 t381 x369 0)) else ((qAT.f k).bind fun t777=>(some t777))
def qC.l391:Nat→List (List Int)→List (List Int)→List (List Int)→List (List Int)→List (List Int)→List (List Int)→List (List Int)→List (List Int)→Int→Int→Int→Int→List qA→List qE→List qD→List Int→Int→Int→Option Bool
 | 0,_,_,_,_,_,_,_,_,_,_,_,_,_,_,_,_,_,_=>none
 | k+1,l46,l49,l52,l55,l58,l61,l64,l67,x68,x69,x70,x71,l74,l78,l82,t381,x389,x390=>if x389=0 then (qC.j407 k l46 l49 l52 l55 l58 l61 l64 l67 x68 x69 x70 x71 l74 l78 l82 t381 x390 0 (decide (x390<(l46.length:Int)))) else (if x389=1 then (qC.j407 k l46 l49 l52 l55 l58 l61 l64 l67 x68 x69 x70 x71 l74 l78 l82 t381 x390 1 (decide (x390<(l49.length:Int)))) else (if x389=2 then (qC.j407 k l46 l49 l52 l55 l58 l61 l64 l67 x68 x69 x70 x71 l74 l78 l82 t381 x390 2 (decide (x390<(l52.length:Int)))) else (if x389=3 then (qC.j407 k l46 l49 l52 l55 l58 l61 l64 l67 x68 x69 x70 x71 l74 l78 l82 t381 x390 3 (decide (x390<(l55.length:Int)))) else (if x389=4 then (qC.j407 k l46 l49 l52 l55 l58 l61 l64 l67 x68 x69 x70 x71 l74 l78 l82 t381 x390 4 (decide (x390<(l58.length:Int)))) else (if x389=5 then (qC.j407 k l46 l49 l52 l55 l58 l61 l64 l67 x68 x69 x70 x71 l74 l78 l82 t381 x390 5 (decide (x390<(l61.length:Int)))) else (if x389=6 then (qC.j407 k l46 l49 l52 l55 l58 l61 l64 l67 x68 x69 x70 x71 l74 l78 l82 t381 x390 6 (decide (x390<(l64.length:Int)))) else (if x389=7 then (qC.j407 k l46 l49 l52 l55 l58 l61 l64 l67 x68 x69 x70 x71 l74 l78 l82 t381 x390 7 (decide (x390<(l67.length:Int)))) else (none))))))))
def qC.j407:Nat→List (List Int)→List (List Int)→List (List Int)→List (List Int)→List (List Int)→List (List Int)→List (List Int)→List (List Int)→Int→Int→Int→Int→List qA→List qE→List qD→List Int→Int→Int→Bool→Option Bool
 | 0,_,_,_,_,_,_,_,_,_,_,_,_,_,_,_,_,_,_,_=>none
 | k+1,l46,l49,l52,l55,l58,l61,l64,l67,x68,x69,x70,x71,l74,l78,l82,t381,x390,x405,y406=>if y406=true then (if x405=0 then (if 0≤x390∧x390<(l46.length:Int) then ((qZ.f k (nth [] l46 x390) t381).bind fun t426=>(qC.j521 k l46 l49 l52 l55 l58 l61 l64 l67 x68 x69 x70 x71 l74 l78 l82 t381 x390 0 t426)) else (none)) else (if x405=1 then (if 0≤x390∧x390<(l49.length:Int) then ((qZ.f k (nth [] l49 x390) t381).bind fun t439=>(qC.j521 k l46 l49 l52 l55 l58 l61 l64 l67 x68 x69 x70 x71 l74 l78 l82 t381 x390 1 t439)) else (none)) else (if x405=2 then (if 0≤x390∧x390<(l52.length:Int) then ((qZ.f k (nth [] l52 x390) t381).bind fun t452=>(qC.j521 k l46 l49 l52 l55 l58 l61 l64 l67 x68 x69 x70 x71 l74 l78 l82 t381 x390 2 t452)) else (none)) else (if x405=3 then (if 0≤x390∧x390<(l55.length:Int) then ((qZ.f k (nth [] l55 x390) t381).bind fun t465=>(qC.j521 k l46 l49 l52 l55 l58 l61 l64 l67 x68 x69 x70 x71 l74 l78 l82 t381 x390 3 t465)) else (none)) else (if x405=4 then (if 0≤x390∧x390<(l58.length:Int) then ((qZ.f k (nth [] l58 x390) t381).bind fun t478=>(qC.j521 k l46 l49 l52 l55 l58 l61 l64 l67 x68 x69 x70 x71 l74 l78 l82 t381 x390 4 t478)) else (none)) else (if x405=5 then (if 0≤x390∧x390<(l61.length:Int) then ((qZ.f k (nth [] l61 x390) t381).bind fun t491=>(qC.j521 k l46 l49 l52 l55 l58 l61 l64 l67 x68 x69 x70 x71 l74 l78 l82 t381 x390 5 t491)) else (none)) else (if x405=6 then (if 0≤x390∧x390<(l64.length:Int) then ((qZ.f k (nth [] l64 x390) t381).bind fun t504=>(qC.j521 k l46 l49 l52 l55 l58 l61 l64 l67 x68 x69 x70 x71 l74 l78 l82 t381 x390 6 t504)) else (none)) else (if x405=7 then (if 0≤x390∧x390<(l67.length:Int) then ((qZ.f k (nth [] l67 x390) t381).bind fun t517=>(qC.j521 k l46 l49 l52 l55 l58 l61 l64 l67 x68 x69 x70 x71 l74 l78 l82 t381 x390 7 t517)) else (none)) else (none))))))))) else (qC.l371 k l46 l49 l52 l55 l58 l61 l64 l67 x68 x69 x70 x71 l74 l78 l82 (w64 (x405+1)))
def qC.j521:Nat→List (List Int)→List (List Int)→List (List Int)→List (List Int)→List (List Int)→List (List Int)→List (List Int)→List (List Int)→Int→Int→Int→Int→List qA→List qE→List qD→List Int→Int→Int→Bool→Option Bool
 | 0,_,_,_,_,_,_,_,_,_,_,_,_,_,_,_,_,_,_,_=>none
 | k+1,l46,l49,l52,l55,l58,l61,l64,l67,x68,x69,x70,x71,l74,l78,l82,t381,x390,x519,y520=>qC.l531 k l46 l49 l52 l55 l58 l61 l64 l67 x68 x69 x70 x71 l74 l78 l82 t381 x390 x519 y520 0
def qC.l531:Nat→List (List Int)→List (List Int)→List (List Int)→List (List Int)→List (List Int)→List (List Int)→List (List Int)→List (List Int)→Int→Int→Int→Int→List qA→List qE→List qD→List Int→Int→Int→Bool→Int→Option Bool
 | 0,_,_,_,_,_,_,_,_,_,_,_,_,_,_,_,_,_,_,_,_=>none
 | k+1,l46,l49,l52,l55,l58,l61,l64,l67,x68,x69,x70,x71,l74,l78,l82,t381,x390,x528,y529,x530=>if 0≤x528∧x528<(l82.length:Int) then (if x530<(((nth qD.z l82 x528).f1).length:Int) then (if y529=true then (qC.l531 k l46 l49 l52 l55 l58 l61 l64 l67 x68 x69 x70 x71 l74 l78 l82 t381 x390 x528 true (w64 (x530+1))) else (if x528=0 then (if 0≤x390∧x390<(l46.length:Int) then (if 0≤(0:Int)∧0<(l82.length:Int) then (if 0≤x530∧x530<(((nth qD.z l82 0).f1).length:Int) then ((qZ.f k (nth [] l46 x390) ((nth qF.z ((nth qD.z l82 0).f1) x530).f1)).bind fun t574=>(qC.l531 k l46 l49 l52 l55 l58 l61 l64 l67 x68 x69 x70 x71 l74 l78 l82 t381 x390 0 t574 (w64 (x530+1)))) else (none)) else (none)) else (none)) else (if x528=1 then (if 0≤x390∧x390<(l49.length:Int) then (if 0≤(1:Int)∧1<(l82.length:Int) then (if 0≤x530∧x530<(((nth qD.z l82 1).f1).length:Int) then ((qZ.f k (nth [] l49 x390) ((nth qF.z ((nth qD.z l82 1).f1) x530).f1)).bind fun t602=>(qC.l531 k l46 l49 l52 l55 l58 l61 l64 l67 x68 x69 x70 x71 l74 l78 l82 t381 x390 1 t602 (w64 (x530+1)))) else (none)) else (none)) else (none)) else (if x528=2 then (if 0≤x390∧x390<(l52.length:Int) then (if 0≤(2:Int)∧2<(l82.length:Int) then (if 0≤x530∧x530<(((nth qD.z l82 2).f1).length:Int) then ((qZ.f k (nth [] l52 x390) ((nth qF.z ((nth qD.z l82 2).f1) x530).f1)).bind fun t630=>(qC.l531 k l46 l49 l52 l55 l58 l61 l64 l67 x68 x69 x70 x71 l74 l78 l82 t381 x390 2 t630 (w64 (x530+1)))) else (none)) else (none)) else (none)) else (if x528=3 then (if 0≤x390∧x390<(l55.length:Int) then (if 0≤(3:Int)∧3<(l82.length:Int) then (if 0≤x530∧x530<(((nth qD.z l82 3).f1).length:Int) then ((qZ.f k (nth [] l55 x390) ((nth qF.z ((nth qD.z l82 3).f1) x530).f1)).bind fun t658=>(qC.l531 k l46 l49 l52 l55 l58 l61 l64 l67 x68 x69 x70 x71 l74 l78 l82 t381 x390 3 t658 (w64 (x530+1)))) else (none)) else (none)) else (none)) else (if x528=4 then (if 0≤x390∧x390<(l58.length:Int) then (if 0≤(4:Int)∧4<(l82.length:Int) then (if 0≤x530∧x530<(((nth qD.z l82 4).f1).length:Int) then ((qZ.f k (nth [] l58 x390) ((nth qF.z ((nth qD.z l82 4).f1) x530).f1)).bind fun t686=>(qC.l531 k l46 l49 l52 l55 l58 l61 l64 l67 x68 x69 x70 x71 l74 l78 l82 t381 x390 4 t686 (w64 (x530+1)))) else (none)) else (none)) else (none)) else (if x528=5 then (if 0≤x390∧x390<(l61.length:Int) then (if 0≤(5:Int)∧5<(l82.length:Int) then (if 0≤x530∧x530<(((nth qD.z l82 5).f1).length:Int) then ((qZ.f k (nth [] l61 x390) ((nth qF.z ((nth qD.z l82 5).f1) x530).f1)).bind fun t714=>(qC.l531 k l46 l49 l52 l55 l58 l61 l64 l67 x68 x69 x70 x71 l74 l78 l82 t381 x390 5 t714 (w64 (x530+1)))) else (none)) else (none)) else (none)) else (if x528=6 then (if 0≤x390∧x390<(l64.length:Int) then (if 0≤(6:Int)∧6<(l82.length:Int) then (if 0≤x530∧x530<(((nth qD.z l82 6).f1).length:Int) then ((qZ.f k (nth [] l64 x390) ((nth qF.z ((nth qD.z l82 6).f1) x530).f1)).bind fun t742=>(qC.l531 k l46 l49 l52 l55 l58 l61 l64 l67 x68 x69 x70 x71 l74 l78 l82 t381 x390 6 t742 (w64 (x530+1)))) else (none)) else (none)) else (none)) else (if x528=7 then (if 0≤x390∧x390<(l67.length:Int) then (if 0≤(7:Int)∧7<(l82.length:Int) then (if 0≤x530∧x530<(((nth qD.z l82 7).f1).length:Int) then ((qZ.f k (nth [] l67 x390) ((nth qF.z ((nth qD.z l82 7).f1) x530).f1)).bind fun t770=>(qC.l531 k l46 l49 l52 l55 l58 l61 l64 l67 x68 x69 x70 x71 l74 l78 l82 t381 x390 7 t770 (w64 (x530+1)))) else (none)) else (none)) else (none)) else (none)))))))))) else (if y529=true then (qC.l391 k l46 l49 l52 l55 l58 l61 l64 l67 x68 x69 x70 x71 l74 l78 l82 t381 x528 (w64 (x390+1))) else (some false))) else (none)
end
theorem qC.j19_s k x y y18:type_of% (qC.j19.eq_2 x y y18 k):=qC.j19.eq_2 x y y18 k
theorem qC.l85_s k y x43 l46 l49 l52 l55 l58 l61 l64 l67 x68 x69 x70 x71 l74 l78 l82:type_of% (qC.l85.eq_2 y x43 l46 l49 l52 l55 l58 l61 l64 l67 x68 x69 x70 x71 l74 l78 l82 k):=qC.l85.eq_2 y x43 l46 l49 l52 l55 l58 l61 l64 l67 x68 x69 x70 x71 l74 l78 l82 k
theorem qC.l129_s k y x43 x68 x69 x70 x71 l74 l78 l82 x103 l106 l109 l112 l115 l118 l121 l124 l127:type_of% (qC.l129.eq_2 y x43 x68 x69 x70 x71 l74 l78 l82 x103 l106 l109 l112 l115 l118 l121 l124 l127 k):=qC.l129.eq_2 y x43 x68 x69 x70 x71 l74 l78 l82 x103 l106 l109 l112 l115 l118 l121 l124 l127 k
theorem qC.j283_s k y x43 l106 l109 l112 l115 l118 l121 l124 l127 t253 y282:type_of% (qC.j283.eq_2 y x43 l106 l109 l112 l115 l118 l121 l124 l127 t253 y282 k):=qC.j283.eq_2 y x43 l106 l109 l112 l115 l118 l121 l124 l127 t253 y282 k
theorem qC.j343_s k y x43 t253 l321 l324 l327 l330 l333 l336 l339 l342:type_of% (qC.j343.eq_2 y x43 t253 l321 l324 l327 l330 l333 l336 l339 l342 k):=qC.j343.eq_2 y x43 t253 l321 l324 l327 l330 l333 l336 l339 l342 k
theorem qC.l371_s k l46 l49 l52 l55 l58 l61 l64 l67 x68 x69 x70 x71 l74 l78 l82 x369:type_of% (qC.l371.eq_2 l46 l49 l52 l55 l58 l61 l64 l67 x68 x69 x70 x71 l74 l78 l82 x369 k):=qC.l371.eq_2 l46 l49 l52 l55 l58 l61 l64 l67 x68 x69 x70 x71 l74 l78 l82 x369 k
theorem qC.l391_s k l46 l49 l52 l55 l58 l61 l64 l67 x68 x69 x70 x71 l74 l78 l82 t381 x389 x390:type_of% (qC.l391.eq_2 l46 l49 l52 l55 l58 l61 l64 l67 x68 x69 x70 x71 l74 l78 l82 t381 x389 x390 k):=qC.l391.eq_2 l46 l49 l52 l55 l58 l61 l64 l67 x68 x69 x70 x71 l74 l78 l82 t381 x389 x390 k
theorem qC.j407_s k l46 l49 l52 l55 l58 l61 l64 l67 x68 x69 x70 x71 l74 l78 l82 t381 x390 x405 y406:type_of% (qC.j407.eq_2 l46 l49 l52 l55 l58 l61 l64 l67 x68 x69 x70 x71 l74 l78 l82 t381 x390 x405 y406 k):=qC.j407.eq_2 l46 l49 l52 l55 l58 l61 l64 l67 x68 x69 x70 x71 l74 l78 l82 t381 x390 x405 y406 k
theorem qC.j521_s k l46 l49 l52 l55 l58 l61 l64 l67 x68 x69 x70 x71 l74 l78 l82 t381 x390 x519 y520:type_of% (qC.j521.eq_2 l46 l49 l52 l55 l58 l61 l64 l67 x68 x69 x70 x71 l74 l78 l82 t381 x390 x519 y520 k):=qC.j521.eq_2 l46 l49 l52 l55 l58 l61 l64 l67 x68 x69 x70 x71 l74 l78 l82 t381 x390 x519 y520 k
theorem qC.l531_s k l46 l49 l52 l55 l58 l61 l64 l67 x68 x69 x70 x71 l74 l78 l82 t381 x390 x528 y529 x530:type_of% (qC.l531.eq_2 l46 l49 l52 l55 l58 l61 l64 l67 x68 x69 x70 x71 l74 l78 l82 t381 x390 x528 y529 x530 k):=qC.l531.eq_2 l46 l49 l52 l55 l58 l61 l64 l67 x68 x69 x70 x71 l74 l78 l82 t381 x390 x528 y529 x530 k
def qC.f(k:Nat)(x:qG)(y:List qU):Option Bool:=(qS.f k x).bind fun t7=>(if t7=true then ((qi.f k y).bind fun t11=>(if t11=true then ((qb.f k x).bind fun t15=>(if t15=true then (qC.j19 k x y (decide (x.f0>1000000))) else (qC.j19 k x y true))) else (qC.j19 k x y true))) else (qC.j19 k x y true))
def qC.Post(W F:World)(r:Bool)(v:Value)(w':World):Prop:=∃(F':World),v = .bool r∧Sm W F w' F' []
theorem qC.calls(k:Nat)(x:qG)(y:List qU)(A0_4:OA)(c0_4:Nat)(A0_5:OA)(c0_5:Nat)(A0_6:OA)(c0_6:Nat)(A1_0:OA)(c1_0:Nat)(r:Bool)(W F:World)(hown:Sub F W)(g0_4:Rd qA.k F A0_4 c0_4 x.f4)(g0_5:Rd qE.k F A0_5 c0_5 x.f5)(g0_6:Rd qD.k F A0_6 c0_6 x.f6)(g1_0:Rd qU.k F A1_0 c1_0 y)(H:qC.f k x y=some r):
    Cr 6 #[.agg #[iv x.f0,iv x.f1,iv x.f2,iv x.f3,.slice A0_4 x.f4.length c0_4,.slice A0_5 x.f5.length c0_5,.slice A0_6 x.f6.length c0_6],.slice A1_0 y.length c1_0] W (qC.Post W F r):=by
 have S:=sT hown
 unfold qC.f at H
 refine ent 149 rfl rfl rfl (fun a E=>?_)
 refine sq fun K1 hK1=>pl0 (plx (t:=26) E S [iv x.f0,iv x.f1,iv x.f2,iv x.f3,.slice A0_4 x.f4.length c0_4,.slice A0_5 x.f5.length c0_5,.slice A0_6 x.f6.length c0_6] fun b2 u3 hb2 S a E=>plc E (.r 1 1 .nil) (fun a E=>pld (hK1 _ _ (sq fun K4 hK4=>sq fun K5 hK5=>?_))))
 have J22:∀ kq20,kq20≤k→∀(G:NV)(y18:Bool)(a:Act)(w':World),Env 149 G a→At G [(1,.slice A1_0 y.length c1_0),(2,.pointer (pb b2)),(33,.bool y18)]→Sm W F w' F [box b2 #[iv x.f0,iv x.f1,iv x.f2,iv x.f3,.slice A0_4 x.f4.length c0_4,.slice A0_5 x.f5.length c0_5,.slice A0_6 x.f6.length c0_6] 26]→qC.j19 kq20 x y y18=some r→K5 a w':=by
  intro kq20 hkq G y18 a u23 E A S H
  obtain _ | k21:=kq20
  exact zz H
  rw [qC.j19_s]at H
  obtain ⟨J,E⟩:=E.at A
  refine hK5 _ _ (E.ib 33 H (fun c24 E H=>?_) fun c24 E H=>?_)
  refine sq fun K25 hK25=>pl0 ?_
  obtain ⟨t27,h28,H⟩:=bd H
  refine plq E S en17 (qAT.calls k21 _ _ _ S.own.sub h28) fun u26 S a E=>plc E (.r 1 1 .nil) (fun a E=>pld (hK25 _ _ (wp_ret (qBZ ?_))))
  replace S:=S.tail
  obtain rfl:=si H
  exact rt1 E ⟨_,rfl,_,rfl,S⟩
  refine wp_skip (hK4 _ _ (sq fun K29 hK29=>pl0 (plc E (.r 0 1 .nil) (fun a E=>pla (t:=46) E S [.slice none 0 0,.slice none 0 0,.slice none 0 0,.slice none 0 0,.slice none 0 0,.slice none 0 0,.slice none 0 0,.slice none 0 0] fun b30 u31 hb30 S a E=>pls E S [.slice none 0 0,.slice none 0 0,.slice none 0 0,.slice none 0 0,.slice none 0 0,.slice none 0 0,.slice none 0 0,.slice none 0 0] fun u32 hb30 S a E=>pld (hK29 _ _ (sq fun K33 hK33=>rr E fun a E=>(wp_block ?_)))))))
  replace S:=S.nilrow (Kn.slice ki) 36
  replace S:=S.nilrow (Kn.slice ki) 36
  replace S:=S.nilrow (Kn.slice ki) 36
  replace S:=S.nilrow (Kn.slice ki) 36
  replace S:=S.nilrow (Kn.slice ki) 36
  replace S:=S.nilrow (Kn.slice ki) 36
  replace S:=S.nilrow (Kn.slice ki) 36
  replace S:=S.nilrow (Kn.slice ki) 36
  replace S:=S.pm [8,9,7,6,5,4,3,2,1,0] 10
  refine wp_loop_ghost (fun kq86 a w'=>∃(G:NV)(x43:Int)(A44:OA)(c45:Nat)(l46:List (List Int))(A47:OA)(c48:Nat)(l49:List (List Int))(A50:OA)(c51:Nat)(l52:List (List Int))(A53:OA)(c54:Nat)(l55:List (List Int))(A56:OA)(c57:Nat)(l58:List (List Int))(A59:OA)(c60:Nat)(l61:List (List Int))(A62:OA)(c63:Nat)(l64:List (List Int))(A65:OA)(c66:Nat)(l67:List (List Int))(x68:Int)(x69:Int)(x70:Int)(x71:Int)(A72:OA)(c73:Nat)(l74:List qA)(A76:OA)(c77:Nat)(l78:List qE)(A80:OA)(c81:Nat)(l82:List qD)(F84:World),kq86≤k21∧Env 149 G a∧At G [(1,.slice A1_0 y.length c1_0),(2,.pointer (pb b2)),(5,.pointer (pb b30)),(6,iv x43)]∧Sm W F w' F84 [box b30 #[.slice A44 l46.length c45,.slice A47 l49.length c48,.slice A50 l52.length c51,.slice A53 l55.length c54,.slice A56 l58.length c57,.slice A59 l61.length c60,.slice A62 l64.length c63,.slice A65 l67.length c66] 46,box b2 #[iv x68,iv x69,iv x70,iv x71,.slice A72 l74.length c73,.slice A76 l78.length c77,.slice A80 l82.length c81] 26,row (Kn.slice ki) 36 (.slice A44 l46.length c45) l46,row (Kn.slice ki) 36 (.slice A47 l49.length c48) l49,row (Kn.slice ki) 36 (.slice A50 l52.length c51) l52,row (Kn.slice ki) 36 (.slice A53 l55.length c54) l55,row (Kn.slice ki) 36 (.slice A56 l58.length c57) l58,row (Kn.slice ki) 36 (.slice A59 l61.length c60) l61,row (Kn.slice ki) 36 (.slice A62 l64.length c63) l64,row (Kn.slice ki) 36 (.slice A65 l67.length c66) l67]∧Rd qA.k F84 A72 c73 l74∧Rd qE.k F84 A76 c77 l78∧Rd qD.k F84 A80 c81 l82∧Rd qU.k F84 A1_0 c1_0 y∧qC.l85 kq86 y x43 l46 l49 l52 l55 l58 l61 l64 l67 x68 x69 x70 x71 l74 l78 l82=some r) k21 ⟨_,0,none,0,[],none,0,[],none,0,[],none,0,[],none,0,[],none,0,[],none,0,[],none,0,[],x.f0,x.f1,x.f2,x.f3,A0_4,c0_4,x.f4,A0_5,c0_5,x.f5,A0_6,c0_6,x.f6,F,Nat.le_refl _,E,.of,S,g0_4,g0_5,g0_6,g1_0,H⟩ ?_
  rintro kq86 a u88 ⟨G,x43,A44,c45,l46,A47,c48,l49,A50,c51,l52,A53,c54,l55,A56,c57,l58,A59,c60,l61,A62,c63,l64,A65,c66,l67,x68,x69,x70,x71,A72,c73,l74,A76,c77,l78,A80,c81,l82,F84,hkq,E,A,S,g75,g79,g83,g1_0,H⟩
  obtain _ | k87:=kq86
  exact zz H
  rw [qC.l85_s]at H
  obtain ⟨J,E⟩:=E.at A
  refine sq fun K89 hK89=>rr E fun a E=>(E.ik 39 H (fun c91 E H=>?_) fun c91 E H=>?_)
  refine wp_skip (hK89 _ _ (sq fun K92 hK92=>wp_block (sq fun K93 hK93=>rr E fun a E=>(wp_block ?_))))
  refine wp_loop_ghost (fun kq130 a w'=>∃(G:NV)(x103:Int)(A104:OA)(c105:Nat)(l106:List (List Int))(A107:OA)(c108:Nat)(l109:List (List Int))(A110:OA)(c111:Nat)(l112:List (List Int))(A113:OA)(c114:Nat)(l115:List (List Int))(A116:OA)(c117:Nat)(l118:List (List Int))(A119:OA)(c120:Nat)(l121:List (List Int))(A122:OA)(c123:Nat)(l124:List (List Int))(A125:OA)(c126:Nat)(l127:List (List Int))(F128:World),kq130≤k87∧Env 149 G a∧At G [(1,.slice A1_0 y.length c1_0),(2,.pointer (pb b2)),(5,.pointer (pb b30)),(6,iv x43),(7,iv x103)]∧Sm W F w' F128 [box b30 #[.slice A104 l106.length c105,.slice A107 l109.length c108,.slice A110 l112.length c111,.slice A113 l115.length c114,.slice A116 l118.length c117,.slice A119 l121.length c120,.slice A122 l124.length c123,.slice A125 l127.length c126] 46,box b2 #[iv x68,iv x69,iv x70,iv x71,.slice A72 l74.length c73,.slice A76 l78.length c77,.slice A80 l82.length c81] 26,row (Kn.slice ki) 36 (.slice A104 l106.length c105) l106,row (Kn.slice ki) 36 (.slice A107 l109.length c108) l109,row (Kn.slice ki) 36 (.slice A110 l112.length c111) l112,row (Kn.slice ki) 36 (.slice A113 l115.length c114) l115,row (Kn.slice ki) 36 (.slice A116 l118.length c117) l118,row (Kn.slice ki) 36 (.slice A119 l121.length c120) l121,row (Kn.slice ki) 36 (.slice A122 l124.length c123) l124,row (Kn.slice ki) 36 (.slice A125 l127.length c126) l127]∧Rd qU.k F128 A1_0 c1_0 y∧Rd qA.k F128 A72 c73 l74∧Rd qE.k F128 A76 c77 l78∧Rd qD.k F128 A80 c81 l82∧qC.l129 kq130 y x43 x68 x69 x70 x71 l74 l78 l82 x103 l106 l109 l112 l115 l118 l121 l124 l127=some r) k87 ⟨_,0,A44,c45,l46,A47,c48,l49,A50,c51,l52,A53,c54,l55,A56,c57,l58,A59,c60,l61,A62,c63,l64,A65,c66,l67,F84,Nat.le_refl _,E,.of,S,g1_0,g75,g79,g83,H⟩ ?_
  rintro kq130 a u132 ⟨G,x103,A104,c105,l106,A107,c108,l109,A110,c111,l112,A113,c114,l115,A116,c117,l118,A119,c120,l121,A122,c123,l124,A125,c126,l127,F128,hkq,E,A,S,g1_0,g75,g79,g83,H⟩
  obtain _ | k131:=kq130
  exact zz H
  rw [qC.l129_s]at H
  obtain ⟨J,E⟩:=E.at A
  refine sq fun K133 hK133=>sq fun K134 hK134=>pl0 ?_
  have hb2:=S.ba 1
  refine plc E (.r 0 2<|.b 2 3 hb2<|.r 3 1<|.nil) (fun a E=>pld (hK134 _ _ (E.ik 45 H (fun c135 E H=>?_) fun c135 E H=>?_)))
  refine wp_skip (hK133 _ _ (sq fun K136 hK136=>wp_block (sq fun K137 hK137=>pl0 (plc E (.bn 0 0 7 hb2<|.r 1 1<|.nil) (fun a E=>?_)))))
  obtain ⟨t139,h140,H⟩:=bd H
  refine ple E (.cl en24 (qAe.calls k131 (⟨x68,x69,x70,x71,l74,l78,l82⟩:qG) x103 _ _ _ _ _ _ _ _ _ S.own.sub g75 g79 g83 h140)) ?_
  rintro _ u138 a ⟨F141,A142,c143,rfl,hC⟩ E
  have hs:=hC.sub
  replace S:=S.called (X:=[]) hC
  replace g1_0:=g1_0.mono hs
  replace g75:=g75.mono hs
  replace g79:=g79.mono hs
  replace g83:=g83.mono hs
  refine plc E (.r 3 1 .nil) (fun a E=>pld (hK137 _ _ (rg E (.r 0 3<|.b 3 2 (S.ba 2)<|.r 4 1<|.nil) fun a E=>(E.ik 55 H (fun c147 E H=>?_) fun c147 E H=>?_))))
  refine pl0 (plc E (.r 0 2 .nil) (fun a E=>?_))
  rcases sp H with ⟨c148,H⟩ | ⟨c148,H⟩
  replace E:=E.set (d:=57) (v:=iv 0) (Eq.trans (b:=iv x103) (by kernel_rfl) (congrArg _ c148))
  replace E:=E.set (d:=7) (v:=iv 0) (Eq.trans (b:=iv x103) (by kernel_rfl) (congrArg _ c148))
  replace E:=E.set (d:=42) (v:=iv 0) (Eq.trans (b:=iv x103) (by kernel_rfl) (congrArg _ c148))
  replace E:=E.set (d:=49) (v:=iv 0) (Eq.trans (b:=iv x103) (by kernel_rfl) (congrArg _ c148))
  replace E:=E.set (d:=56) (v:=iv 0) (Eq.trans (b:=iv x103) (by kernel_rfl) (congrArg _ c148))
  refine plc E (.r 2 1<|.b 3 0 (S.ba 1)<|.r 4 1<|.nil) (fun a E=>?_)
  obtain ⟨F152,hs,g153,S⟩:=S.give
  replace g1_0:=g1_0.mono hs
  replace g75:=g75.mono hs
  replace g79:=g79.mono hs
  replace g83:=g83.mono hs
  refine ple E (.lit (d:=(Kn.slice ki)) (e:=36) S [t139] (.cons ⟨_,_,rfl,g153⟩ .nil)) ?_
  rintro _ u149 a ⟨A150,c151,rfl,S,hg⟩ E
  obtain ⟨c155,H⟩:=gd H
  replace S:=S.front 3 rfl
  refine ple E (.ap (d:=(Kn.slice ki)) 24 S (qBn (S.row_at (i:=1) rfl)) c155 c151) ?_
  rintro _ u158 a ⟨A156,c157,rfl,S,hz⟩ E
  refine plc E (.r 7 1 .nil) (fun a E=>?_)
  replace S:=S.front 2 rfl
  refine pls E S [.slice A156 ((l106++[t139]).length) c157,.slice A107 l109.length c108,.slice A110 l112.length c111,.slice A113 l115.length c114,.slice A116 l118.length c117,.slice A119 l121.length c120,.slice A122 l124.length c123,.slice A125 l127.length c126] fun u159 hb30 S a E=>pld ?_
  refine qBb ?_
  refine hK136 _ _ (pl0 (plc E (.r 0 3 .nil) (fun a E=>pld ?_)))
  replace S:=S.pm [0,3,1] 4
  exact qBc ⟨k131,by omega,_,(w64 (0+1)),A156,c157,(l106++[t139]),A107,c108,l109,A110,c111,l112,A113,c114,l115,A116,c117,l118,A119,c120,l121,A122,c123,l124,A125,c126,l127,F152,by omega,E,.of,S,g1_0,g75,g79,g83,H⟩
  rcases sp H with ⟨c160,H⟩ | ⟨c160,H⟩
  replace E:=E.set (d:=57) (v:=iv 1) (Eq.trans (b:=iv x103) (by kernel_rfl) (congrArg _ c160))
  replace E:=E.set (d:=7) (v:=iv 1) (Eq.trans (b:=iv x103) (by kernel_rfl) (congrArg _ c160))
  replace E:=E.set (d:=42) (v:=iv 1) (Eq.trans (b:=iv x103) (by kernel_rfl) (congrArg _ c160))
  replace E:=E.set (d:=49) (v:=iv 1) (Eq.trans (b:=iv x103) (by kernel_rfl) (congrArg _ c160))
  replace E:=E.set (d:=56) (v:=iv 1) (Eq.trans (b:=iv x103) (by kernel_rfl) (congrArg _ c160))
  refine plc E (.r 2 1<|.b 3 1 (S.ba 1)<|.r 4 1<|.nil) (fun a E=>?_)
  obtain ⟨F164,hs,g165,S⟩:=S.give
  replace g1_0:=g1_0.mono hs
  replace g75:=g75.mono hs
  replace g79:=g79.mono hs
  replace g83:=g83.mono hs
  refine ple E (.lit (d:=(Kn.slice ki)) (e:=36) S [t139] (.cons ⟨_,_,rfl,g165⟩ .nil)) ?_
  rintro _ u161 a ⟨A162,c163,rfl,S,hg⟩ E
  obtain ⟨c167,H⟩:=gd H
  replace S:=S.front 4 rfl
  refine ple E (.ap (d:=(Kn.slice ki)) 24 S (qBn (S.row_at (i:=1) rfl)) c167 c163) ?_
  rintro _ u170 a ⟨A168,c169,rfl,S,hz⟩ E
  refine plc E (.r 7 1 .nil) (fun a E=>?_)
  replace S:=S.front 2 rfl
  refine pls E S [.slice A104 l106.length c105,.slice A168 ((l109++[t139]).length) c169,.slice A110 l112.length c111,.slice A113 l115.length c114,.slice A116 l118.length c117,.slice A119 l121.length c120,.slice A122 l124.length c123,.slice A125 l127.length c126] fun u171 hb30 S a E=>pld ?_
  refine qBb ?_
  refine hK136 _ _ (pl0 (plc E (.r 0 3 .nil) (fun a E=>pld ?_)))
  replace S:=S.pm [0,3,4,1] 5
  exact qBc ⟨k131,by omega,_,(w64 (1+1)),A104,c105,l106,A168,c169,(l109++[t139]),A110,c111,l112,A113,c114,l115,A116,c117,l118,A119,c120,l121,A122,c123,l124,A125,c126,l127,F164,by omega,E,.of,S,g1_0,g75,g79,g83,H⟩
  rcases sp H with ⟨c172,H⟩ | ⟨c172,H⟩
  replace E:=E.set (d:=57) (v:=iv 2) (Eq.trans (b:=iv x103) (by kernel_rfl) (congrArg _ c172))
  replace E:=E.set (d:=7) (v:=iv 2) (Eq.trans (b:=iv x103) (by kernel_rfl) (congrArg _ c172))
  replace E:=E.set (d:=42) (v:=iv 2) (Eq.trans (b:=iv x103) (by kernel_rfl) (congrArg _ c172))
  replace E:=E.set (d:=49) (v:=iv 2) (Eq.trans (b:=iv x103) (by kernel_rfl) (congrArg _ c172))
  replace E:=E.set (d:=56) (v:=iv 2) (Eq.trans (b:=iv x103) (by kernel_rfl) (congrArg _ c172))
  refine plc E (.r 2 1<|.b 3 2 (S.ba 1)<|.r 4 1<|.nil) (fun a E=>?_)
  obtain ⟨F176,hs,g177,S⟩:=S.give
  replace g1_0:=g1_0.mono hs
  replace g75:=g75.mono hs
  replace g79:=g79.mono hs
  replace g83:=g83.mono hs
  refine ple E (.lit (d:=(Kn.slice ki)) (e:=36) S [t139] (.cons ⟨_,_,rfl,g177⟩ .nil)) ?_
  rintro _ u173 a ⟨A174,c175,rfl,S,hg⟩ E
  obtain ⟨c179,H⟩:=gd H
  replace S:=S.front 5 rfl
  refine ple E (.ap (d:=(Kn.slice ki)) 24 S (qBn (S.row_at (i:=1) rfl)) c179 c175) ?_
  rintro _ u182 a ⟨A180,c181,rfl,S,hz⟩ E
  refine plc E (.r 7 1 .nil) (fun a E=>?_)
  replace S:=S.front 2 rfl
  refine pls E S [.slice A104 l106.length c105,.slice A107 l109.length c108,.slice A180 ((l112++[t139]).length) c181,.slice A113 l115.length c114,.slice A116 l118.length c117,.slice A119 l121.length c120,.slice A122 l124.length c123,.slice A125 l127.length c126] fun u183 hb30 S a E=>pld ?_
  refine qBb ?_
  refine hK136 _ _ (pl0 (plc E (.r 0 3 .nil) (fun a E=>pld ?_)))
  replace S:=S.pm [0,3,4,5,1] 6
  exact qBc ⟨k131,by omega,_,(w64 (2+1)),A104,c105,l106,A107,c108,l109,A180,c181,(l112++[t139]),A113,c114,l115,A116,c117,l118,A119,c120,l121,A122,c123,l124,A125,c126,l127,F176,by omega,E,.of,S,g1_0,g75,g79,g83,H⟩
  rcases sp H with ⟨c184,H⟩ | ⟨c184,H⟩
  replace E:=E.set (d:=57) (v:=iv 3) (Eq.trans (b:=iv x103) (by kernel_rfl) (congrArg _ c184))
  replace E:=E.set (d:=7) (v:=iv 3) (Eq.trans (b:=iv x103) (by kernel_rfl) (congrArg _ c184))
  replace E:=E.set (d:=42) (v:=iv 3) (Eq.trans (b:=iv x103) (by kernel_rfl) (congrArg _ c184))
  replace E:=E.set (d:=49) (v:=iv 3) (Eq.trans (b:=iv x103) (by kernel_rfl) (congrArg _ c184))
  replace E:=E.set (d:=56) (v:=iv 3) (Eq.trans (b:=iv x103) (by kernel_rfl) (congrArg _ c184))
  refine plc E (.r 2 1<|.b 3 3 (S.ba 1)<|.r 4 1<|.nil) (fun a E=>?_)
  obtain ⟨F188,hs,g189,S⟩:=S.give
  replace g1_0:=g1_0.mono hs
  replace g75:=g75.mono hs
  replace g79:=g79.mono hs
  replace g83:=g83.mono hs
  refine ple E (.lit (d:=(Kn.slice ki)) (e:=36) S [t139] (.cons ⟨_,_,rfl,g189⟩ .nil)) ?_
  rintro _ u185 a ⟨A186,c187,rfl,S,hg⟩ E
  obtain ⟨c191,H⟩:=gd H
  replace S:=S.front 6 rfl
  refine ple E (.ap (d:=(Kn.slice ki)) 24 S (qBn (S.row_at (i:=1) rfl)) c191 c187) ?_
  rintro _ u194 a ⟨A192,c193,rfl,S,hz⟩ E
  refine plc E (.r 7 1 .nil) (fun a E=>?_)
  replace S:=S.front 2 rfl
  refine pls E S [.slice A104 l106.length c105,.slice A107 l109.length c108,.slice A110 l112.length c111,.slice A192 ((l115++[t139]).length) c193,.slice A116 l118.length c117,.slice A119 l121.length c120,.slice A122 l124.length c123,.slice A125 l127.length c126] fun u195 hb30 S a E=>pld ?_
  refine qBb ?_
  refine hK136 _ _ (pl0 (plc E (.r 0 3 .nil) (fun a E=>pld ?_)))
  replace S:=S.pm [0,3,4,5,6,1] 7
  exact qBc ⟨k131,by omega,_,(w64 (3+1)),A104,c105,l106,A107,c108,l109,A110,c111,l112,A192,c193,(l115++[t139]),A116,c117,l118,A119,c120,l121,A122,c123,l124,A125,c126,l127,F188,by omega,E,.of,S,g1_0,g75,g79,g83,H⟩
  rcases sp H with ⟨c196,H⟩ | ⟨c196,H⟩
  replace E:=E.set (d:=57) (v:=iv 4) (Eq.trans (b:=iv x103) (by kernel_rfl) (congrArg _ c196))
  replace E:=E.set (d:=7) (v:=iv 4) (Eq.trans (b:=iv x103) (by kernel_rfl) (congrArg _ c196))
  replace E:=E.set (d:=42) (v:=iv 4) (Eq.trans (b:=iv x103) (by kernel_rfl) (congrArg _ c196))
  replace E:=E.set (d:=49) (v:=iv 4) (Eq.trans (b:=iv x103) (by kernel_rfl) (congrArg _ c196))
  replace E:=E.set (d:=56) (v:=iv 4) (Eq.trans (b:=iv x103) (by kernel_rfl) (congrArg _ c196))
  refine plc E (.r 2 1<|.b 3 4 (S.ba 1)<|.r 4 1<|.nil) (fun a E=>?_)
  obtain ⟨F200,hs,g201,S⟩:=S.give
  replace g1_0:=g1_0.mono hs
  replace g75:=g75.mono hs
  replace g79:=g79.mono hs
  replace g83:=g83.mono hs
  refine ple E (.lit (d:=(Kn.slice ki)) (e:=36) S [t139] (.cons ⟨_,_,rfl,g201⟩ .nil)) ?_
  rintro _ u197 a ⟨A198,c199,rfl,S,hg⟩ E
  obtain ⟨c203,H⟩:=gd H
  replace S:=S.front 7 rfl
  refine ple E (.ap (d:=(Kn.slice ki)) 24 S (qBn (S.row_at (i:=1) rfl)) c203 c199) ?_
  rintro _ u206 a ⟨A204,c205,rfl,S,hz⟩ E
  refine plc E (.r 7 1 .nil) (fun a E=>?_)
  replace S:=S.front 2 rfl
  refine pls E S [.slice A104 l106.length c105,.slice A107 l109.length c108,.slice A110 l112.length c111,.slice A113 l115.length c114,.slice A204 ((l118++[t139]).length) c205,.slice A119 l121.length c120,.slice A122 l124.length c123,.slice A125 l127.length c126] fun u207 hb30 S a E=>pld ?_
  refine qBb ?_
  refine hK136 _ _ (pl0 (plc E (.r 0 3 .nil) (fun a E=>pld ?_)))
  replace S:=S.pm [0,3,4,5,6,7,1] 8
  exact qBc ⟨k131,by omega,_,(w64 (4+1)),A104,c105,l106,A107,c108,l109,A110,c111,l112,A113,c114,l115,A204,c205,(l118++[t139]),A119,c120,l121,A122,c123,l124,A125,c126,l127,F200,by omega,E,.of,S,g1_0,g75,g79,g83,H⟩
  rcases sp H with ⟨c208,H⟩ | ⟨c208,H⟩
  replace E:=E.set (d:=57) (v:=iv 5) (Eq.trans (b:=iv x103) (by kernel_rfl) (congrArg _ c208))
  replace E:=E.set (d:=7) (v:=iv 5) (Eq.trans (b:=iv x103) (by kernel_rfl) (congrArg _ c208))
  replace E:=E.set (d:=42) (v:=iv 5) (Eq.trans (b:=iv x103) (by kernel_rfl) (congrArg _ c208))
  replace E:=E.set (d:=49) (v:=iv 5) (Eq.trans (b:=iv x103) (by kernel_rfl) (congrArg _ c208))
  replace E:=E.set (d:=56) (v:=iv 5) (Eq.trans (b:=iv x103) (by kernel_rfl) (congrArg _ c208))
  refine plc E (.r 2 1<|.b 3 5 (S.ba 1)<|.r 4 1<|.nil) (fun a E=>?_)
  obtain ⟨F212,hs,g213,S⟩:=S.give
  replace g1_0:=g1_0.mono hs
  replace g75:=g75.mono hs
  replace g79:=g79.mono hs
  replace g83:=g83.mono hs
  refine ple E (.lit (d:=(Kn.slice ki)) (e:=36) S [t139] (.cons ⟨_,_,rfl,g213⟩ .nil)) ?_
  rintro _ u209 a ⟨A210,c211,rfl,S,hg⟩ E
  obtain ⟨c215,H⟩:=gd H
  replace S:=S.front 8 rfl
  refine ple E (.ap (d:=(Kn.slice ki)) 24 S (qBn (S.row_at (i:=1) rfl)) c215 c211) ?_
  rintro _ u218 a ⟨A216,c217,rfl,S,hz⟩ E
  refine plc E (.r 7 1 .nil) (fun a E=>?_)
  replace S:=S.front 2 rfl
  refine pls E S [.slice A104 l106.length c105,.slice A107 l109.length c108,.slice A110 l112.length c111,.slice A113 l115.length c114,.slice A116 l118.length c117,.slice A216 ((l121++[t139]).length) c217,.slice A122 l124.length c123,.slice A125 l127.length c126] fun u219 hb30 S a E=>pld ?_
  refine qBb ?_
  refine hK136 _ _ (pl0 (plc E (.r 0 3 .nil) (fun a E=>pld ?_)))
  replace S:=S.pm [0,3,4,5,6,7,8,1] 9
  exact qBc ⟨k131,by omega,_,(w64 (5+1)),A104,c105,l106,A107,c108,l109,A110,c111,l112,A113,c114,l115,A116,c117,l118,A216,c217,(l121++[t139]),A122,c123,l124,A125,c126,l127,F212,by omega,E,.of,S,g1_0,g75,g79,g83,H⟩
  rcases sp H with ⟨c220,H⟩ | ⟨c220,H⟩
  replace E:=E.set (d:=57) (v:=iv 6) (Eq.trans (b:=iv x103) (by kernel_rfl) (congrArg _ c220))
  replace E:=E.set (d:=7) (v:=iv 6) (Eq.trans (b:=iv x103) (by kernel_rfl) (congrArg _ c220))
  replace E:=E.set (d:=42) (v:=iv 6) (Eq.trans (b:=iv x103) (by kernel_rfl) (congrArg _ c220))
  replace E:=E.set (d:=49) (v:=iv 6) (Eq.trans (b:=iv x103) (by kernel_rfl) (congrArg _ c220))
  replace E:=E.set (d:=56) (v:=iv 6) (Eq.trans (b:=iv x103) (by kernel_rfl) (congrArg _ c220))
  refine plc E (.r 2 1<|.b 3 6 (S.ba 1)<|.r 4 1<|.nil) (fun a E=>?_)
  obtain ⟨F224,hs,g225,S⟩:=S.give
  replace g1_0:=g1_0.mono hs
  replace g75:=g75.mono hs
  replace g79:=g79.mono hs
  replace g83:=g83.mono hs
  refine ple E (.lit (d:=(Kn.slice ki)) (e:=36) S [t139] (.cons ⟨_,_,rfl,g225⟩ .nil)) ?_
  rintro _ u221 a ⟨A222,c223,rfl,S,hg⟩ E
  obtain ⟨c227,H⟩:=gd H
  replace S:=S.front 9 rfl
  refine ple E (.ap (d:=(Kn.slice ki)) 24 S (qBn (S.row_at (i:=1) rfl)) c227 c223) ?_
  rintro _ u230 a ⟨A228,c229,rfl,S,hz⟩ E
  refine plc E (.r 7 1 .nil) (fun a E=>?_)
  replace S:=S.front 2 rfl
  refine pls E S [.slice A104 l106.length c105,.slice A107 l109.length c108,.slice A110 l112.length c111,.slice A113 l115.length c114,.slice A116 l118.length c117,.slice A119 l121.length c120,.slice A228 ((l124++[t139]).length) c229,.slice A125 l127.length c126] fun u231 hb30 S a E=>pld ?_
  refine qBb ?_
  refine hK136 _ _ (pl0 (plc E (.r 0 3 .nil) (fun a E=>pld ?_)))
  replace S:=S.pm [0,3,4,5,6,7,8,9,1] 10
  exact qBc ⟨k131,by omega,_,(w64 (6+1)),A104,c105,l106,A107,c108,l109,A110,c111,l112,A113,c114,l115,A116,c117,l118,A119,c120,l121,A228,c229,(l124++[t139]),A125,c126,l127,F224,by omega,E,.of,S,g1_0,g75,g79,g83,H⟩
  rcases sp H with ⟨c232,H⟩ | ⟨c232,H⟩
  replace E:=E.set (d:=57) (v:=iv 7) (Eq.trans (b:=iv x103) (by kernel_rfl) (congrArg _ c232))
  replace E:=E.set (d:=7) (v:=iv 7) (Eq.trans (b:=iv x103) (by kernel_rfl) (congrArg _ c232))
  replace E:=E.set (d:=42) (v:=iv 7) (Eq.trans (b:=iv x103) (by kernel_rfl) (congrArg _ c232))
  replace E:=E.set (d:=49) (v:=iv 7) (Eq.trans (b:=iv x103) (by kernel_rfl) (congrArg _ c232))
  replace E:=E.set (d:=56) (v:=iv 7) (Eq.trans (b:=iv x103) (by kernel_rfl) (congrArg _ c232))
  refine plc E (.r 2 1<|.b 3 7 (S.ba 1)<|.r 4 1<|.nil) (fun a E=>?_)
  obtain ⟨F236,hs,g237,S⟩:=S.give
  replace g1_0:=g1_0.mono hs
  replace g75:=g75.mono hs
  replace g79:=g79.mono hs
  replace g83:=g83.mono hs
  refine ple E (.lit (d:=(Kn.slice ki)) (e:=36) S [t139] (.cons ⟨_,_,rfl,g237⟩ .nil)) ?_
  rintro _ u233 a ⟨A234,c235,rfl,S,hg⟩ E
  obtain ⟨c239,H⟩:=gd H
  replace S:=S.front 10 rfl
  refine ple E (.ap (d:=(Kn.slice ki)) 24 S (qBn (S.row_at (i:=1) rfl)) c239 c235) ?_
  rintro _ u242 a ⟨A240,c241,rfl,S,hz⟩ E
  refine plc E (.r 7 1 .nil) (fun a E=>?_)
  replace S:=S.front 2 rfl
  refine pls E S [.slice A104 l106.length c105,.slice A107 l109.length c108,.slice A110 l112.length c111,.slice A113 l115.length c114,.slice A116 l118.length c117,.slice A119 l121.length c120,.slice A122 l124.length c123,.slice A240 ((l127++[t139]).length) c241] fun u243 hb30 S a E=>pld ?_
  refine qBb ?_
  refine hK136 _ _ (pl0 (plc E (.r 0 3 .nil) (fun a E=>pld ?_)))
  replace S:=S.pm [0,3,4,5,6,7,8,9,10,1] 11
  exact qBc ⟨k131,by omega,_,(w64 (7+1)),A104,c105,l106,A107,c108,l109,A110,c111,l112,A113,c114,l115,A116,c117,l118,A119,c120,l121,A122,c123,l124,A240,c241,(l127++[t139]),F236,by omega,E,.of,S,g1_0,g75,g79,g83,H⟩
  cases (show none=some r from H)
  refine wp_skip ?_
  refine qBb ?_
  refine hK136 _ _ (pl0 (plc E (.r 0 3 .nil) (fun a E=>pld ?_)))
  replace S:=S.tail
  exact qBc ⟨k131,by omega,_,(w64 (x103+1)),A104,c105,l106,A107,c108,l109,A110,c111,l112,A113,c114,l115,A116,c117,l118,A119,c120,l121,A122,c123,l124,A125,c126,l127,F141,by omega,E,.of,S,g1_0,g75,g79,g83,H⟩
  refine wp_exit ?_
  refine hK93 _ _ (sq fun K244 hK244=>?_)
  refine drawn 12 ⟨[10],[],fun q=>False⟩ mixed rfl (by kernel_rfl) (fun hst=>?_)
  replace S:=S.drew
  have hb2:=S.ba 1
  obtain ⟨c245,H⟩:=gd H
  have hE_:=E
  obtain ⟨ad246,rfl⟩:=g1_0.addr c245.1 c245.2
  replace E:=hE_
  obtain ⟨cs248,⟨A250,c251,rfl,g252⟩,hc249⟩:=g1_0.el qU.z x43 c245.1 c245.2
  refine mny 7 hst E (.bn 0 0 7 hb2<|.r 1 2<|.x 3 c245<|.cs 4 (S.fcs hc249)<|.nil) (fun a E=>?_)
  obtain ⟨t253,h254,H⟩:=bd H
  refine meet2 (fun a w'=>∃(G:NV)(b267:Nat)(A263:OA)(c264:Nat)(A257:OA)(c258:Nat)(A260:OA)(c261:Nat)(F270:World),Env 149 G a∧At G [(1,.slice (some ad246) y.length c1_0),(2,.pointer (pb b2)),(5,.pointer (pb b30)),(6,iv x43),(9,.pointer (pb b267)),(71,.agg #[iv t253.1.f0,iv t253.1.f1,iv t253.1.f2,iv t253.1.f3,.slice A257 t253.1.f4.length c258,.slice A260 t253.1.f5.length c261,.slice A263 t253.1.f6.length c264]),(72,iv t253.2)]∧Sm W F w' F270 [box b267 #[iv 0,iv 0,iv 0,iv 0,.slice none 0 0,.slice none 0 0,.slice none 0 0] 26,box b30 #[.slice A104 l106.length c105,.slice A107 l109.length c108,.slice A110 l112.length c111,.slice A113 l115.length c114,.slice A116 l118.length c117,.slice A119 l121.length c120,.slice A122 l124.length c123,.slice A125 l127.length c126] 46,box b2 #[iv x68,iv x69,iv x70,iv x71,.slice A72 l74.length c73,.slice A76 l78.length c77,.slice A80 l82.length c81] 26,row qD.k 49 (.slice A263 t253.1.f6.length c264) t253.1.f6,row (Kn.slice ki) 36 (.slice A104 l106.length c105) l106,row (Kn.slice ki) 36 (.slice A107 l109.length c108) l109,row (Kn.slice ki) 36 (.slice A110 l112.length c111) l112,row (Kn.slice ki) 36 (.slice A113 l115.length c114) l115,row (Kn.slice ki) 36 (.slice A116 l118.length c117) l118,row (Kn.slice ki) 36 (.slice A119 l121.length c120) l121,row (Kn.slice ki) 36 (.slice A122 l124.length c123) l124,row (Kn.slice ki) 36 (.slice A125 l127.length c126) l127]∧Rd qU.k F270 (some ad246) c1_0 y∧Rd qA.k F270 A257 c258 t253.1.f4∧Rd qE.k F270 A260 c261 t253.1.f5∧Rd qA.k F270 A72 c73 l74∧Rd qE.k F270 A76 c77 l78∧Rd qD.k F270 A80 c81 l82) 2 1023 ?_ (fun hJ=>?_)
  rintro a u271 ⟨G,b267,A263,c264,A257,c258,A260,c261,F270,E,A,S,g1_0,g259,g262,g75,g79,g83⟩
  obtain ⟨J,E⟩:=E.at A
  refine on1 10 E (.sto S [iv t253.1.f0,iv t253.1.f1,iv t253.1.f2,iv t253.1.f3,.slice A257 t253.1.f4.length c258,.slice A260 t253.1.f5.length c261,.slice A263 t253.1.f6.length c264]) ?_
  rintro _ u272 a ⟨rfl,hb267,S,hz⟩ E
  refine ⟨.d,?_⟩
  refine mny 0 hst E (.r 11 1 .nil) (fun a E=>?_)
  refine dn ?_
  refine hK244 _ _ (sq fun K273 hK273=>?_)
  have J346:∀ kq344,kq344≤k131→∀(G:NV)(A319:OA)(c320:Nat)(l321:List (List Int))(A322:OA)(c323:Nat)(l324:List (List Int))(A325:OA)(c326:Nat)(l327:List (List Int))(A328:OA)(c329:Nat)(l330:List (List Int))(A331:OA)(c332:Nat)(l333:List (List Int))(A334:OA)(c335:Nat)(l336:List (List Int))(A337:OA)(c338:Nat)(l339:List (List Int))(A340:OA)(c341:Nat)(l342:List (List Int))(a:Act)(w':World),Env 149 G a→At G [(1,.slice (some ad246) y.length c1_0),(2,.pointer (pb b2)),(5,.pointer (pb b30)),(6,iv x43),(9,.pointer (pb b267))]→Sm W F w' F270 [box b30 #[.slice A319 l321.length c320,.slice A322 l324.length c323,.slice A325 l327.length c326,.slice A328 l330.length c329,.slice A331 l333.length c332,.slice A334 l336.length c335,.slice A337 l339.length c338,.slice A340 l342.length c341] 46,box b267 #[iv t253.1.f0,iv t253.1.f1,iv t253.1.f2,iv t253.1.f3,.slice A257 t253.1.f4.length c258,.slice A260 t253.1.f5.length c261,.slice A263 t253.1.f6.length c264] 26,box b2 #[iv x68,iv x69,iv x70,iv x71,.slice A72 l74.length c73,.slice A76 l78.length c77,.slice A80 l82.length c81] 26,row qD.k 49 (.slice A263 t253.1.f6.length c264) t253.1.f6,row (Kn.slice ki) 36 (.slice A319 l321.length c320) l321,row (Kn.slice ki) 36 (.slice A322 l324.length c323) l324,row (Kn.slice ki) 36 (.slice A325 l327.length c326) l327,row (Kn.slice ki) 36 (.slice A328 l330.length c329) l330,row (Kn.slice ki) 36 (.slice A331 l333.length c332) l333,row (Kn.slice ki) 36 (.slice A334 l336.length c335) l336,row (Kn.slice ki) 36 (.slice A337 l339.length c338) l339,row (Kn.slice ki) 36 (.slice A340 l342.length c341) l342]→qC.j343 kq344 y x43 t253 l321 l324 l327 l330 l333 l336 l339 l342=some r→K273 a w':=by
   intro kq344 hkq G A319 c320 l321 A322 c323 l324 A325 c326 l327 A328 c329 l330 A331 c332 l333 A334 c335 l336 A337 c338 l339 A340 c341 l342 a u347 E A S H
   obtain _ | k345:=kq344
   exact zz H
   rw [qC.j343_s]at H
   obtain ⟨J,E⟩:=E.at A
   refine hK273 _ _ (pl0 (plc E (.bn 0 0 7 (S.ba 1) .nil) (fun a E=>?_)))
   replace S:=S.front 2 rfl
   refine pls E S [iv t253.1.f0,iv t253.1.f1,iv t253.1.f2,iv t253.1.f3,.slice A257 t253.1.f4.length c258,.slice A260 t253.1.f5.length c261,.slice A263 t253.1.f6.length c264] fun u348 hb2 S a E=>pld ?_
   refine qBb ?_
   refine hK92 _ _ (pl0 (plc E (.r 0 3 .nil) (fun a E=>pld ?_)))
   replace S:=S.front 3 rfl
   obtain ⟨F357,hs,g358,S⟩:=S.give
   replace g1_0:=g1_0.mono hs
   replace g259:=g259.mono hs
   replace g262:=g262.mono hs
   replace S:=S.pm [1,0] 3
   exact qBc ⟨k345,by omega,_,(w64 (x43+1)),A319,c320,l321,A322,c323,l324,A325,c326,l327,A328,c329,l330,A331,c332,l333,A334,c335,l336,A337,c338,l339,A340,c341,l342,t253.1.f0,t253.1.f1,t253.1.f2,t253.1.f3,A257,c258,t253.1.f4,A260,c261,t253.1.f5,A263,c264,t253.1.f6,F357,by omega,E,.of,S,g259,g262,g358,g1_0,H⟩
  refine sq fun K274 hK274=>?_
  have J286:∀ kq284,kq284≤k131→∀(G:NV)(y282:Bool)(a:Act)(w':World),Env 149 G a→At G [(1,.slice (some ad246) y.length c1_0),(2,.pointer (pb b2)),(5,.pointer (pb b30)),(6,iv x43),(9,.pointer (pb b267)),(82,.bool y282)]→Sm W F w' F270 [box b267 #[iv t253.1.f0,iv t253.1.f1,iv t253.1.f2,iv t253.1.f3,.slice A257 t253.1.f4.length c258,.slice A260 t253.1.f5.length c261,.slice A263 t253.1.f6.length c264] 26,box b30 #[.slice A104 l106.length c105,.slice A107 l109.length c108,.slice A110 l112.length c111,.slice A113 l115.length c114,.slice A116 l118.length c117,.slice A119 l121.length c120,.slice A122 l124.length c123,.slice A125 l127.length c126] 46,box b2 #[iv x68,iv x69,iv x70,iv x71,.slice A72 l74.length c73,.slice A76 l78.length c77,.slice A80 l82.length c81] 26,row qD.k 49 (.slice A263 t253.1.f6.length c264) t253.1.f6,row (Kn.slice ki) 36 (.slice A104 l106.length c105) l106,row (Kn.slice ki) 36 (.slice A107 l109.length c108) l109,row (Kn.slice ki) 36 (.slice A110 l112.length c111) l112,row (Kn.slice ki) 36 (.slice A113 l115.length c114) l115,row (Kn.slice ki) 36 (.slice A116 l118.length c117) l118,row (Kn.slice ki) 36 (.slice A119 l121.length c120) l121,row (Kn.slice ki) 36 (.slice A122 l124.length c123) l124,row (Kn.slice ki) 36 (.slice A125 l127.length c126) l127]→qC.j283 kq284 y x43 l106 l109 l112 l115 l118 l121 l124 l127 t253 y282=some r→K274 a w':=by
   intro kq284 hkq G y282 a u287 E A S H
   obtain _ | k285:=kq284
   exact zz H
   rw [qC.j283_s]at H
   obtain ⟨J,E⟩:=E.at A
   refine hK274 _ _ (E.ib 82 H (fun c288 E H=>?_) fun c288 E H=>?_)
   refine pl0 ?_
   obtain ⟨cs290,⟨A292,c293,rfl,g294⟩,hc291⟩:=g1_0.el qU.z x43 c245.1 c245.2
   refine plc E (.r 0 2<|.x 2 c245<|.r 3 1<|.c 4 (S.fc hc291 5)<|.nil) (fun a E=>?_)
   rcases sp H with ⟨c295,H⟩ | ⟨c295,H⟩
   replace E:=E.set (d:=87) (v:=iv 0) (Eq.trans (b:=iv ((nth qU.z y x43).f5)) (by kernel_rfl) (congrArg _ c295))
   refine plc E (.r 5 1 .nil) (fun a E=>?_)
   replace S:=S.front 1 rfl
   refine pls E S [.slice none 0 0,.slice A107 l109.length c108,.slice A110 l112.length c111,.slice A113 l115.length c114,.slice A116 l118.length c117,.slice A119 l121.length c120,.slice A122 l124.length c123,.slice A125 l127.length c126] fun u296 hb30 S a E=>pld ?_
   replace S:=S.nilrow (Kn.slice ki) 36
   replace S:=S.pm [1,2,3,4,0] 6
   exact J346 _ (by omega) _ none 0 [] A107 c108 l109 A110 c111 l112 A113 c114 l115 A116 c117 l118 A119 c120 l121 A122 c123 l124 A125 c126 l127 _ _ E .of S H
   rcases sp H with ⟨c297,H⟩ | ⟨c297,H⟩
   replace E:=E.set (d:=87) (v:=iv 1) (Eq.trans (b:=iv ((nth qU.z y x43).f5)) (by kernel_rfl) (congrArg _ c297))
   refine plc E (.r 5 1 .nil) (fun a E=>?_)
   replace S:=S.front 1 rfl
   refine pls E S [.slice A104 l106.length c105,.slice none 0 0,.slice A110 l112.length c111,.slice A113 l115.length c114,.slice A116 l118.length c117,.slice A119 l121.length c120,.slice A122 l124.length c123,.slice A125 l127.length c126] fun u298 hb30 S a E=>pld ?_
   replace S:=S.nilrow (Kn.slice ki) 36
   replace S:=S.pm [1,2,3,4,5,0] 7
   exact J346 _ (by omega) _ A104 c105 l106 none 0 [] A110 c111 l112 A113 c114 l115 A116 c117 l118 A119 c120 l121 A122 c123 l124 A125 c126 l127 _ _ E .of S H
   rcases sp H with ⟨c299,H⟩ | ⟨c299,H⟩
   replace E:=E.set (d:=87) (v:=iv 2) (Eq.trans (b:=iv ((nth qU.z y x43).f5)) (by kernel_rfl) (congrArg _ c299))
   refine plc E (.r 5 1 .nil) (fun a E=>?_)
   replace S:=S.front 1 rfl
   refine pls E S [.slice A104 l106.length c105,.slice A107 l109.length c108,.slice none 0 0,.slice A113 l115.length c114,.slice A116 l118.length c117,.slice A119 l121.length c120,.slice A122 l124.length c123,.slice A125 l127.length c126] fun u300 hb30 S a E=>pld ?_
   replace S:=S.nilrow (Kn.slice ki) 36
   replace S:=S.pm [1,2,3,4,5,6,0] 8
   exact J346 _ (by omega) _ A104 c105 l106 A107 c108 l109 none 0 [] A113 c114 l115 A116 c117 l118 A119 c120 l121 A122 c123 l124 A125 c126 l127 _ _ E .of S H
   rcases sp H with ⟨c301,H⟩ | ⟨c301,H⟩
   replace E:=E.set (d:=87) (v:=iv 3) (Eq.trans (b:=iv ((nth qU.z y x43).f5)) (by kernel_rfl) (congrArg _ c301))
   refine plc E (.r 5 1 .nil) (fun a E=>?_)
   replace S:=S.front 1 rfl
   refine pls E S [.slice A104 l106.length c105,.slice A107 l109.length c108,.slice A110 l112.length c111,.slice none 0 0,.slice A116 l118.length c117,.slice A119 l121.length c120,.slice A122 l124.length c123,.slice A125 l127.length c126] fun u302 hb30 S a E=>pld ?_
   replace S:=S.nilrow (Kn.slice ki) 36
   replace S:=S.pm [1,2,3,4,5,6,7,0] 9
   exact J346 _ (by omega) _ A104 c105 l106 A107 c108 l109 A110 c111 l112 none 0 [] A116 c117 l118 A119 c120 l121 A122 c123 l124 A125 c126 l127 _ _ E .of S H
   rcases sp H with ⟨c303,H⟩ | ⟨c303,H⟩
   replace E:=E.set (d:=87) (v:=iv 4) (Eq.trans (b:=iv ((nth qU.z y x43).f5)) (by kernel_rfl) (congrArg _ c303))
   refine plc E (.r 5 1 .nil) (fun a E=>?_)
   replace S:=S.front 1 rfl
   refine pls E S [.slice A104 l106.length c105,.slice A107 l109.length c108,.slice A110 l112.length c111,.slice A113 l115.length c114,.slice none 0 0,.slice A119 l121.length c120,.slice A122 l124.length c123,.slice A125 l127.length c126] fun u304 hb30 S a E=>pld ?_
   replace S:=S.nilrow (Kn.slice ki) 36
   replace S:=S.pm [1,2,3,4,5,6,7,8,0] 10
   exact J346 _ (by omega) _ A104 c105 l106 A107 c108 l109 A110 c111 l112 A113 c114 l115 none 0 [] A119 c120 l121 A122 c123 l124 A125 c126 l127 _ _ E .of S H
   rcases sp H with ⟨c305,H⟩ | ⟨c305,H⟩
   replace E:=E.set (d:=87) (v:=iv 5) (Eq.trans (b:=iv ((nth qU.z y x43).f5)) (by kernel_rfl) (congrArg _ c305))
   refine plc E (.r 5 1 .nil) (fun a E=>?_)
   replace S:=S.front 1 rfl
   refine pls E S [.slice A104 l106.length c105,.slice A107 l109.length c108,.slice A110 l112.length c111,.slice A113 l115.length c114,.slice A116 l118.length c117,.slice none 0 0,.slice A122 l124.length c123,.slice A125 l127.length c126] fun u306 hb30 S a E=>pld ?_
   replace S:=S.nilrow (Kn.slice ki) 36
   replace S:=S.pm [1,2,3,4,5,6,7,8,9,0] 11
   exact J346 _ (by omega) _ A104 c105 l106 A107 c108 l109 A110 c111 l112 A113 c114 l115 A116 c117 l118 none 0 [] A122 c123 l124 A125 c126 l127 _ _ E .of S H
   rcases sp H with ⟨c307,H⟩ | ⟨c307,H⟩
   replace E:=E.set (d:=87) (v:=iv 6) (Eq.trans (b:=iv ((nth qU.z y x43).f5)) (by kernel_rfl) (congrArg _ c307))
   refine plc E (.r 5 1 .nil) (fun a E=>?_)
   replace S:=S.front 1 rfl
   refine pls E S [.slice A104 l106.length c105,.slice A107 l109.length c108,.slice A110 l112.length c111,.slice A113 l115.length c114,.slice A116 l118.length c117,.slice A119 l121.length c120,.slice none 0 0,.slice A125 l127.length c126] fun u308 hb30 S a E=>pld ?_
   replace S:=S.nilrow (Kn.slice ki) 36
   replace S:=S.pm [1,2,3,4,5,6,7,8,9,10,0] 12
   exact J346 _ (by omega) _ A104 c105 l106 A107 c108 l109 A110 c111 l112 A113 c114 l115 A116 c117 l118 A119 c120 l121 none 0 [] A125 c126 l127 _ _ E .of S H
   rcases sp H with ⟨c309,H⟩ | ⟨c309,H⟩
   replace E:=E.set (d:=87) (v:=iv 7) (Eq.trans (b:=iv ((nth qU.z y x43).f5)) (by kernel_rfl) (congrArg _ c309))
   refine plc E (.r 5 1 .nil) (fun a E=>?_)
   replace S:=S.front 1 rfl
   refine pls E S [.slice A104 l106.length c105,.slice A107 l109.length c108,.slice A110 l112.length c111,.slice A113 l115.length c114,.slice A116 l118.length c117,.slice A119 l121.length c120,.slice A122 l124.length c123,.slice none 0 0] fun u310 hb30 S a E=>pld ?_
   replace S:=S.nilrow (Kn.slice ki) 36
   replace S:=S.pm [1,2,3,4,5,6,7,8,9,10,11,0] 13
   exact J346 _ (by omega) _ A104 c105 l106 A107 c108 l109 A110 c111 l112 A113 c114 l115 A116 c117 l118 A119 c120 l121 A122 c123 l124 none 0 [] _ _ E .of S H
   cases (show none=some r from H)
   refine wp_skip ?_
   replace S:=S.pm [1,0] 2
   exact J346 _ (by omega) _ A104 c105 l106 A107 c108 l109 A110 c111 l112 A113 c114 l115 A116 c117 l118 A119 c120 l121 A122 c123 l124 A125 c126 l127 _ _ E .of S H
  refine pl0 (plc E (.r 0 3 .nil) (fun a E=>E.fk 75 H (fun c275 E H=>?_) fun c275 E H=>?_))
  obtain ⟨cs277,⟨A279,c280,rfl,g281⟩,hc278⟩:=g1_0.el qU.z x43 c245.1 c245.2
  refine plc E (.r 3 2<|.x 5 c245<|.r 6 1<|.c 7 (S.fc hc278 0)<|.r 8 2<|.nil) (fun a E=>pld ?_)
  exact J286 _ (by omega) _ ((nth qU.z y x43).f0 == 10) _ _ E .of S H
  refine plc E (.r 3 7 .nil) (fun a E=>pld ?_)
  exact J286 _ (by omega) _ false _ _ E .of S H
  refine pk2 5 9 ?_ ?_
  refine pk1 5 E (.cl en26 (qAW.calls k131 (⟨x68,x69,x70,x71,l74,l78,l82⟩:qG) (nth qU.z y x43) _ _ _ _ _ _ _ _ _ _ _ S.own.sub g75 g79 g83 g252 h254)) ?_
  rintro _ u255 a ⟨F256,A257,c258,A260,c261,A263,c264,rfl,hC,g259,g262⟩ E
  refine ⟨.of hC.agr,?_⟩
  have hs:=hC.sub
  replace S:=S.called (X:=[]) hC
  replace g1_0:=g1_0.mono hs
  replace g75:=g75.mono hs
  replace g79:=g79.mono hs
  replace g83:=g83.mono hs
  replace g252:=g252.mono hs
  refine mny 3 hst E (.r 6 3 .nil) (fun a E=>?_)
  refine on1 9 E (.al (t:=26) S [iv 0,iv 0,iv 0,iv 0,.slice none 0 0,.slice none 0 0,.slice none 0 0]) ?_
  rintro _ u268 a ⟨b267,rfl,hb267,S,hg⟩ E
  refine ⟨.of hg,?_⟩
  replace S:=S.pm [0,2,3,1] 4
  exact hJ _ _ ⟨_,b267,A263,c264,A257,c258,A260,c261,F256,E,.of,S,g1_0,g259,g262,g75,g79,g83⟩
  refine pk1 9 E (.al (t:=26) S [iv 0,iv 0,iv 0,iv 0,.slice none 0 0,.slice none 0 0,.slice none 0 0]) ?_
  rintro _ u268 a ⟨b267,rfl,hb267,S,hg⟩ E
  refine ⟨.of hg,?_⟩
  refine on1 5 E (.cl en26 (qAW.calls k131 (⟨x68,x69,x70,x71,l74,l78,l82⟩:qG) (nth qU.z y x43) _ _ _ _ _ _ _ _ _ _ _ S.own.sub g75 g79 g83 g252 h254)) ?_
  rintro _ u255 a ⟨F256,A257,c258,A260,c261,A263,c264,rfl,hC,g259,g262⟩ E
  refine ⟨.of hC.agr,?_⟩
  have hs:=hC.sub
  replace S:=S.called (X:=[]) hC
  replace g1_0:=g1_0.mono hs
  replace g75:=g75.mono hs
  replace g79:=g79.mono hs
  replace g83:=g83.mono hs
  replace g252:=g252.mono hs
  refine mny 2 hst E (.r 6 3 .nil) (fun a E=>?_)
  replace S:=S.pm [1,2,3,0] 4
  exact hJ _ _ ⟨_,b267,A263,c264,A257,c258,A260,c261,F256,E,.of,S,g1_0,g259,g262,g75,g79,g83⟩
  refine wp_exit ?_
  refine hK33 _ _ (sq fun K367 hK367=>rr E fun a E=>(wp_block ?_))
  refine wp_loop_ghost (fun kq372 a w'=>∃(G:NV)(x369:Int)(F370:World),kq372≤k87∧Env 149 G a∧At G [(2,.pointer (pb b2)),(5,.pointer (pb b30)),(11,iv x369)]∧Sm W F w' F370 [box b30 #[.slice A44 l46.length c45,.slice A47 l49.length c48,.slice A50 l52.length c51,.slice A53 l55.length c54,.slice A56 l58.length c57,.slice A59 l61.length c60,.slice A62 l64.length c63,.slice A65 l67.length c66] 46,box b2 #[iv x68,iv x69,iv x70,iv x71,.slice A72 l74.length c73,.slice A76 l78.length c77,.slice A80 l82.length c81] 26,row (Kn.slice ki) 36 (.slice A44 l46.length c45) l46,row (Kn.slice ki) 36 (.slice A47 l49.length c48) l49,row (Kn.slice ki) 36 (.slice A50 l52.length c51) l52,row (Kn.slice ki) 36 (.slice A53 l55.length c54) l55,row (Kn.slice ki) 36 (.slice A56 l58.length c57) l58,row (Kn.slice ki) 36 (.slice A59 l61.length c60) l61,row (Kn.slice ki) 36 (.slice A62 l64.length c63) l64,row (Kn.slice ki) 36 (.slice A65 l67.length c66) l67]∧Rd qA.k F370 A72 c73 l74∧Rd qE.k F370 A76 c77 l78∧Rd qD.k F370 A80 c81 l82∧qC.l371 kq372 l46 l49 l52 l55 l58 l61 l64 l67 x68 x69 x70 x71 l74 l78 l82 x369=some r) k87 ⟨_,0,F84,Nat.le_refl _,E,.of,S,g75,g79,g83,H⟩ ?_
  rintro kq372 a u374 ⟨G,x369,F370,hkq,E,A,S,g75,g79,g83,H⟩
  obtain _ | k373:=kq372
  exact zz H
  rw [qC.l371_s]at H
  obtain ⟨J,E⟩:=E.at A
  refine sq fun K375 hK375=>sq fun K376 hK376=>pl0 ?_
  have hb2:=S.ba 1
  refine plc E (.r 0 2<|.b 2 3 hb2<|.r 3 1<|.nil) (fun a E=>pld (hK376 _ _ (E.ik 93 H (fun c377 E H=>?_) fun c377 E H=>?_)))
  refine wp_skip (hK375 _ _ (sq fun K378 hK378=>wp_block (sq fun K379 hK379=>pl0 (plc E (.bn 0 0 7 hb2<|.r 1 1<|.nil) (fun a E=>?_)))))
  obtain ⟨t381,h382,H⟩:=bd H
  refine ple E (.cl en24 (qAe.calls k373 (⟨x68,x69,x70,x71,l74,l78,l82⟩:qG) x369 _ _ _ _ _ _ _ _ _ S.own.sub g75 g79 g83 h382)) ?_
  rintro _ u380 a ⟨F383,A384,c385,rfl,hC⟩ E
  have hs:=hC.sub
  replace S:=S.called (X:=[]) hC
  replace g75:=g75.mono hs
  replace g79:=g79.mono hs
  replace g83:=g83.mono hs
  refine plc E (.r 3 1 .nil) (fun a E=>pld (hK379 _ _ (rr E fun a E=>(wp_block ?_))))
  replace S:=S.pm [1,2,0] 3
  refine wp_loop_ghost (fun kq392 a w'=>∃(G:NV)(x389:Int)(x390:Int),kq392≤k373∧Env 149 G a∧At G [(2,.pointer (pb b2)),(5,.pointer (pb b30)),(11,iv x389),(12,.slice A384 t381.length c385),(13,iv x390)]∧Sm W F w' F383 [box b30 #[.slice A44 l46.length c45,.slice A47 l49.length c48,.slice A50 l52.length c51,.slice A53 l55.length c54,.slice A56 l58.length c57,.slice A59 l61.length c60,.slice A62 l64.length c63,.slice A65 l67.length c66] 46,box b2 #[iv x68,iv x69,iv x70,iv x71,.slice A72 l74.length c73,.slice A76 l78.length c77,.slice A80 l82.length c81] 26,row ki 3 (.slice A384 t381.length c385) t381,row (Kn.slice ki) 36 (.slice A44 l46.length c45) l46,row (Kn.slice ki) 36 (.slice A47 l49.length c48) l49,row (Kn.slice ki) 36 (.slice A50 l52.length c51) l52,row (Kn.slice ki) 36 (.slice A53 l55.length c54) l55,row (Kn.slice ki) 36 (.slice A56 l58.length c57) l58,row (Kn.slice ki) 36 (.slice A59 l61.length c60) l61,row (Kn.slice ki) 36 (.slice A62 l64.length c63) l64,row (Kn.slice ki) 36 (.slice A65 l67.length c66) l67]∧qC.l391 kq392 l46 l49 l52 l55 l58 l61 l64 l67 x68 x69 x70 x71 l74 l78 l82 t381 x389 x390=some r) k373 ⟨_,x369,0,Nat.le_refl _,E,.of,S,H⟩ ?_
  rintro kq392 a u394 ⟨G,x389,x390,hkq,E,A,S,H⟩
  obtain _ | k393:=kq392
  exact zz H
  rw [qC.l391_s]at H
  obtain ⟨J,E⟩:=E.at A
  refine sq fun K395 hK395=>sq fun K396 hK396=>?_
  have J410:∀ kq408,kq408≤k393→∀(G:NV)(x405:Int)(y406:Bool)(a:Act)(w':World),Env 149 G a→At G [(2,.pointer (pb b2)),(5,.pointer (pb b30)),(11,iv x405),(12,.slice A384 t381.length c385),(13,iv x390),(104,.bool y406)]→Sm W F w' F383 [box b30 #[.slice A44 l46.length c45,.slice A47 l49.length c48,.slice A50 l52.length c51,.slice A53 l55.length c54,.slice A56 l58.length c57,.slice A59 l61.length c60,.slice A62 l64.length c63,.slice A65 l67.length c66] 46,box b2 #[iv x68,iv x69,iv x70,iv x71,.slice A72 l74.length c73,.slice A76 l78.length c77,.slice A80 l82.length c81] 26,row ki 3 (.slice A384 t381.length c385) t381,row (Kn.slice ki) 36 (.slice A44 l46.length c45) l46,row (Kn.slice ki) 36 (.slice A47 l49.length c48) l49,row (Kn.slice ki) 36 (.slice A50 l52.length c51) l52,row (Kn.slice ki) 36 (.slice A53 l55.length c54) l55,row (Kn.slice ki) 36 (.slice A56 l58.length c57) l58,row (Kn.slice ki) 36 (.slice A59 l61.length c60) l61,row (Kn.slice ki) 36 (.slice A62 l64.length c63) l64,row (Kn.slice ki) 36 (.slice A65 l67.length c66) l67]→qC.j407 kq408 l46 l49 l52 l55 l58 l61 l64 l67 x68 x69 x70 x71 l74 l78 l82 t381 x390 x405 y406=some r→K396 a w':=by
   intro kq408 hkq G x405 y406 a u411 E A S H
   obtain _ | k409:=kq408
   exact zz H
   rw [qC.j407_s]at H
   obtain ⟨J,E⟩:=E.at A
   refine hK396 _ _ (E.ib 104 H (fun c412 E H=>?_) fun c412 E H=>?_)
   refine wp_skip (hK395 _ _ (sq fun K413 hK413=>wp_block (sq fun K414 hK414=>?_)))
   have J524:∀ kq522,kq522≤k409→∀(G:NV)(x519:Int)(y520:Bool)(a:Act)(w':World),Env 149 G a→At G [(2,.pointer (pb b2)),(5,.pointer (pb b30)),(11,iv x519),(12,.slice A384 t381.length c385),(13,iv x390),(14,.bool y520)]→Sm W F w' F383 [box b30 #[.slice A44 l46.length c45,.slice A47 l49.length c48,.slice A50 l52.length c51,.slice A53 l55.length c54,.slice A56 l58.length c57,.slice A59 l61.length c60,.slice A62 l64.length c63,.slice A65 l67.length c66] 46,box b2 #[iv x68,iv x69,iv x70,iv x71,.slice A72 l74.length c73,.slice A76 l78.length c77,.slice A80 l82.length c81] 26,row ki 3 (.slice A384 t381.length c385) t381,row (Kn.slice ki) 36 (.slice A44 l46.length c45) l46,row (Kn.slice ki) 36 (.slice A47 l49.length c48) l49,row (Kn.slice ki) 36 (.slice A50 l52.length c51) l52,row (Kn.slice ki) 36 (.slice A53 l55.length c54) l55,row (Kn.slice ki) 36 (.slice A56 l58.length c57) l58,row (Kn.slice ki) 36 (.slice A59 l61.length c60) l61,row (Kn.slice ki) 36 (.slice A62 l64.length c63) l64,row (Kn.slice ki) 36 (.slice A65 l67.length c66) l67]→qC.j521 kq522 l46 l49 l52 l55 l58 l61 l64 l67 x68 x69 x70 x71 l74 l78 l82 t381 x390 x519 y520=some r→K414 a w':=by
    intro kq522 hkq G x519 y520 a u525 E A S H
    obtain _ | k523:=kq522
    exact zz H
    rw [qC.j521_s]at H
    obtain ⟨J,E⟩:=E.at A
    refine hK414 _ _ (sq fun K526 hK526=>rr E fun a E=>(wp_block ?_))
    refine wp_loop_ghost (fun kq532 a w'=>∃(G:NV)(x528:Int)(y529:Bool)(x530:Int),kq532≤k523∧Env 149 G a∧At G [(2,.pointer (pb b2)),(5,.pointer (pb b30)),(11,iv x528),(12,.slice A384 t381.length c385),(13,iv x390),(14,.bool y529),(15,iv x530)]∧Sm W F w' F383 [box b30 #[.slice A44 l46.length c45,.slice A47 l49.length c48,.slice A50 l52.length c51,.slice A53 l55.length c54,.slice A56 l58.length c57,.slice A59 l61.length c60,.slice A62 l64.length c63,.slice A65 l67.length c66] 46,box b2 #[iv x68,iv x69,iv x70,iv x71,.slice A72 l74.length c73,.slice A76 l78.length c77,.slice A80 l82.length c81] 26,row ki 3 (.slice A384 t381.length c385) t381,row (Kn.slice ki) 36 (.slice A44 l46.length c45) l46,row (Kn.slice ki) 36 (.slice A47 l49.length c48) l49,row (Kn.slice ki) 36 (.slice A50 l52.length c51) l52,row (Kn.slice ki) 36 (.slice A53 l55.length c54) l55,row (Kn.slice ki) 36 (.slice A56 l58.length c57) l58,row (Kn.slice ki) 36 (.slice A59 l61.length c60) l61,row (Kn.slice ki) 36 (.slice A62 l64.length c63) l64,row (Kn.slice ki) 36 (.slice A65 l67.length c66) l67]∧qC.l531 kq532 l46 l49 l52 l55 l58 l61 l64 l67 x68 x69 x70 x71 l74 l78 l82 t381 x390 x528 y529 x530=some r) k523 ⟨_,x519,y520,0,Nat.le_refl _,E,.of,S,H⟩ ?_
    rintro kq532 a u534 ⟨G,x528,y529,x530,hkq,E,A,S,H⟩
    obtain _ | k533:=kq532
    exact zz H
    rw [qC.l531_s]at H
    obtain ⟨J,E⟩:=E.at A
    refine sq fun K535 hK535=>sq fun K536 hK536=>pl0 ?_
    have hb2:=S.ba 1
    obtain ⟨c537,H⟩:=gd H
    have hE_:=E
    obtain ⟨ad538,rfl⟩:=g83.addr c537.1 c537.2
    replace E:=hE_
    obtain ⟨cs540,⟨A542,c543,rfl,g544⟩,hc541⟩:=g83.el qD.z x528 c537.1 c537.2
    refine plc E (.r 0 2<|.b 2 6 hb2<|.r 3 1<|.x 4 c537<|.r 5 1<|.c 6 (S.fc hc541 1)<|.r 7 2<|.nil) (fun a E=>pld (hK536 _ _ (E.ik 123 H (fun c545 E H=>?_) fun c545 E H=>?_)))
    refine wp_skip (hK535 _ _ (sq fun K546 hK546=>wp_block ?_))
    refine drawn 21 ⟨[],[],fun q=>False⟩ mixed rfl (by kernel_rfl) (fun hst=>?_)
    replace S:=S.drew
    refine mny 19 hst E (.r 0 2 .nil) (fun a E=>?_)
    refine E.fb 14 H (fun c547 E H=>?_) fun c547 E H=>?_
    replace E:=E.bt 127 c547
    refine mny 0 hst E (.r 2 19 .nil) (fun a E=>?_)
    refine dn ?_
    refine qBb ?_
    refine hK546 _ _ (pl0 (plc E (.r 0 3 .nil) (fun a E=>pld ?_)))
    exact qBc ⟨k533,by omega,_,x528,true,(w64 (x530+1)),by omega,E,.of,S,H⟩
    replace E:=E.bf 127 c547
    refine mny 18 hst E (.r 2 1 .nil) (fun a E=>?_)
    rcases sp H with ⟨c548,H⟩ | ⟨c548,H⟩
    replace E:=E.set (d:=128) (v:=iv 0) (Eq.trans (b:=iv x528) (by kernel_rfl) (congrArg _ c548))
    replace E:=E.set (d:=11) (v:=iv 0) (Eq.trans (b:=iv x528) (by kernel_rfl) (congrArg _ c548))
    replace E:=E.set (d:=118) (v:=iv 0) (Eq.trans (b:=iv x528) (by kernel_rfl) (congrArg _ c548))
    have hb30:=S.ba 0
    obtain ⟨c549,H⟩:=gd H
    have hr550:=S.ra 3
    have hE_:=E
    obtain ⟨b551,rfl⟩:=qBf hr550 c549.1 c549.2
    replace E:=hE_
    have hr_:=S.ra 3
    obtain ⟨cs553,⟨A555,c556,rfl,g557⟩,hc554⟩:=qBe hr_ [] x390 c549.1 c549.2
    have hb2:=S.ba 1
    obtain ⟨c558,H⟩:=gd H
    obtain ⟨cs560,⟨A562,c563,rfl,g564⟩,hc561⟩:=g83.el qD.z 0 c558.1 c558.2
    obtain ⟨c565,H⟩:=gd H
    have hE_:=E
    obtain ⟨ad566,rfl⟩:=g564.addr c565.1 c565.2
    replace E:=hE_
    obtain ⟨cs568,⟨A570,c571,rfl,g572⟩,hc569⟩:=g564.el qF.z x530 c565.1 c565.2
    refine mny 3 hst E (.r 3 1<|.b 4 0 hb30<|.r 5 1<|.x 6 c549<|.c 7 (hc554 0 _ rfl)<|.r 8 1<|.b 9 6 hb2<|.r 10 1<|.x 11 c558<|.r 12 1<|.c 13 (S.fc hc561 1)<|.r 14 1<|.x 15 c565<|.r 16 1<|.c 17 (S.fc hc569 1)<|.nil) (fun a E=>?_)
    obtain ⟨t574,h575,H⟩:=bd H
    refine on1 18 E (.cl en28 (qZ.calls k533 (nth [] l46 x390) ((nth qF.z ((nth qD.z l82 0).f1) x530).f1) _ _ _ _ _ _ _ S.own.sub g557 g572 h575)) ?_
    rintro _ u573 a ⟨_,rfl,hC⟩ E
    refine ⟨.of hC.agr,?_⟩
    replace S:=S.lent hC
    refine mny 0 hst E (.r 19 2 .nil) (fun a E=>?_)
    refine dn ?_
    refine qBb ?_
    refine hK546 _ _ (pl0 (plc E (.r 0 3 .nil) (fun a E=>pld ?_)))
    exact qBc ⟨k533,by omega,_,0,t574,(w64 (x530+1)),by omega,E,.of,S,H⟩
    rcases sp H with ⟨c576,H⟩ | ⟨c576,H⟩
    replace E:=E.set (d:=128) (v:=iv 1) (Eq.trans (b:=iv x528) (by kernel_rfl) (congrArg _ c576))
    replace E:=E.set (d:=11) (v:=iv 1) (Eq.trans (b:=iv x528) (by kernel_rfl) (congrArg _ c576))
    replace E:=E.set (d:=118) (v:=iv 1) (Eq.trans (b:=iv x528) (by kernel_rfl) (congrArg _ c576))
    have hb30:=S.ba 0
    obtain ⟨c577,H⟩:=gd H
    have hr578:=S.ra 4
    have hE_:=E
    obtain ⟨b579,rfl⟩:=qBf hr578 c577.1 c577.2
    replace E:=hE_
    have hr_:=S.ra 4
    obtain ⟨cs581,⟨A583,c584,rfl,g585⟩,hc582⟩:=qBe hr_ [] x390 c577.1 c577.2
    have hb2:=S.ba 1
    obtain ⟨c586,H⟩:=gd H
    obtain ⟨cs588,⟨A590,c591,rfl,g592⟩,hc589⟩:=g83.el qD.z 1 c586.1 c586.2
    obtain ⟨c593,H⟩:=gd H
    have hE_:=E
    obtain ⟨ad594,rfl⟩:=g592.addr c593.1 c593.2
    replace E:=hE_
    obtain ⟨cs596,⟨A598,c599,rfl,g600⟩,hc597⟩:=g592.el qF.z x530 c593.1 c593.2
    refine mny 3 hst E (.r 3 1<|.b 4 1 hb30<|.r 5 1<|.x 6 c577<|.c 7 (hc582 0 _ rfl)<|.r 8 1<|.b 9 6 hb2<|.r 10 1<|.x 11 c586<|.r 12 1<|.c 13 (S.fc hc589 1)<|.r 14 1<|.x 15 c593<|.r 16 1<|.c 17 (S.fc hc597 1)<|.nil) (fun a E=>?_)
    obtain ⟨t602,h603,H⟩:=bd H
    refine on1 18 E (.cl en28 (qZ.calls k533 (nth [] l49 x390) ((nth qF.z ((nth qD.z l82 1).f1) x530).f1) _ _ _ _ _ _ _ S.own.sub g585 g600 h603)) ?_
    rintro _ u601 a ⟨_,rfl,hC⟩ E
    refine ⟨.of hC.agr,?_⟩
    replace S:=S.lent hC
    refine mny 0 hst E (.r 19 2 .nil) (fun a E=>?_)
    refine dn ?_
    refine qBb ?_
    refine hK546 _ _ (pl0 (plc E (.r 0 3 .nil) (fun a E=>pld ?_)))
    exact qBc ⟨k533,by omega,_,1,t602,(w64 (x530+1)),by omega,E,.of,S,H⟩
    rcases sp H with ⟨c604,H⟩ | ⟨c604,H⟩
    replace E:=E.set (d:=128) (v:=iv 2) (Eq.trans (b:=iv x528) (by kernel_rfl) (congrArg _ c604))
    replace E:=E.set (d:=11) (v:=iv 2) (Eq.trans (b:=iv x528) (by kernel_rfl) (congrArg _ c604))
    replace E:=E.set (d:=118) (v:=iv 2) (Eq.trans (b:=iv x528) (by kernel_rfl) (congrArg _ c604))
    have hb30:=S.ba 0
    obtain ⟨c605,H⟩:=gd H
    have hr606:=S.ra 5
    have hE_:=E
    obtain ⟨b607,rfl⟩:=qBf hr606 c605.1 c605.2
    replace E:=hE_
    have hr_:=S.ra 5
    obtain ⟨cs609,⟨A611,c612,rfl,g613⟩,hc610⟩:=qBe hr_ [] x390 c605.1 c605.2
    have hb2:=S.ba 1
    obtain ⟨c614,H⟩:=gd H
    obtain ⟨cs616,⟨A618,c619,rfl,g620⟩,hc617⟩:=g83.el qD.z 2 c614.1 c614.2
    obtain ⟨c621,H⟩:=gd H
    have hE_:=E
    obtain ⟨ad622,rfl⟩:=g620.addr c621.1 c621.2
    replace E:=hE_
    obtain ⟨cs624,⟨A626,c627,rfl,g628⟩,hc625⟩:=g620.el qF.z x530 c621.1 c621.2
    refine mny 3 hst E (.r 3 1<|.b 4 2 hb30<|.r 5 1<|.x 6 c605<|.c 7 (hc610 0 _ rfl)<|.r 8 1<|.b 9 6 hb2<|.r 10 1<|.x 11 c614<|.r 12 1<|.c 13 (S.fc hc617 1)<|.r 14 1<|.x 15 c621<|.r 16 1<|.c 17 (S.fc hc625 1)<|.nil) (fun a E=>?_)
    obtain ⟨t630,h631,H⟩:=bd H
    refine on1 18 E (.cl en28 (qZ.calls k533 (nth [] l52 x390) ((nth qF.z ((nth qD.z l82 2).f1) x530).f1) _ _ _ _ _ _ _ S.own.sub g613 g628 h631)) ?_
    rintro _ u629 a ⟨_,rfl,hC⟩ E
    refine ⟨.of hC.agr,?_⟩
    replace S:=S.lent hC
    refine mny 0 hst E (.r 19 2 .nil) (fun a E=>?_)
    refine dn ?_
    refine qBb ?_
    refine hK546 _ _ (pl0 (plc E (.r 0 3 .nil) (fun a E=>pld ?_)))
    exact qBc ⟨k533,by omega,_,2,t630,(w64 (x530+1)),by omega,E,.of,S,H⟩
    rcases sp H with ⟨c632,H⟩ | ⟨c632,H⟩
    replace E:=E.set (d:=128) (v:=iv 3) (Eq.trans (b:=iv x528) (by kernel_rfl) (congrArg _ c632))
    replace E:=E.set (d:=11) (v:=iv 3) (Eq.trans (b:=iv x528) (by kernel_rfl) (congrArg _ c632))
    replace E:=E.set (d:=118) (v:=iv 3) (Eq.trans (b:=iv x528) (by kernel_rfl) (congrArg _ c632))
    have hb30:=S.ba 0
    obtain ⟨c633,H⟩:=gd H
    have hr634:=S.ra 6
    have hE_:=E
    obtain ⟨b635,rfl⟩:=qBf hr634 c633.1 c633.2
    replace E:=hE_
    have hr_:=S.ra 6
    obtain ⟨cs637,⟨A639,c640,rfl,g641⟩,hc638⟩:=qBe hr_ [] x390 c633.1 c633.2
    have hb2:=S.ba 1
    obtain ⟨c642,H⟩:=gd H
    obtain ⟨cs644,⟨A646,c647,rfl,g648⟩,hc645⟩:=g83.el qD.z 3 c642.1 c642.2
    obtain ⟨c649,H⟩:=gd H
    have hE_:=E
    obtain ⟨ad650,rfl⟩:=g648.addr c649.1 c649.2
    replace E:=hE_
    obtain ⟨cs652,⟨A654,c655,rfl,g656⟩,hc653⟩:=g648.el qF.z x530 c649.1 c649.2
    refine mny 3 hst E (.r 3 1<|.b 4 3 hb30<|.r 5 1<|.x 6 c633<|.c 7 (hc638 0 _ rfl)<|.r 8 1<|.b 9 6 hb2<|.r 10 1<|.x 11 c642<|.r 12 1<|.c 13 (S.fc hc645 1)<|.r 14 1<|.x 15 c649<|.r 16 1<|.c 17 (S.fc hc653 1)<|.nil) (fun a E=>?_)
    obtain ⟨t658,h659,H⟩:=bd H
    refine on1 18 E (.cl en28 (qZ.calls k533 (nth [] l55 x390) ((nth qF.z ((nth qD.z l82 3).f1) x530).f1) _ _ _ _ _ _ _ S.own.sub g641 g656 h659)) ?_
    rintro _ u657 a ⟨_,rfl,hC⟩ E
    refine ⟨.of hC.agr,?_⟩
    replace S:=S.lent hC
    refine mny 0 hst E (.r 19 2 .nil) (fun a E=>?_)
    refine dn ?_
    refine qBb ?_
    refine hK546 _ _ (pl0 (plc E (.r 0 3 .nil) (fun a E=>pld ?_)))
    exact qBc ⟨k533,by omega,_,3,t658,(w64 (x530+1)),by omega,E,.of,S,H⟩
    rcases sp H with ⟨c660,H⟩ | ⟨c660,H⟩
    replace E:=E.set (d:=128) (v:=iv 4) (Eq.trans (b:=iv x528) (by kernel_rfl) (congrArg _ c660))
    replace E:=E.set (d:=11) (v:=iv 4) (Eq.trans (b:=iv x528) (by kernel_rfl) (congrArg _ c660))
    replace E:=E.set (d:=118) (v:=iv 4) (Eq.trans (b:=iv x528) (by kernel_rfl) (congrArg _ c660))
    have hb30:=S.ba 0
    obtain ⟨c661,H⟩:=gd H
    have hr662:=S.ra 7
    have hE_:=E
    obtain ⟨b663,rfl⟩:=qBf hr662 c661.1 c661.2
    replace E:=hE_
    have hr_:=S.ra 7
    obtain ⟨cs665,⟨A667,c668,rfl,g669⟩,hc666⟩:=qBe hr_ [] x390 c661.1 c661.2
    have hb2:=S.ba 1
    obtain ⟨c670,H⟩:=gd H
    obtain ⟨cs672,⟨A674,c675,rfl,g676⟩,hc673⟩:=g83.el qD.z 4 c670.1 c670.2
    obtain ⟨c677,H⟩:=gd H
    have hE_:=E
    obtain ⟨ad678,rfl⟩:=g676.addr c677.1 c677.2
    replace E:=hE_
    obtain ⟨cs680,⟨A682,c683,rfl,g684⟩,hc681⟩:=g676.el qF.z x530 c677.1 c677.2
    refine mny 3 hst E (.r 3 1<|.b 4 4 hb30<|.r 5 1<|.x 6 c661<|.c 7 (hc666 0 _ rfl)<|.r 8 1<|.b 9 6 hb2<|.r 10 1<|.x 11 c670<|.r 12 1<|.c 13 (S.fc hc673 1)<|.r 14 1<|.x 15 c677<|.r 16 1<|.c 17 (S.fc hc681 1)<|.nil) (fun a E=>?_)
    obtain ⟨t686,h687,H⟩:=bd H
    refine on1 18 E (.cl en28 (qZ.calls k533 (nth [] l58 x390) ((nth qF.z ((nth qD.z l82 4).f1) x530).f1) _ _ _ _ _ _ _ S.own.sub g669 g684 h687)) ?_
    rintro _ u685 a ⟨_,rfl,hC⟩ E
    refine ⟨.of hC.agr,?_⟩
    replace S:=S.lent hC
    refine mny 0 hst E (.r 19 2 .nil) (fun a E=>?_)
    refine dn ?_
    refine qBb ?_
    refine hK546 _ _ (pl0 (plc E (.r 0 3 .nil) (fun a E=>pld ?_)))
    exact qBc ⟨k533,by omega,_,4,t686,(w64 (x530+1)),by omega,E,.of,S,H⟩
    rcases sp H with ⟨c688,H⟩ | ⟨c688,H⟩
    replace E:=E.set (d:=128) (v:=iv 5) (Eq.trans (b:=iv x528) (by kernel_rfl) (congrArg _ c688))
    replace E:=E.set (d:=11) (v:=iv 5) (Eq.trans (b:=iv x528) (by kernel_rfl) (congrArg _ c688))
    replace E:=E.set (d:=118) (v:=iv 5) (Eq.trans (b:=iv x528) (by kernel_rfl) (congrArg _ c688))
    have hb30:=S.ba 0
    obtain ⟨c689,H⟩:=gd H
    have hr690:=S.ra 8
    have hE_:=E
    obtain ⟨b691,rfl⟩:=qBf hr690 c689.1 c689.2
    replace E:=hE_
    have hr_:=S.ra 8
    obtain ⟨cs693,⟨A695,c696,rfl,g697⟩,hc694⟩:=qBe hr_ [] x390 c689.1 c689.2
    have hb2:=S.ba 1
    obtain ⟨c698,H⟩:=gd H
    obtain ⟨cs700,⟨A702,c703,rfl,g704⟩,hc701⟩:=g83.el qD.z 5 c698.1 c698.2
    obtain ⟨c705,H⟩:=gd H
    have hE_:=E
    obtain ⟨ad706,rfl⟩:=g704.addr c705.1 c705.2
    replace E:=hE_
    obtain ⟨cs708,⟨A710,c711,rfl,g712⟩,hc709⟩:=g704.el qF.z x530 c705.1 c705.2
    refine mny 3 hst E (.r 3 1<|.b 4 5 hb30<|.r 5 1<|.x 6 c689<|.c 7 (hc694 0 _ rfl)<|.r 8 1<|.b 9 6 hb2<|.r 10 1<|.x 11 c698<|.r 12 1<|.c 13 (S.fc hc701 1)<|.r 14 1<|.x 15 c705<|.r 16 1<|.c 17 (S.fc hc709 1)<|.nil) (fun a E=>?_)
    obtain ⟨t714,h715,H⟩:=bd H
    refine on1 18 E (.cl en28 (qZ.calls k533 (nth [] l61 x390) ((nth qF.z ((nth qD.z l82 5).f1) x530).f1) _ _ _ _ _ _ _ S.own.sub g697 g712 h715)) ?_
    rintro _ u713 a ⟨_,rfl,hC⟩ E
    refine ⟨.of hC.agr,?_⟩
    replace S:=S.lent hC
    refine mny 0 hst E (.r 19 2 .nil) (fun a E=>?_)
    refine dn ?_
    refine qBb ?_
    refine hK546 _ _ (pl0 (plc E (.r 0 3 .nil) (fun a E=>pld ?_)))
    exact qBc ⟨k533,by omega,_,5,t714,(w64 (x530+1)),by omega,E,.of,S,H⟩
    rcases sp H with ⟨c716,H⟩ | ⟨c716,H⟩
    replace E:=E.set (d:=128) (v:=iv 6) (Eq.trans (b:=iv x528) (by kernel_rfl) (congrArg _ c716))
    replace E:=E.set (d:=11) (v:=iv 6) (Eq.trans (b:=iv x528) (by kernel_rfl) (congrArg _ c716))
    replace E:=E.set (d:=118) (v:=iv 6) (Eq.trans (b:=iv x528) (by kernel_rfl) (congrArg _ c716))
    have hb30:=S.ba 0
    obtain ⟨c717,H⟩:=gd H
    have hr718:=S.ra 9
    have hE_:=E
    obtain ⟨b719,rfl⟩:=qBf hr718 c717.1 c717.2
    replace E:=hE_
    have hr_:=S.ra 9
    obtain ⟨cs721,⟨A723,c724,rfl,g725⟩,hc722⟩:=qBe hr_ [] x390 c717.1 c717.2
    have hb2:=S.ba 1
    obtain ⟨c726,H⟩:=gd H
    obtain ⟨cs728,⟨A730,c731,rfl,g732⟩,hc729⟩:=g83.el qD.z 6 c726.1 c726.2
    obtain ⟨c733,H⟩:=gd H
    have hE_:=E
    obtain ⟨ad734,rfl⟩:=g732.addr c733.1 c733.2
    replace E:=hE_
    obtain ⟨cs736,⟨A738,c739,rfl,g740⟩,hc737⟩:=g732.el qF.z x530 c733.1 c733.2
    refine mny 3 hst E (.r 3 1<|.b 4 6 hb30<|.r 5 1<|.x 6 c717<|.c 7 (hc722 0 _ rfl)<|.r 8 1<|.b 9 6 hb2<|.r 10 1<|.x 11 c726<|.r 12 1<|.c 13 (S.fc hc729 1)<|.r 14 1<|.x 15 c733<|.r 16 1<|.c 17 (S.fc hc737 1)<|.nil) (fun a E=>?_)
    obtain ⟨t742,h743,H⟩:=bd H
    refine on1 18 E (.cl en28 (qZ.calls k533 (nth [] l64 x390) ((nth qF.z ((nth qD.z l82 6).f1) x530).f1) _ _ _ _ _ _ _ S.own.sub g725 g740 h743)) ?_
    rintro _ u741 a ⟨_,rfl,hC⟩ E
    refine ⟨.of hC.agr,?_⟩
    replace S:=S.lent hC
    refine mny 0 hst E (.r 19 2 .nil) (fun a E=>?_)
    refine dn ?_
    refine qBb ?_
    refine hK546 _ _ (pl0 (plc E (.r 0 3 .nil) (fun a E=>pld ?_)))
    exact qBc ⟨k533,by omega,_,6,t742,(w64 (x530+1)),by omega,E,.of,S,H⟩
    rcases sp H with ⟨c744,H⟩ | ⟨c744,H⟩
    replace E:=E.set (d:=128) (v:=iv 7) (Eq.trans (b:=iv x528) (by kernel_rfl) (congrArg _ c744))
    replace E:=E.set (d:=11) (v:=iv 7) (Eq.trans (b:=iv x528) (by kernel_rfl) (congrArg _ c744))
    replace E:=E.set (d:=118) (v:=iv 7) (Eq.trans (b:=iv x528) (by kernel_rfl) (congrArg _ c744))
    have hb30:=S.ba 0
    obtain ⟨c745,H⟩:=gd H
    have hr746:=S.ra 10
    have hE_:=E
    obtain ⟨b747,rfl⟩:=qBf hr746 c745.1 c745.2
    replace E:=hE_
    have hr_:=S.ra 10
    obtain ⟨cs749,⟨A751,c752,rfl,g753⟩,hc750⟩:=qBe hr_ [] x390 c745.1 c745.2
    have hb2:=S.ba 1
    obtain ⟨c754,H⟩:=gd H
    obtain ⟨cs756,⟨A758,c759,rfl,g760⟩,hc757⟩:=g83.el qD.z 7 c754.1 c754.2
    obtain ⟨c761,H⟩:=gd H
    have hE_:=E
    obtain ⟨ad762,rfl⟩:=g760.addr c761.1 c761.2
    replace E:=hE_
    obtain ⟨cs764,⟨A766,c767,rfl,g768⟩,hc765⟩:=g760.el qF.z x530 c761.1 c761.2
    refine mny 3 hst E (.r 3 1<|.b 4 7 hb30<|.r 5 1<|.x 6 c745<|.c 7 (hc750 0 _ rfl)<|.r 8 1<|.b 9 6 hb2<|.r 10 1<|.x 11 c754<|.r 12 1<|.c 13 (S.fc hc757 1)<|.r 14 1<|.x 15 c761<|.r 16 1<|.c 17 (S.fc hc765 1)<|.nil) (fun a E=>?_)
    obtain ⟨t770,h771,H⟩:=bd H
    refine on1 18 E (.cl en28 (qZ.calls k533 (nth [] l67 x390) ((nth qF.z ((nth qD.z l82 7).f1) x530).f1) _ _ _ _ _ _ _ S.own.sub g753 g768 h771)) ?_
    rintro _ u769 a ⟨_,rfl,hC⟩ E
    refine ⟨.of hC.agr,?_⟩
    replace S:=S.lent hC
    refine mny 0 hst E (.r 19 2 .nil) (fun a E=>?_)
    refine dn ?_
    refine qBb ?_
    refine hK546 _ _ (pl0 (plc E (.r 0 3 .nil) (fun a E=>pld ?_)))
    exact qBc ⟨k533,by omega,_,7,t770,(w64 (x530+1)),by omega,E,.of,S,H⟩
    cases (show none=some r from H)
    refine wp_exit ?_
    refine hK526 _ _ (rr E fun a E=>(E.ibn 147 H (fun c773 E H=>?_) fun c773 E H=>?_))
    refine wp_skip ?_
    refine qBb ?_
    refine hK413 _ _ (pl0 (plc E (.r 0 3 .nil) (fun a E=>pld ?_)))
    exact qBc ⟨k533,by omega,_,x528,(w64 (x390+1)),by omega,E,.of,S,H⟩
    refine rr E fun a E=>(wp_ret (qBa (qBZ (qBZ (qBa (qBa (qBZ (qBZ (qBa (qBZ ?_))))))))))
    replace S:=S.pm [] 11
    obtain rfl:=si H
    exact rt1 E ⟨_,rfl,_,rfl,S⟩
   refine pl0 (plc E (.r 0 1 .nil) (fun a E=>?_))
   rcases sp H with ⟨c415,H⟩ | ⟨c415,H⟩
   replace E:=E.set (d:=107) (v:=iv 0) (Eq.trans (b:=iv x405) (by kernel_rfl) (congrArg _ c415))
   replace E:=E.set (d:=11) (v:=iv 0) (Eq.trans (b:=iv x405) (by kernel_rfl) (congrArg _ c415))
   have hb30:=S.ba 0
   obtain ⟨c416,H⟩:=gd H
   have hr417:=S.ra 3
   have hE_:=E
   obtain ⟨b418,rfl⟩:=qBf hr417 c416.1 c416.2
   replace E:=hE_
   have hr_:=S.ra 3
   obtain ⟨cs420,⟨A422,c423,rfl,g424⟩,hc421⟩:=qBe hr_ [] x390 c416.1 c416.2
   refine plc E (.r 1 1<|.b 2 0 hb30<|.r 3 1<|.x 4 c416<|.c 5 (hc421 0 _ rfl)<|.r 6 1<|.nil) (fun a E=>?_)
   obtain ⟨t426,h427,H⟩:=bd H
   refine plq E S en28 (qZ.calls k409 (nth [] l46 x390) t381 _ _ _ _ _ _ _ (Sub.refl _) (g424.mono S.own.sub) (S.rd_at (i:=2) rfl) h427) fun u425 S a E=>plc E (.r 8 1 .nil) (fun a E=>pld ?_)
   exact J524 _ (by omega) _ 0 t426 _ _ E .of S H
   rcases sp H with ⟨c428,H⟩ | ⟨c428,H⟩
   replace E:=E.set (d:=107) (v:=iv 1) (Eq.trans (b:=iv x405) (by kernel_rfl) (congrArg _ c428))
   replace E:=E.set (d:=11) (v:=iv 1) (Eq.trans (b:=iv x405) (by kernel_rfl) (congrArg _ c428))
   have hb30:=S.ba 0
   obtain ⟨c429,H⟩:=gd H
   have hr430:=S.ra 4
   have hE_:=E
   obtain ⟨b431,rfl⟩:=qBf hr430 c429.1 c429.2
   replace E:=hE_
   have hr_:=S.ra 4
   obtain ⟨cs433,⟨A435,c436,rfl,g437⟩,hc434⟩:=qBe hr_ [] x390 c429.1 c429.2
   refine plc E (.r 1 1<|.b 2 1 hb30<|.r 3 1<|.x 4 c429<|.c 5 (hc434 0 _ rfl)<|.r 6 1<|.nil) (fun a E=>?_)
   obtain ⟨t439,h440,H⟩:=bd H
   refine plq E S en28 (qZ.calls k409 (nth [] l49 x390) t381 _ _ _ _ _ _ _ (Sub.refl _) (g437.mono S.own.sub) (S.rd_at (i:=2) rfl) h440) fun u438 S a E=>plc E (.r 8 1 .nil) (fun a E=>pld ?_)
   exact J524 _ (by omega) _ 1 t439 _ _ E .of S H
   rcases sp H with ⟨c441,H⟩ | ⟨c441,H⟩
   replace E:=E.set (d:=107) (v:=iv 2) (Eq.trans (b:=iv x405) (by kernel_rfl) (congrArg _ c441))
   replace E:=E.set (d:=11) (v:=iv 2) (Eq.trans (b:=iv x405) (by kernel_rfl) (congrArg _ c441))
   have hb30:=S.ba 0
   obtain ⟨c442,H⟩:=gd H
   have hr443:=S.ra 5
   have hE_:=E
   obtain ⟨b444,rfl⟩:=qBf hr443 c442.1 c442.2
   replace E:=hE_
   have hr_:=S.ra 5
   obtain ⟨cs446,⟨A448,c449,rfl,g450⟩,hc447⟩:=qBe hr_ [] x390 c442.1 c442.2
   refine plc E (.r 1 1<|.b 2 2 hb30<|.r 3 1<|.x 4 c442<|.c 5 (hc447 0 _ rfl)<|.r 6 1<|.nil) (fun a E=>?_)
   obtain ⟨t452,h453,H⟩:=bd H
   refine plq E S en28 (qZ.calls k409 (nth [] l52 x390) t381 _ _ _ _ _ _ _ (Sub.refl _) (g450.mono S.own.sub) (S.rd_at (i:=2) rfl) h453) fun u451 S a E=>plc E (.r 8 1 .nil) (fun a E=>pld ?_)
   exact J524 _ (by omega) _ 2 t452 _ _ E .of S H
   rcases sp H with ⟨c454,H⟩ | ⟨c454,H⟩
   replace E:=E.set (d:=107) (v:=iv 3) (Eq.trans (b:=iv x405) (by kernel_rfl) (congrArg _ c454))
   replace E:=E.set (d:=11) (v:=iv 3) (Eq.trans (b:=iv x405) (by kernel_rfl) (congrArg _ c454))
   have hb30:=S.ba 0
   obtain ⟨c455,H⟩:=gd H
   have hr456:=S.ra 6
   have hE_:=E
   obtain ⟨b457,rfl⟩:=qBf hr456 c455.1 c455.2
   replace E:=hE_
   have hr_:=S.ra 6
   obtain ⟨cs459,⟨A461,c462,rfl,g463⟩,hc460⟩:=qBe hr_ [] x390 c455.1 c455.2
   refine plc E (.r 1 1<|.b 2 3 hb30<|.r 3 1<|.x 4 c455<|.c 5 (hc460 0 _ rfl)<|.r 6 1<|.nil) (fun a E=>?_)
   obtain ⟨t465,h466,H⟩:=bd H
   refine plq E S en28 (qZ.calls k409 (nth [] l55 x390) t381 _ _ _ _ _ _ _ (Sub.refl _) (g463.mono S.own.sub) (S.rd_at (i:=2) rfl) h466) fun u464 S a E=>plc E (.r 8 1 .nil) (fun a E=>pld ?_)
   exact J524 _ (by omega) _ 3 t465 _ _ E .of S H
   rcases sp H with ⟨c467,H⟩ | ⟨c467,H⟩
   replace E:=E.set (d:=107) (v:=iv 4) (Eq.trans (b:=iv x405) (by kernel_rfl) (congrArg _ c467))
   replace E:=E.set (d:=11) (v:=iv 4) (Eq.trans (b:=iv x405) (by kernel_rfl) (congrArg _ c467))
   have hb30:=S.ba 0
   obtain ⟨c468,H⟩:=gd H
   have hr469:=S.ra 7
   have hE_:=E
   obtain ⟨b470,rfl⟩:=qBf hr469 c468.1 c468.2
   replace E:=hE_
   have hr_:=S.ra 7
   obtain ⟨cs472,⟨A474,c475,rfl,g476⟩,hc473⟩:=qBe hr_ [] x390 c468.1 c468.2
   refine plc E (.r 1 1<|.b 2 4 hb30<|.r 3 1<|.x 4 c468<|.c 5 (hc473 0 _ rfl)<|.r 6 1<|.nil) (fun a E=>?_)
   obtain ⟨t478,h479,H⟩:=bd H
   refine plq E S en28 (qZ.calls k409 (nth [] l58 x390) t381 _ _ _ _ _ _ _ (Sub.refl _) (g476.mono S.own.sub) (S.rd_at (i:=2) rfl) h479) fun u477 S a E=>plc E (.r 8 1 .nil) (fun a E=>pld ?_)
   exact J524 _ (by omega) _ 4 t478 _ _ E .of S H
   rcases sp H with ⟨c480,H⟩ | ⟨c480,H⟩
   replace E:=E.set (d:=107) (v:=iv 5) (Eq.trans (b:=iv x405) (by kernel_rfl) (congrArg _ c480))
   replace E:=E.set (d:=11) (v:=iv 5) (Eq.trans (b:=iv x405) (by kernel_rfl) (congrArg _ c480))
   have hb30:=S.ba 0
   obtain ⟨c481,H⟩:=gd H
   have hr482:=S.ra 8
   have hE_:=E
   obtain ⟨b483,rfl⟩:=qBf hr482 c481.1 c481.2
   replace E:=hE_
   have hr_:=S.ra 8
   obtain ⟨cs485,⟨A487,c488,rfl,g489⟩,hc486⟩:=qBe hr_ [] x390 c481.1 c481.2
   refine plc E (.r 1 1<|.b 2 5 hb30<|.r 3 1<|.x 4 c481<|.c 5 (hc486 0 _ rfl)<|.r 6 1<|.nil) (fun a E=>?_)
   obtain ⟨t491,h492,H⟩:=bd H
   refine plq E S en28 (qZ.calls k409 (nth [] l61 x390) t381 _ _ _ _ _ _ _ (Sub.refl _) (g489.mono S.own.sub) (S.rd_at (i:=2) rfl) h492) fun u490 S a E=>plc E (.r 8 1 .nil) (fun a E=>pld ?_)
   exact J524 _ (by omega) _ 5 t491 _ _ E .of S H
   rcases sp H with ⟨c493,H⟩ | ⟨c493,H⟩
   replace E:=E.set (d:=107) (v:=iv 6) (Eq.trans (b:=iv x405) (by kernel_rfl) (congrArg _ c493))
   replace E:=E.set (d:=11) (v:=iv 6) (Eq.trans (b:=iv x405) (by kernel_rfl) (congrArg _ c493))
   have hb30:=S.ba 0
   obtain ⟨c494,H⟩:=gd H
   have hr495:=S.ra 9
   have hE_:=E
   obtain ⟨b496,rfl⟩:=qBf hr495 c494.1 c494.2
   replace E:=hE_
   have hr_:=S.ra 9
   obtain ⟨cs498,⟨A500,c501,rfl,g502⟩,hc499⟩:=qBe hr_ [] x390 c494.1 c494.2
   refine plc E (.r 1 1<|.b 2 6 hb30<|.r 3 1<|.x 4 c494<|.c 5 (hc499 0 _ rfl)<|.r 6 1<|.nil) (fun a E=>?_)
   obtain ⟨t504,h505,H⟩:=bd H
   refine plq E S en28 (qZ.calls k409 (nth [] l64 x390) t381 _ _ _ _ _ _ _ (Sub.refl _) (g502.mono S.own.sub) (S.rd_at (i:=2) rfl) h505) fun u503 S a E=>plc E (.r 8 1 .nil) (fun a E=>pld ?_)
   exact J524 _ (by omega) _ 6 t504 _ _ E .of S H
   rcases sp H with ⟨c506,H⟩ | ⟨c506,H⟩
   replace E:=E.set (d:=107) (v:=iv 7) (Eq.trans (b:=iv x405) (by kernel_rfl) (congrArg _ c506))
   replace E:=E.set (d:=11) (v:=iv 7) (Eq.trans (b:=iv x405) (by kernel_rfl) (congrArg _ c506))
   have hb30:=S.ba 0
   obtain ⟨c507,H⟩:=gd H
   have hr508:=S.ra 10
   have hE_:=E
   obtain ⟨b509,rfl⟩:=qBf hr508 c507.1 c507.2
   replace E:=hE_
   have hr_:=S.ra 10
   obtain ⟨cs511,⟨A513,c514,rfl,g515⟩,hc512⟩:=qBe hr_ [] x390 c507.1 c507.2
   refine plc E (.r 1 1<|.b 2 7 hb30<|.r 3 1<|.x 4 c507<|.c 5 (hc512 0 _ rfl)<|.r 6 1<|.nil) (fun a E=>?_)
   obtain ⟨t517,h518,H⟩:=bd H
   refine plq E S en28 (qZ.calls k409 (nth [] l67 x390) t381 _ _ _ _ _ _ _ (Sub.refl _) (g515.mono S.own.sub) (S.rd_at (i:=2) rfl) h518) fun u516 S a E=>plc E (.r 8 1 .nil) (fun a E=>pld ?_)
   exact J524 _ (by omega) _ 7 t517 _ _ E .of S H
   cases (show none=some r from H)
   refine wp_exit ?_
   refine hK378 _ _ (pl0 (plc E (.r 0 3 .nil) (fun a E=>pld ?_)))
   replace S:=S.pm [0,1] 3
   exact qBc ⟨k409,by omega,_,(w64 (x405+1)),F383,by omega,E,.of,S,g75,g79,g83,H⟩
  refine pl0 (plc E (.r 0 2 .nil) (fun a E=>?_))
  rcases sp H with ⟨c397,H⟩ | ⟨c397,H⟩
  replace E:=E.set (d:=100) (v:=iv 0) (Eq.trans (b:=iv x389) (by kernel_rfl) (congrArg _ c397))
  replace E:=E.set (d:=11) (v:=iv 0) (Eq.trans (b:=iv x389) (by kernel_rfl) (congrArg _ c397))
  refine plc E (.r 2 1<|.b 3 0 (S.ba 0)<|.r 4 2<|.nil) (fun a E=>pld ?_)
  exact J410 _ (by omega) _ 0 (decide (x390<(l46.length:Int))) _ _ E .of S H
  rcases sp H with ⟨c398,H⟩ | ⟨c398,H⟩
  replace E:=E.set (d:=100) (v:=iv 1) (Eq.trans (b:=iv x389) (by kernel_rfl) (congrArg _ c398))
  replace E:=E.set (d:=11) (v:=iv 1) (Eq.trans (b:=iv x389) (by kernel_rfl) (congrArg _ c398))
  refine plc E (.r 2 1<|.b 3 1 (S.ba 0)<|.r 4 2<|.nil) (fun a E=>pld ?_)
  exact J410 _ (by omega) _ 1 (decide (x390<(l49.length:Int))) _ _ E .of S H
  rcases sp H with ⟨c399,H⟩ | ⟨c399,H⟩
  replace E:=E.set (d:=100) (v:=iv 2) (Eq.trans (b:=iv x389) (by kernel_rfl) (congrArg _ c399))
  replace E:=E.set (d:=11) (v:=iv 2) (Eq.trans (b:=iv x389) (by kernel_rfl) (congrArg _ c399))
  refine plc E (.r 2 1<|.b 3 2 (S.ba 0)<|.r 4 2<|.nil) (fun a E=>pld ?_)
  exact J410 _ (by omega) _ 2 (decide (x390<(l52.length:Int))) _ _ E .of S H
  rcases sp H with ⟨c400,H⟩ | ⟨c400,H⟩
  replace E:=E.set (d:=100) (v:=iv 3) (Eq.trans (b:=iv x389) (by kernel_rfl) (congrArg _ c400))
  replace E:=E.set (d:=11) (v:=iv 3) (Eq.trans (b:=iv x389) (by kernel_rfl) (congrArg _ c400))
  refine plc E (.r 2 1<|.b 3 3 (S.ba 0)<|.r 4 2<|.nil) (fun a E=>pld ?_)
  exact J410 _ (by omega) _ 3 (decide (x390<(l55.length:Int))) _ _ E .of S H
  rcases sp H with ⟨c401,H⟩ | ⟨c401,H⟩
  replace E:=E.set (d:=100) (v:=iv 4) (Eq.trans (b:=iv x389) (by kernel_rfl) (congrArg _ c401))
  replace E:=E.set (d:=11) (v:=iv 4) (Eq.trans (b:=iv x389) (by kernel_rfl) (congrArg _ c401))
  refine plc E (.r 2 1<|.b 3 4 (S.ba 0)<|.r 4 2<|.nil) (fun a E=>pld ?_)
  exact J410 _ (by omega) _ 4 (decide (x390<(l58.length:Int))) _ _ E .of S H
  rcases sp H with ⟨c402,H⟩ | ⟨c402,H⟩
  replace E:=E.set (d:=100) (v:=iv 5) (Eq.trans (b:=iv x389) (by kernel_rfl) (congrArg _ c402))
  replace E:=E.set (d:=11) (v:=iv 5) (Eq.trans (b:=iv x389) (by kernel_rfl) (congrArg _ c402))
  refine plc E (.r 2 1<|.b 3 5 (S.ba 0)<|.r 4 2<|.nil) (fun a E=>pld ?_)
  exact J410 _ (by omega) _ 5 (decide (x390<(l61.length:Int))) _ _ E .of S H
  rcases sp H with ⟨c403,H⟩ | ⟨c403,H⟩
  replace E:=E.set (d:=100) (v:=iv 6) (Eq.trans (b:=iv x389) (by kernel_rfl) (congrArg _ c403))
  replace E:=E.set (d:=11) (v:=iv 6) (Eq.trans (b:=iv x389) (by kernel_rfl) (congrArg _ c403))
  refine plc E (.r 2 1<|.b 3 6 (S.ba 0)<|.r 4 2<|.nil) (fun a E=>pld ?_)
  exact J410 _ (by omega) _ 6 (decide (x390<(l64.length:Int))) _ _ E .of S H
  rcases sp H with ⟨c404,H⟩ | ⟨c404,H⟩
  replace E:=E.set (d:=100) (v:=iv 7) (Eq.trans (b:=iv x389) (by kernel_rfl) (congrArg _ c404))
  replace E:=E.set (d:=11) (v:=iv 7) (Eq.trans (b:=iv x389) (by kernel_rfl) (congrArg _ c404))
  refine plc E (.r 2 1<|.b 3 7 (S.ba 0)<|.r 4 2<|.nil) (fun a E=>pld ?_)
  exact J410 _ (by omega) _ 7 (decide (x390<(l67.length:Int))) _ _ E .of S H
  cases (show none=some r from H)
  refine wp_exit ?_
  refine hK367 _ _ (sq fun K775 hK775=>pl0 ?_)
  obtain ⟨t777,h778,H⟩:=bd H
  refine plq E S en17 (qAT.calls k373 _ _ _ S.own.sub h778) fun u776 S a E=>plc E (.r 1 1 .nil) (fun a E=>pld (hK775 _ _ (wp_ret ?_)))
  replace S:=S.pm [] 10
  obtain rfl:=si H
  exact rt1 E ⟨_,rfl,_,rfl,S⟩
 refine pl0 (plc E (.bn 0 0 7 hb2 .nil) (fun a E=>?_))
 obtain ⟨t7,h8,H⟩:=bd H
 refine plq E S en20 (qS.calls k x _ _ _ _ _ _ _ _ _ S.own.sub g0_4 g0_5 g0_6 h8) fun u6 S a E=>plc E (.r 2 2 .nil) (fun a E=>E.fbn 19 H (fun c9 E H=>?_) fun c9 E H=>?_)
 refine plc E (.r 4 1 .nil) (fun a E=>?_)
 obtain ⟨t11,h12,H⟩:=bd H
 refine plq E S en27 (qi.calls k y _ _ _ _ _ S.own.sub g1_0 h12) fun u10 S a E=>plc E (.r 6 3 .nil) (fun a E=>E.fbn 24 H (fun c13 E H=>?_) fun c13 E H=>?_)
 have hb2:=S.ba 0
 refine plc E (.bn 9 0 7 hb2 .nil) (fun a E=>?_)
 obtain ⟨t15,h16,H⟩:=bd H
 refine plq E S en19 (qb.calls k x _ _ _ _ _ _ _ _ _ S.own.sub g0_4 g0_5 g0_6 h16) fun u14 S a E=>plc E (.r 11 3 .nil) (fun a E=>E.fbn 29 H (fun c17 E H=>?_) fun c17 E H=>?_)
 refine plc E (.r 14 1<|.b 15 0 (S.ba 0)<|.r 16 2<|.nil) (fun a E=>pld ?_)
 exact J22 _ (by omega) _ (decide (x.f0>1000000)) _ _ E .of S H
 refine plc E (.r 14 4 .nil) (fun a E=>pld ?_)
 exact J22 _ (by omega) _ true _ _ E .of S H
 refine plc E (.r 9 9 .nil) (fun a E=>pld ?_)
 exact J22 _ (by omega) _ true _ _ E .of S H
 refine plc E (.r 4 14 .nil) (fun a E=>pld ?_)
 exact J22 _ (by omega) _ true _ _ E .of S H
end Go.Proofs.YtpohepinmjmbkaaGreat.MX
