import Derived.Shelf.Strings.Search3
import Derived.Shelf.Small.Strs
import Derived.Test.YtpabbpebefdafaaGreatProg
namespace Go.Proofs
open Go.Shelf
def Tryz.str219_ren:Go.Shelf.Ren:=⟨fun | 219=>268 | 217=>303 | 225=>304 | 224=>305 | 267=>306 | 266=>332 | 314=>333 | n=>n,fun | 9=>9 | 3=>3 | 4=>4 | 5=>5 | 46=>169 | 146=>352 | 51=>318 | n=>n,fun | 1=>0 | n=>n⟩
theorem Tryz.str219:Go.Proofs.Lays.n219 Tryz.prog Tryz.str219_ren:={
 mixed:=by kernel_rfl
 f217:=Tryz.func303.trans (congrArg some (by kernel_rfl))
 f219:=Tryz.func268.trans (congrArg some (by kernel_rfl))
 f224:=Tryz.func305.trans (congrArg some (by kernel_rfl))
 f225:=Tryz.func304.trans (congrArg some (by kernel_rfl))
 f266:=Tryz.func332.trans (congrArg some (by kernel_rfl))
 f267:=Tryz.func306.trans (congrArg some (by kernel_rfl))
 f314:=Tryz.func333.trans (congrArg some (by kernel_rfl))
 t3:=Tryz.underlying3
 a3:=Tryz.isAgg3
 z3:=Tryz.sizeOf3
 v3:=Tryz.zeroValue3
 t4:=Tryz.underlying4
 a4:=Tryz.isAgg4
 z4:=Tryz.sizeOf4
 v4:=Tryz.zeroValue4
 t5:=Tryz.underlying5
 a5:=Tryz.isAgg5
 z5:=Tryz.sizeOf5
 v5:=Tryz.zeroValue5
 t9:=Tryz.underlying9
 a9:=Tryz.isAgg9
 z9:=Tryz.sizeOf9
 v9:=Tryz.zeroValue9
 t46:=Tryz.underlying169
 a46:=Tryz.isAgg169
 z46:=Tryz.sizeOf169
 v46:=Tryz.zeroValue169
 t51:=Tryz.underlying318
 a51:=Tryz.isAgg318
 z51:=Tryz.sizeOf318
 v51:=Tryz.zeroValue318
 t146:=Tryz.underlying352
 a146:=Tryz.isAgg352
 z146:=Tryz.sizeOf352
 v146:=Tryz.zeroValue352
 g1:=by kernel_rfl }
def Tryz.str106_ren:Go.Shelf.Ren:=⟨fun | 106=>207 | 213=>245 | 265=>279 | n=>n,fun | 9=>9 | 3=>3 | n=>n,fun | n=>n⟩
theorem Tryz.str106:Go.Proofs.Lays.n106 Tryz.prog Tryz.str106_ren:={
 mixed:=by kernel_rfl
 f106:=Tryz.func207.trans (congrArg some (by kernel_rfl))
 f213:=Tryz.func245.trans (congrArg some (by kernel_rfl))
 f265:=Tryz.func279.trans (congrArg some (by kernel_rfl))
 t3:=Tryz.underlying3
 a3:=Tryz.isAgg3
 z3:=Tryz.sizeOf3
 v3:=Tryz.zeroValue3
 t9:=Tryz.underlying9
 a9:=Tryz.isAgg9
 z9:=Tryz.sizeOf9
 v9:=Tryz.zeroValue9 }
end Go.Proofs
