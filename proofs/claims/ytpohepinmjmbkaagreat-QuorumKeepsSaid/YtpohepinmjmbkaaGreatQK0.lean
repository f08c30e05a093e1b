import Derived.Test.YtpohepinmjmbkaaGreatSlJ
import Derived.Test.YtpohepinmjmbkaaGreatSort
import Derived.Test.YtpohepinmjmbkaaGreatSlN
import Derived.Test.YtpohepinmjmbkaaGreatSlQ
import Derived.Test.YtpohepinmjmbkaaGreatSlR
import Derived.Test.YtpohepinmjmbkaaGreatSortP
import Derived.Test.YtpohepinmjmbkaaGreatSlM
import Derived.Test.YtpohepinmjmbkaaGreatProg
namespace Go.Proofs.YtpohepinmjmbkaaGreat.QK
open Go Go.RowKit Go.Proofs.YtpohepinmjmbkaaGreat.Sl
set_option linter.unusedVariables false
set_option linter.unusedSimpArgs false
set_option maxHeartbeats 4000000
set_option maxRecDepth 100000
abbrev Cr(f:FuncId)(args:Array Value)(W:World)(Q:Value→World→Prop):Prop:=Calls Tryz.prog f args W fun e w'=>∃ v,e = .returned v∧Q v w'
theorem mixed:Tryz.prog.follows .mixedOrders=true:=by kernel_rfl
structure qA where
 f0:Int
 f1:Int
 f2:Int
 f3:Int
 f4:Bool
 f5:Bool
 deriving DecidableEq
def qA.z:qA:=⟨0,0,0,0,false,false⟩
def qA.k:Kn qA:=⟨6,fun F x cs=>cs=[.int .i64 x.f0,.int .i64 x.f1,.int .i64 x.f2,.int .i64 x.f3,.bool x.f4,.bool x.f5],by
  rintro F x cs h
  subst h
  rfl,by
  rintro F x cs h u hu
  subst h
  simp only [List.mem_cons,List.not_mem_nil,or_false]at hu
  rcases hu with rfl | rfl | rfl | rfl | rfl | rfl <;> rfl,fun hs h=>h⟩
structure qE where
 f0:Int
 f1:List Int
 deriving DecidableEq
def qE.z:qE:=⟨0,[]⟩
def qE.k:Kn qE:=⟨2,fun F x cs=>∃(A1:Option Addr)(c1:Nat),cs=[.int .i64 x.f0,.slice A1 x.f1.length c1]∧Rd (Kn.int .i64) F A1 c1 x.f1,by
  rintro F x cs ⟨_,_,h,_⟩
  subst h
  rfl,by
  rintro F x cs ⟨_,_,h,_⟩ u hu
  subst h
  simp only [List.mem_cons,List.not_mem_nil,or_false]at hu
  rcases hu with rfl | rfl <;> rfl,fun hs ⟨A1,c1,h,g1⟩=>⟨A1,c1,h,g1.mono hs⟩⟩
structure qF where
 f0:Int
 f1:List Int
 deriving DecidableEq
def qF.z:qF:=⟨0,[]⟩
def qF.k:Kn qF:=⟨2,fun F x cs=>∃(A1:Option Addr)(c1:Nat),cs=[.int .i64 x.f0,.slice A1 x.f1.length c1]∧Rd (Kn.int .i64) F A1 c1 x.f1,by
  rintro F x cs ⟨_,_,h,_⟩
  subst h
  rfl,by
  rintro F x cs ⟨_,_,h,_⟩ u hu
  subst h
  simp only [List.mem_cons,List.not_mem_nil,or_false]at hu
  rcases hu with rfl | rfl <;> rfl,fun hs ⟨A1,c1,h,g1⟩=>⟨A1,c1,h,g1.mono hs⟩⟩
structure qC where
 f0:Int
 f1:List qF
 deriving DecidableEq
def qC.z:qC:=⟨0,[]⟩
def qC.k:Kn qC:=⟨2,fun F x cs=>∃(A1:Option Addr)(c1:Nat),cs=[.int .i64 x.f0,.slice A1 x.f1.length c1]∧Rd qF.k F A1 c1 x.f1,by
  rintro F x cs ⟨_,_,h,_⟩
  subst h
  rfl,by
  rintro F x cs ⟨_,_,h,_⟩ u hu
  subst h
  simp only [List.mem_cons,List.not_mem_nil,or_false]at hu
  rcases hu with rfl | rfl <;> rfl,fun hs ⟨A1,c1,h,g1⟩=>⟨A1,c1,h,g1.mono hs⟩⟩
structure qG where
 f0:Int
 f1:Int
 f2:Int
 f3:Int
 f4:List qA
 f5:List qE
 f6:List qC
 deriving DecidableEq
def qG.k:Kn qG:=⟨7,fun F x cs=>∃(A4:Option Addr)(c4:Nat)(A5:Option Addr)(c5:Nat)(A6:Option Addr)(c6:Nat),cs=[.int .i64 x.f0,.int .i64 x.f1,.int .i64 x.f2,.int .i64 x.f3,.slice A4 x.f4.length c4,.slice A5 x.f5.length c5,.slice A6 x.f6.length c6]∧Rd qA.k F A4 c4 x.f4∧Rd qE.k F A5 c5 x.f5∧Rd qC.k F A6 c6 x.f6,by
  rintro F x cs ⟨_,_,_,_,_,_,h,_,_,_⟩
  subst h
  rfl,by
  rintro F x cs ⟨_,_,_,_,_,_,h,_,_,_⟩ u hu
  subst h
  simp only [List.mem_cons,List.not_mem_nil,or_false]at hu
  rcases hu with rfl | rfl | rfl | rfl | rfl | rfl | rfl <;> rfl,fun hs ⟨A4,c4,A5,c5,A6,c6,h,g4,g5,g6⟩=>⟨A4,c4,A5,c5,A6,c6,h,g4.mono hs,g5.mono hs,g6.mono hs⟩⟩
structure ql where
 f0:Int
 f1:Int
 f2:Int
 deriving DecidableEq
def ql.z:ql:=⟨0,0,0⟩
def ql.k:Kn ql:=⟨3,fun F x cs=>cs=[.int .i64 x.f0,.int .i64 x.f1,.int .i64 x.f2],by
  rintro F x cs h
  subst h
  rfl,by
  rintro F x cs h u hu
  subst h
  simp only [List.mem_cons,List.not_mem_nil,or_false]at hu
  rcases hu with rfl | rfl | rfl <;> rfl,fun hs h=>h⟩
structure qB where
 f0:Int
 f1:Int
 deriving DecidableEq
def qB.z:qB:=⟨0,0⟩
def qB.k:Kn qB:=⟨2,fun F x cs=>cs=[.int .i64 x.f0,.int .i64 x.f1],by
  rintro F x cs h
  subst h
  rfl,by
  rintro F x cs h u hu
  subst h
  simp only [List.mem_cons,List.not_mem_nil,or_false]at hu
  rcases hu with rfl | rfl <;> rfl,fun hs h=>h⟩
structure qf where
 f0:Int
 f1:Int
 f2:Int
 deriving DecidableEq
def qf.z:qf:=⟨0,0,0⟩
def qf.k:Kn qf:=⟨3,fun F x cs=>cs=[.int .i64 x.f0,.int .i64 x.f1,.int .i64 x.f2],by
  rintro F x cs h
  subst h
  rfl,by
  rintro F x cs h u hu
  subst h
  simp only [List.mem_cons,List.not_mem_nil,or_false]at hu
  rcases hu with rfl | rfl | rfl <;> rfl,fun hs h=>h⟩
structure qd where
 f0:Int
 f1:Int
 f2:Int
 f3:Int
 f4:Int
 f5:Int
 f6:List Int
 deriving DecidableEq
def qd.z:qd:=⟨0,0,0,0,0,0,[]⟩
def qd.k:Kn qd:=⟨7,fun F x cs=>∃(A6:Option Addr)(c6:Nat),cs=[.int .i64 x.f0,.int .i64 x.f1,.int .i64 x.f2,.int .i64 x.f3,.int .i64 x.f4,.int .i64 x.f5,.slice A6 x.f6.length c6]∧Rd (Kn.int .i64) F A6 c6 x.f6,by
  rintro F x cs ⟨_,_,h,_⟩
  subst h
  rfl,by
  rintro F x cs ⟨_,_,h,_⟩ u hu
  subst h
  simp only [List.mem_cons,List.not_mem_nil,or_false]at hu
  rcases hu with rfl | rfl | rfl | rfl | rfl | rfl | rfl <;> rfl,fun hs ⟨A6,c6,h,g6⟩=>⟨A6,c6,h,g6.mono hs⟩⟩
structure qJ where
 f0:Int
 f1:Int
 f2:Int
 f3:Int
 f4:Int
 deriving DecidableEq
def qJ.z:qJ:=⟨0,0,0,0,0⟩
def qJ.k:Kn qJ:=⟨5,fun F x cs=>cs=[.int .i64 x.f0,.int .i64 x.f1,.int .i64 x.f2,.int .i64 x.f3,.int .i64 x.f4],by
  rintro F x cs h
  subst h
  rfl,by
  rintro F x cs h u hu
  subst h
  simp only [List.mem_cons,List.not_mem_nil,or_false]at hu
  rcases hu with rfl | rfl | rfl | rfl | rfl <;> rfl,fun hs h=>h⟩
structure qAp where
 f0:Bool
 f1:Int
 f2:List Int
 f3:List Int
 deriving DecidableEq
structure qK where
 f0:Int
 f1:Int
 deriving DecidableEq
def qK.z:qK:=⟨0,0⟩
def qK.mv(x:qK):Value:=.agg #[.int .i64 x.f0,.int .i64 x.f1]
theorem eo {P : Program} {g : FuncId} {fn : Func} (hf : P.funcs[g]? = some fn) (hname : (fn.name == "runtime.NumGoroutine") = false := by kernel_rfl) (hb : fn.body.isSome = true := by rfl) : Enters P g := by
 cases h:fn.body with
 | none=>rw [h]at hb; cases hb
 | some c=>exact enters_of hf hname h
abbrev Et(g:FuncId):Prop:=Enters Tryz.prog g
theorem en15:Et 15:=eo Tryz.func15
theorem en19:Et 19:=eo Tryz.func19
theorem en20:Et 20:=eo Tryz.func20
theorem en21:Et 21:=eo Tryz.func21
theorem en22:Et 22:=eo Tryz.func22
theorem en24:Et 24:=eo Tryz.func24
theorem en26:Et 26:=eo Tryz.func26
theorem en27:Et 27:=eo Tryz.func27
theorem en32:Et 32:=eo Tryz.func32
theorem en49:Et 49:=eo Tryz.func49
theorem en50:Et 50:=eo Tryz.func50
theorem en51:Et 51:=eo Tryz.func51
theorem en56:Et 56:=eo Tryz.func56
theorem en57:Et 57:=eo Tryz.func57
theorem en58:Et 58:=eo Tryz.func58
theorem en67:Et 67:=eo Tryz.func67
theorem en68:Et 68:=eo Tryz.func68
theorem en69:Et 69:=eo Tryz.func69
theorem en70:Et 70:=eo Tryz.func70
theorem en71:Et 71:=eo Tryz.func71
theorem en74:Et 74:=eo Tryz.func74
theorem en75:Et 75:=eo Tryz.func75
theorem en76:Et 76:=eo Tryz.func76
theorem en77:Et 77:=eo Tryz.func77
theorem en78:Et 78:=eo Tryz.func78
theorem en79:Et 79:=eo Tryz.func79
theorem en80:Et 80:=eo Tryz.func80
theorem en81:Et 81:=eo Tryz.func81
theorem en82:Et 82:=eo Tryz.func82
theorem en90:Et 90:=eo Tryz.func90
theorem en103:Et 103:=eo Tryz.func103
theorem en104:Et 104:=eo Tryz.func104
theorem en105:Et 105:=eo Tryz.func105
theorem en106:Et 106:=eo Tryz.func106
theorem en107:Et 107:=eo Tryz.func107
theorem en108:Et 108:=eo Tryz.func108
theorem en109:Et 109:=eo Tryz.func109
theorem en110:Et 110:=eo Tryz.func110
theorem en111:Et 111:=eo Tryz.func111
theorem en112:Et 112:=eo Tryz.func112
theorem en114:Et 114:=eo Tryz.func114
theorem en115:Et 115:=eo Tryz.func115
theorem en116:Et 116:=eo Tryz.func116
theorem en118:Et 118:=eo Tryz.func118
theorem en119:Et 119:=eo Tryz.func119
theorem en121:Et 121:=eo Tryz.func121
theorem en122:Et 122:=eo Tryz.func122
theorem en125:Et 125:=eo Tryz.func125
theorem en126:Et 126:=eo Tryz.func126
theorem en127:Et 127:=eo Tryz.func127
theorem en128:Et 128:=eo Tryz.func128
theorem en129:Et 129:=eo Tryz.func129
theorem en130:Et 130:=eo Tryz.func130
theorem en131:Et 131:=eo Tryz.func131
theorem en132:Et 132:=eo Tryz.func132
theorem en133:Et 133:=eo Tryz.func133
theorem en134:Et 134:=eo Tryz.func134
theorem en135:Et 135:=eo Tryz.func135
theorem en136:Et 136:=eo Tryz.func136
theorem en137:Et 137:=eo Tryz.func137
theorem en138:Et 138:=eo Tryz.func138
theorem en139:Et 139:=eo Tryz.func139
theorem en140:Et 140:=eo Tryz.func140
theorem en141:Et 141:=eo Tryz.func141
theorem en142:Et 142:=eo Tryz.func142
theorem en155:Et 155:=eo Tryz.func155
theorem en156:Et 156:=eo Tryz.func156
theorem en157:Et 157:=eo Tryz.func157
theorem en160:Et 160:=eo Tryz.func160
theorem en161:Et 161:=eo Tryz.func161
theorem en162:Et 162:=eo Tryz.func162
theorem en163:Et 163:=eo Tryz.func163
theorem en164:Et 164:=eo Tryz.func164
theorem en165:Et 165:=eo Tryz.func165
theorem en166:Et 166:=eo Tryz.func166
theorem en167:Et 167:=eo Tryz.func167
theorem en173:Et 173:=eo Tryz.func173
theorem en174:Et 174:=eo Tryz.func174
theorem en175:Et 175:=eo Tryz.func175
theorem en176:Et 176:=eo Tryz.func176
theorem en177:Et 177:=eo Tryz.func177
theorem en178:Et 178:=eo Tryz.func178
theorem en179:Et 179:=eo Tryz.func179
theorem en180:Et 180:=eo Tryz.func180
theorem en181:Et 181:=eo Tryz.func181
theorem en182:Et 182:=eo Tryz.func182
theorem en183:Et 183:=eo Tryz.func183
theorem en184:Et 184:=eo Tryz.func184
theorem en185:Et 185:=eo Tryz.func185
theorem en187:Et 187:=eo Tryz.func187
theorem en190:Et 190:=eo Tryz.func190
theorem en202:Et 202:=eo Tryz.func202
theorem en203:Et 203:=eo Tryz.func203
theorem en204:Et 204:=eo Tryz.func204
theorem en214:Et 214:=eo Tryz.func214
theorem en215:Et 215:=eo Tryz.func215
theorem en216:Et 216:=eo Tryz.func216
theorem en217:Et 217:=eo Tryz.func217
theorem en224:Et 224:=eo Tryz.func224
theorem en225:Et 225:=eo Tryz.func225
theorem en226:Et 226:=eo Tryz.func226
theorem en227:Et 227:=eo Tryz.func227
theorem en228:Et 228:=eo Tryz.func228
theorem en229:Et 229:=eo Tryz.func229
theorem en234:Et 234:=eo Tryz.func234
theorem en236:Et 236:=eo Tryz.func236
theorem en237:Et 237:=eo Tryz.func237
theorem en238:Et 238:=eo Tryz.func238
theorem en239:Et 239:=eo Tryz.func239
theorem en240:Et 240:=eo Tryz.func240
theorem en241:Et 241:=eo Tryz.func241
theorem en242:Et 242:=eo Tryz.func242
theorem en243:Et 243:=eo Tryz.func243
theorem en244:Et 244:=eo Tryz.func244
theorem en245:Et 245:=eo Tryz.func245
theorem en246:Et 246:=eo Tryz.func246
theorem en247:Et 247:=eo Tryz.func247
theorem en248:Et 248:=eo Tryz.func248
theorem en249:Et 249:=eo Tryz.func249
theorem en250:Et 250:=eo Tryz.func250
theorem en254:Et 254:=eo Tryz.func254
theorem en255:Et 255:=eo Tryz.func255
theorem en256:Et 256:=eo Tryz.func256
theorem en257:Et 257:=eo Tryz.func257
theorem en259:Et 259:=eo Tryz.func259
theorem en260:Et 260:=eo Tryz.func260
theorem en271:Et 271:=eo Tryz.func271
theorem en272:Et 272:=eo Tryz.func272
theorem sz3:sizeB Tryz.prog 3=some 1:=by kernel_rfl
theorem ag26:aggB Tryz.prog 26=some true:=by kernel_rfl
theorem sz26:sizeB Tryz.prog 26=some 7:=by kernel_rfl
theorem sz51:sizeB Tryz.prog 51=some 2:=by kernel_rfl
theorem ag74:aggB Tryz.prog 74=some true:=by kernel_rfl
theorem sz74:sizeB Tryz.prog 74=some 4:=by kernel_rfl
theorem ag86:aggB Tryz.prog 86=some true:=by kernel_rfl
theorem sz86:sizeB Tryz.prog 86=some 5:=by kernel_rfl
theorem ag104:aggB Tryz.prog 104=some true:=by kernel_rfl
theorem sz104:sizeB Tryz.prog 104=some 6:=by kernel_rfl
theorem ag216:aggB Tryz.prog 216=some true:=by kernel_rfl
theorem sz216:sizeB Tryz.prog 216=some 2:=by kernel_rfl
theorem zr3:zerK Tryz.prog 3=[.int .i64 0]:=by kernel_rfl
theorem zr49:zerK Tryz.prog 49=[.int .i64 0,.slice none 0 0]:=by kernel_rfl
theorem zr51:zerK Tryz.prog 51=[.int .i64 0,.slice none 0 0]:=by kernel_rfl
theorem zr97:zerK Tryz.prog 97=[.int .i64 0,.slice none 0 0]:=by kernel_rfl
theorem zr104:zerK Tryz.prog 104=[.int .i64 0,.int .i64 0,.int .i64 0,.int .i64 0,.bool false,.bool false]:=by kernel_rfl
theorem zr216:zerK Tryz.prog 216=[.int .i64 0,.int .i64 0]:=by kernel_rfl
end Go.Proofs.YtpohepinmjmbkaaGreat.QK
