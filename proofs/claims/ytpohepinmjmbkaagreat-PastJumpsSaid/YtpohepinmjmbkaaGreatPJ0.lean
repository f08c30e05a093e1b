import Derived.Test.YtpohepinmjmbkaaGreatSlJ
import Derived.Test.YtpohepinmjmbkaaGreatSort
import Derived.Test.YtpohepinmjmbkaaGreatSlT
import Derived.Test.YtpohepinmjmbkaaGreatSlP
import Derived.Test.YtpohepinmjmbkaaGreatSlR
import Derived.Test.YtpohepinmjmbkaaGreatSortP
import Derived.Test.YtpohepinmjmbkaaGreatSlM
import Derived.Test.YtpohepinmjmbkaaGreatProg
namespace Go.Proofs.YtpohepinmjmbkaaGreat.PJ
open Go Go.RowKit Go.Proofs.YtpohepinmjmbkaaGreat.Sl
set_option linter.unusedVariables false
set_option linter.unusedSimpArgs false
set_option maxHeartbeats 4000000
set_option maxRecDepth 100000
abbrev Cr(f:FuncId)(args:Array Value)(W:World)(Q:Value→World→Prop):Prop:=Calls Tryz.prog f args W fun e w'=>∃ v,e = .returned v∧Q v w'
theorem mixed:Tryz.prog.follows .mixedOrders=true:=by kernel_rfl
structure qA where
 f0:Int
 f1:Int
 f2:Int
 f3:Int
 f4:Bool
 f5:Bool
 deriving DecidableEq
def qA.z:qA:=⟨0,0,0,0,false,false⟩
def qA.k:Kn qA:=⟨6,fun F x cs=>cs=[.int .i64 x.f0,.int .i64 x.f1,.int .i64 x.f2,.int .i64 x.f3,.bool x.f4,.bool x.f5],by
  rintro F x cs h
  subst h
  rfl,by
  rintro F x cs h u hu
  subst h
  simp only [List.mem_cons,List.not_mem_nil,or_false]at hu
  rcases hu with rfl | rfl | rfl | rfl | rfl | rfl <;> rfl,fun hs h=>h⟩
structure qD where
 f0:Int
 f1:List Int
 deriving DecidableEq
def qD.z:qD:=⟨0,[]⟩
def qD.k:Kn qD:=⟨2,fun F x cs=>∃(A1:Option Addr)(c1:Nat),cs=[.int .i64 x.f0,.slice A1 x.f1.length c1]∧Rd (Kn.int .i64) F A1 c1 x.f1,by
  rintro F x cs ⟨_,_,h,_⟩
  subst h
  rfl,by
  rintro F x cs ⟨_,_,h,_⟩ u hu
  subst h
  simp only [List.mem_cons,List.not_mem_nil,or_false]at hu
  rcases hu with rfl | rfl <;> rfl,fun hs ⟨A1,c1,h,g1⟩=>⟨A1,c1,h,g1.mono hs⟩⟩
structure qG where
 f0:Int
 f1:List Int
 deriving DecidableEq
def qG.z:qG:=⟨0,[]⟩
def qG.k:Kn qG:=⟨2,fun F x cs=>∃(A1:Option Addr)(c1:Nat),cs=[.int .i64 x.f0,.slice A1 x.f1.length c1]∧Rd (Kn.int .i64) F A1 c1 x.f1,by
  rintro F x cs ⟨_,_,h,_⟩
  subst h
  rfl,by
  rintro F x cs ⟨_,_,h,_⟩ u hu
  subst h
  simp only [List.mem_cons,List.not_mem_nil,or_false]at hu
  rcases hu with rfl | rfl <;> rfl,fun hs ⟨A1,c1,h,g1⟩=>⟨A1,c1,h,g1.mono hs⟩⟩
structure qC where
 f0:Int
 f1:List qG
 deriving DecidableEq
def qC.z:qC:=⟨0,[]⟩
def qC.k:Kn qC:=⟨2,fun F x cs=>∃(A1:Option Addr)(c1:Nat),cs=[.int .i64 x.f0,.slice A1 x.f1.length c1]∧Rd qG.k F A1 c1 x.f1,by
  rintro F x cs ⟨_,_,h,_⟩
  subst h
  rfl,by
  rintro F x cs ⟨_,_,h,_⟩ u hu
  subst h
  simp only [List.mem_cons,List.not_mem_nil,or_false]at hu
  rcases hu with rfl | rfl <;> rfl,fun hs ⟨A1,c1,h,g1⟩=>⟨A1,c1,h,g1.mono hs⟩⟩
structure qF where
 f0:Int
 f1:Int
 f2:Int
 f3:Int
 f4:List qA
 f5:List qD
 f6:List qC
 deriving DecidableEq
def qF.k:Kn qF:=⟨7,fun F x cs=>∃(A4:Option Addr)(c4:Nat)(A5:Option Addr)(c5:Nat)(A6:Option Addr)(c6:Nat),cs=[.int .i64 x.f0,.int .i64 x.f1,.int .i64 x.f2,.int .i64 x.f3,.slice A4 x.f4.length c4,.slice A5 x.f5.length c5,.slice A6 x.f6.length c6]∧Rd qA.k F A4 c4 x.f4∧Rd qD.k F A5 c5 x.f5∧Rd qC.k F A6 c6 x.f6,by
  rintro F x cs ⟨_,_,_,_,_,_,h,_,_,_⟩
  subst h
  rfl,by
  rintro F x cs ⟨_,_,_,_,_,_,h,_,_,_⟩ u hu
  subst h
  simp only [List.mem_cons,List.not_mem_nil,or_false]at hu
  rcases hu with rfl | rfl | rfl | rfl | rfl | rfl | rfl <;> rfl,fun hs ⟨A4,c4,A5,c5,A6,c6,h,g4,g5,g6⟩=>⟨A4,c4,A5,c5,A6,c6,h,g4.mono hs,g5.mono hs,g6.mono hs⟩⟩
structure qE where
 f0:Int
 f1:Int
 f2:Int
 f3:Int
 f4:Int
 f5:Int
 f6:List Int
 deriving DecidableEq
def qE.z:qE:=⟨0,0,0,0,0,0,[]⟩
def qE.k:Kn qE:=⟨7,fun F x cs=>∃(A6:Option Addr)(c6:Nat),cs=[.int .i64 x.f0,.int .i64 x.f1,.int .i64 x.f2,.int .i64 x.f3,.int .i64 x.f4,.int .i64 x.f5,.slice A6 x.f6.length c6]∧Rd (Kn.int .i64) F A6 c6 x.f6,by
  rintro F x cs ⟨_,_,h,_⟩
  subst h
  rfl,by
  rintro F x cs ⟨_,_,h,_⟩ u hu
  subst h
  simp only [List.mem_cons,List.not_mem_nil,or_false]at hu
  rcases hu with rfl | rfl | rfl | rfl | rfl | rfl | rfl <;> rfl,fun hs ⟨A6,c6,h,g6⟩=>⟨A6,c6,h,g6.mono hs⟩⟩
structure qCi where
 f0:List Int
 f1:List ByteArray
 deriving DecidableEq
structure qp where
 f0:qF
 f1:List qE
 deriving DecidableEq
def qp.k:Kn qp:=⟨8,fun F x cs=>∃(A4:Option Addr)(c4:Nat)(A5:Option Addr)(c5:Nat)(A6:Option Addr)(c6:Nat)(A7:Option Addr)(c7:Nat),cs=[.int .i64 x.f0.f0,.int .i64 x.f0.f1,.int .i64 x.f0.f2,.int .i64 x.f0.f3,.slice A4 x.f0.f4.length c4,.slice A5 x.f0.f5.length c5,.slice A6 x.f0.f6.length c6,.slice A7 x.f1.length c7]∧Rd qA.k F A4 c4 x.f0.f4∧Rd qD.k F A5 c5 x.f0.f5∧Rd qC.k F A6 c6 x.f0.f6∧Rd qE.k F A7 c7 x.f1,by
  rintro F x cs ⟨_,_,_,_,_,_,_,_,h,_,_,_,_⟩
  subst h
  rfl,by
  rintro F x cs ⟨_,_,_,_,_,_,_,_,h,_,_,_,_⟩ u hu
  subst h
  simp only [List.mem_cons,List.not_mem_nil,or_false]at hu
  rcases hu with rfl | rfl | rfl | rfl | rfl | rfl | rfl | rfl <;> rfl,fun hs ⟨A4,c4,A5,c5,A6,c6,A7,c7,h,g4,g5,g6,g7⟩=>⟨A4,c4,A5,c5,A6,c6,A7,c7,h,g4.mono hs,g5.mono hs,g6.mono hs,g7.mono hs⟩⟩
structure qQ where
 f0:Int
 f1:Int
 f2:Int
 deriving DecidableEq
def qQ.z:qQ:=⟨0,0,0⟩
def qQ.k:Kn qQ:=⟨3,fun F x cs=>cs=[.int .i64 x.f0,.int .i64 x.f1,.int .i64 x.f2],by
  rintro F x cs h
  subst h
  rfl,by
  rintro F x cs h u hu
  subst h
  simp only [List.mem_cons,List.not_mem_nil,or_false]at hu
  rcases hu with rfl | rfl | rfl <;> rfl,fun hs h=>h⟩
structure qB where
 f0:Int
 f1:Int
 deriving DecidableEq
def qB.z:qB:=⟨0,0⟩
def qB.k:Kn qB:=⟨2,fun F x cs=>cs=[.int .i64 x.f0,.int .i64 x.f1],by
  rintro F x cs h
  subst h
  rfl,by
  rintro F x cs h u hu
  subst h
  simp only [List.mem_cons,List.not_mem_nil,or_false]at hu
  rcases hu with rfl | rfl <;> rfl,fun hs h=>h⟩
structure qi where
 f0:Int
 f1:Int
 f2:Int
 deriving DecidableEq
def qi.z:qi:=⟨0,0,0⟩
def qi.k:Kn qi:=⟨3,fun F x cs=>cs=[.int .i64 x.f0,.int .i64 x.f1,.int .i64 x.f2],by
  rintro F x cs h
  subst h
  rfl,by
  rintro F x cs h u hu
  subst h
  simp only [List.mem_cons,List.not_mem_nil,or_false]at hu
  rcases hu with rfl | rfl | rfl <;> rfl,fun hs h=>h⟩
structure Ar3_i64 where
 f0:Int
 f1:Int
 f2:Int
 deriving DecidableEq
def Ar3_i64.z:Ar3_i64:=⟨0,0,0⟩
def Ar3_i64.k:Kn Ar3_i64:=⟨3,fun F x cs=>cs=[.int .i64 x.f0,.int .i64 x.f1,.int .i64 x.f2],by
  rintro F x cs h
  subst h
  rfl,by
  rintro F x cs h u hu
  subst h
  simp only [List.mem_cons,List.not_mem_nil,or_false]at hu
  rcases hu with rfl | rfl | rfl <;> rfl,fun hs h=>h⟩
theorem eo {P : Program} {g : FuncId} {fn : Func} (hf : P.funcs[g]? = some fn) (hname : (fn.name == "runtime.NumGoroutine") = false := by kernel_rfl) (hb : fn.body.isSome = true := by rfl) : Enters P g := by
 cases h:fn.body with
 | none=>rw [h]at hb; cases hb
 | some c=>exact enters_of hf hname h
abbrev Et(g:FuncId):Prop:=Enters Tryz.prog g
theorem en16:Et 16:=eo Tryz.func16
theorem en19:Et 19:=eo Tryz.func19
theorem en20:Et 20:=eo Tryz.func20
theorem en21:Et 21:=eo Tryz.func21
theorem en23:Et 23:=eo Tryz.func23
theorem en25:Et 25:=eo Tryz.func25
theorem en26:Et 26:=eo Tryz.func26
theorem en27:Et 27:=eo Tryz.func27
theorem en29:Et 29:=eo Tryz.func29
theorem en30:Et 30:=eo Tryz.func30
theorem en31:Et 31:=eo Tryz.func31
theorem en32:Et 32:=eo Tryz.func32
theorem en33:Et 33:=eo Tryz.func33
theorem en34:Et 34:=eo Tryz.func34
theorem en35:Et 35:=eo Tryz.func35
theorem en37:Et 37:=eo Tryz.func37
theorem en39:Et 39:=eo Tryz.func39
theorem en40:Et 40:=eo Tryz.func40
theorem en41:Et 41:=eo Tryz.func41
theorem en42:Et 42:=eo Tryz.func42
theorem en43:Et 43:=eo Tryz.func43
theorem en44:Et 44:=eo Tryz.func44
theorem en45:Et 45:=eo Tryz.func45
theorem en46:Et 46:=eo Tryz.func46
theorem en47:Et 47:=eo Tryz.func47
theorem en48:Et 48:=eo Tryz.func48
theorem en54:Et 54:=eo Tryz.func54
theorem en65:Et 65:=eo Tryz.func65
theorem en66:Et 66:=eo Tryz.func66
theorem en67:Et 67:=eo Tryz.func67
theorem en68:Et 68:=eo Tryz.func68
theorem en69:Et 69:=eo Tryz.func69
theorem en70:Et 70:=eo Tryz.func70
theorem en71:Et 71:=eo Tryz.func71
theorem en72:Et 72:=eo Tryz.func72
theorem en73:Et 73:=eo Tryz.func73
theorem en74:Et 74:=eo Tryz.func74
theorem en75:Et 75:=eo Tryz.func75
theorem en76:Et 76:=eo Tryz.func76
theorem en77:Et 77:=eo Tryz.func77
theorem en78:Et 78:=eo Tryz.func78
theorem en79:Et 79:=eo Tryz.func79
theorem en80:Et 80:=eo Tryz.func80
theorem en81:Et 81:=eo Tryz.func81
theorem en82:Et 82:=eo Tryz.func82
theorem en83:Et 83:=eo Tryz.func83
theorem en84:Et 84:=eo Tryz.func84
theorem en85:Et 85:=eo Tryz.func85
theorem en86:Et 86:=eo Tryz.func86
theorem en87:Et 87:=eo Tryz.func87
theorem en88:Et 88:=eo Tryz.func88
theorem en89:Et 89:=eo Tryz.func89
theorem en90:Et 90:=eo Tryz.func90
theorem en91:Et 91:=eo Tryz.func91
theorem en92:Et 92:=eo Tryz.func92
theorem en93:Et 93:=eo Tryz.func93
theorem en94:Et 94:=eo Tryz.func94
theorem en95:Et 95:=eo Tryz.func95
theorem en96:Et 96:=eo Tryz.func96
theorem en97:Et 97:=eo Tryz.func97
theorem en98:Et 98:=eo Tryz.func98
theorem en99:Et 99:=eo Tryz.func99
theorem en100:Et 100:=eo Tryz.func100
theorem en101:Et 101:=eo Tryz.func101
theorem en102:Et 102:=eo Tryz.func102
theorem en110:Et 110:=eo Tryz.func110
theorem en112:Et 112:=eo Tryz.func112
theorem en118:Et 118:=eo Tryz.func118
theorem en119:Et 119:=eo Tryz.func119
theorem en121:Et 121:=eo Tryz.func121
theorem en122:Et 122:=eo Tryz.func122
theorem en123:Et 123:=eo Tryz.func123
theorem en124:Et 124:=eo Tryz.func124
theorem en125:Et 125:=eo Tryz.func125
theorem en126:Et 126:=eo Tryz.func126
theorem en127:Et 127:=eo Tryz.func127
theorem en128:Et 128:=eo Tryz.func128
theorem en129:Et 129:=eo Tryz.func129
theorem en130:Et 130:=eo Tryz.func130
theorem en131:Et 131:=eo Tryz.func131
theorem en132:Et 132:=eo Tryz.func132
theorem en133:Et 133:=eo Tryz.func133
theorem en134:Et 134:=eo Tryz.func134
theorem en135:Et 135:=eo Tryz.func135
theorem en136:Et 136:=eo Tryz.func136
theorem en137:Et 137:=eo Tryz.func137
theorem en138:Et 138:=eo Tryz.func138
theorem en139:Et 139:=eo Tryz.func139
theorem en140:Et 140:=eo Tryz.func140
theorem en141:Et 141:=eo Tryz.func141
theorem en142:Et 142:=eo Tryz.func142
theorem en143:Et 143:=eo Tryz.func143
theorem en144:Et 144:=eo Tryz.func144
theorem en145:Et 145:=eo Tryz.func145
theorem en146:Et 146:=eo Tryz.func146
theorem en147:Et 147:=eo Tryz.func147
theorem en148:Et 148:=eo Tryz.func148
theorem en149:Et 149:=eo Tryz.func149
theorem en150:Et 150:=eo Tryz.func150
theorem en151:Et 151:=eo Tryz.func151
theorem en152:Et 152:=eo Tryz.func152
theorem en153:Et 153:=eo Tryz.func153
theorem en154:Et 154:=eo Tryz.func154
theorem en157:Et 157:=eo Tryz.func157
theorem en161:Et 161:=eo Tryz.func161
theorem en162:Et 162:=eo Tryz.func162
theorem en163:Et 163:=eo Tryz.func163
theorem en164:Et 164:=eo Tryz.func164
theorem en165:Et 165:=eo Tryz.func165
theorem en166:Et 166:=eo Tryz.func166
theorem en167:Et 167:=eo Tryz.func167
theorem en168:Et 168:=eo Tryz.func168
theorem en169:Et 169:=eo Tryz.func169
theorem en170:Et 170:=eo Tryz.func170
theorem en171:Et 171:=eo Tryz.func171
theorem en172:Et 172:=eo Tryz.func172
theorem en173:Et 173:=eo Tryz.func173
theorem en174:Et 174:=eo Tryz.func174
theorem en175:Et 175:=eo Tryz.func175
theorem en176:Et 176:=eo Tryz.func176
theorem en177:Et 177:=eo Tryz.func177
theorem en178:Et 178:=eo Tryz.func178
theorem en179:Et 179:=eo Tryz.func179
theorem en180:Et 180:=eo Tryz.func180
theorem en181:Et 181:=eo Tryz.func181
theorem en182:Et 182:=eo Tryz.func182
theorem en183:Et 183:=eo Tryz.func183
theorem en184:Et 184:=eo Tryz.func184
theorem en185:Et 185:=eo Tryz.func185
theorem en187:Et 187:=eo Tryz.func187
theorem en188:Et 188:=eo Tryz.func188
theorem en189:Et 189:=eo Tryz.func189
theorem en202:Et 202:=eo Tryz.func202
theorem en203:Et 203:=eo Tryz.func203
theorem en204:Et 204:=eo Tryz.func204
theorem en205:Et 205:=eo Tryz.func205
theorem en206:Et 206:=eo Tryz.func206
theorem en207:Et 207:=eo Tryz.func207
theorem en208:Et 208:=eo Tryz.func208
theorem en209:Et 209:=eo Tryz.func209
theorem en214:Et 214:=eo Tryz.func214
theorem en215:Et 215:=eo Tryz.func215
theorem en216:Et 216:=eo Tryz.func216
theorem en217:Et 217:=eo Tryz.func217
theorem en224:Et 224:=eo Tryz.func224
theorem en225:Et 225:=eo Tryz.func225
theorem en226:Et 226:=eo Tryz.func226
theorem en227:Et 227:=eo Tryz.func227
theorem en228:Et 228:=eo Tryz.func228
theorem en229:Et 229:=eo Tryz.func229
theorem en230:Et 230:=eo Tryz.func230
theorem en231:Et 231:=eo Tryz.func231
theorem en234:Et 234:=eo Tryz.func234
theorem en236:Et 236:=eo Tryz.func236
theorem en237:Et 237:=eo Tryz.func237
theorem en238:Et 238:=eo Tryz.func238
theorem en239:Et 239:=eo Tryz.func239
theorem en240:Et 240:=eo Tryz.func240
theorem en241:Et 241:=eo Tryz.func241
theorem en242:Et 242:=eo Tryz.func242
theorem en243:Et 243:=eo Tryz.func243
theorem en244:Et 244:=eo Tryz.func244
theorem en245:Et 245:=eo Tryz.func245
theorem en246:Et 246:=eo Tryz.func246
theorem en247:Et 247:=eo Tryz.func247
theorem en248:Et 248:=eo Tryz.func248
theorem en249:Et 249:=eo Tryz.func249
theorem en250:Et 250:=eo Tryz.func250
theorem en251:Et 251:=eo Tryz.func251
theorem en254:Et 254:=eo Tryz.func254
theorem en255:Et 255:=eo Tryz.func255
theorem en256:Et 256:=eo Tryz.func256
theorem en257:Et 257:=eo Tryz.func257
theorem en259:Et 259:=eo Tryz.func259
theorem en260:Et 260:=eo Tryz.func260
theorem en271:Et 271:=eo Tryz.func271
theorem en272:Et 272:=eo Tryz.func272
theorem sz3:sizeB Tryz.prog 3=some 1:=by kernel_rfl
theorem ag26:aggB Tryz.prog 26=some true:=by kernel_rfl
theorem sz26:sizeB Tryz.prog 26=some 7:=by kernel_rfl
theorem ag40:aggB Tryz.prog 40=some true:=by kernel_rfl
theorem sz40:sizeB Tryz.prog 40=some 7:=by kernel_rfl
theorem ag49:aggB Tryz.prog 49=some true:=by kernel_rfl
theorem sz49:sizeB Tryz.prog 49=some 2:=by kernel_rfl
theorem sz51:sizeB Tryz.prog 51=some 2:=by kernel_rfl
theorem ag59:aggB Tryz.prog 59=some true:=by kernel_rfl
theorem sz59:sizeB Tryz.prog 59=some 8:=by kernel_rfl
theorem ag104:aggB Tryz.prog 104=some true:=by kernel_rfl
theorem sz104:sizeB Tryz.prog 104=some 6:=by kernel_rfl
theorem ag120:aggB Tryz.prog 120=some true:=by kernel_rfl
theorem sz120:sizeB Tryz.prog 120=some 2:=by kernel_rfl
theorem ag216:aggB Tryz.prog 216=some true:=by kernel_rfl
theorem sz216:sizeB Tryz.prog 216=some 2:=by kernel_rfl
theorem zr3:zerK Tryz.prog 3=[.int .i64 0]:=by kernel_rfl
theorem zr51:zerK Tryz.prog 51=[.int .i64 0,.slice none 0 0]:=by kernel_rfl
theorem zr97:zerK Tryz.prog 97=[.int .i64 0,.slice none 0 0]:=by kernel_rfl
theorem zr104:zerK Tryz.prog 104=[.int .i64 0,.int .i64 0,.int .i64 0,.int .i64 0,.bool false,.bool false]:=by kernel_rfl
theorem zr216:zerK Tryz.prog 216=[.int .i64 0,.int .i64 0]:=by kernel_rfl
theorem ud3:Tryz.prog.underlying 3=some (.int .i64):=by kernel_rfl
theorem ud4:Tryz.prog.underlying 4=some (.bool):=by kernel_rfl
theorem qA.beq(x y:qA):(x.f0 == y.f0&&(x.f1 == y.f1&&(x.f2 == y.f2&&(x.f3 == y.f3&&(x.f4 == y.f4&&(x.f5 == y.f5&&(true)))))))=decide (x=y):=by
 cases x; cases y
 rw [Bool.eq_iff_iff]
 simp only [Bool.and_eq_true,beq_iff_eq,decide_eq_true_eq,qA.mk.injEq,and_true]
theorem eqs104(x y:qA)(w:World)(d:Nat):(Op.equalIn (d+2) 104 (.agg #[.int .i64 x.f0,.int .i64 x.f1,.int .i64 x.f2,.int .i64 x.f3,.bool x.f4,.bool x.f5]) (.agg #[.int .i64 y.f0,.int .i64 y.f1,.int .i64 y.f2,.int .i64 y.f3,.bool y.f4,.bool y.f5])).run Tryz.prog w = .ok (decide (x=y)) w :=
 (qJV (d:=d+1) Tryz.underlying104 (by kernel_rfl) (qDf (by kernel_rfl) (by kernel_rfl) (by kernel_rfl) (qGL ud3) (qDf (by kernel_rfl) (by kernel_rfl) (by kernel_rfl) (qGL ud3) (qDf (by kernel_rfl) (by kernel_rfl) (by kernel_rfl) (qGL ud3) (qDf (by kernel_rfl) (by kernel_rfl) (by kernel_rfl) (qGL ud3) (qDf (by kernel_rfl) (by kernel_rfl) (by kernel_rfl) (qHG ud4) (qDf (by kernel_rfl) (by kernel_rfl) (by kernel_rfl) (qHG ud4) (qIw)))))))).trans (congrArg (fun b=>Result.ok b w) (qA.beq x y))
end Go.Proofs.YtpohepinmjmbkaaGreat.PJ
