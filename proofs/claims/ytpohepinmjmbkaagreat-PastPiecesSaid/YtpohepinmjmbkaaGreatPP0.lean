import Derived.Test.YtpohepinmjmbkaaGreatSlJ
import Derived.Test.YtpohepinmjmbkaaGreatSort
import Derived.Test.YtpohepinmjmbkaaGreatSlT
import Derived.Test.YtpohepinmjmbkaaGreatSlP
import Derived.Test.YtpohepinmjmbkaaGreatSlR
import Derived.Test.YtpohepinmjmbkaaGreatSortP
import Derived.Test.YtpohepinmjmbkaaGreatSlM
import Derived.Test.YtpohepinmjmbkaaGreatProg
namespace Go.Proofs.YtpohepinmjmbkaaGreat.PP
open Go Go.RowKit Go.Proofs.YtpohepinmjmbkaaGreat.Sl
set_option linter.unusedVariables false
set_option linter.unusedSimpArgs false
set_option maxHeartbeats 4000000
set_option maxRecDepth 100000
abbrev Cr(f:FuncId)(args:Array Value)(W:World)(Q:Value→World→Prop):Prop:=Calls Tryz.prog f args W fun e w'=>∃ v,e = .returned v∧Q v w'
theorem mixed:Tryz.prog.follows .mixedOrders=true:=by kernel_rfl
structure qA where
 f0:Int
 f1:Int
 f2:Int
 f3:Int
 f4:Bool
 f5:Bool
 deriving DecidableEq
def qA.z:qA:=⟨0,0,0,0,false,false⟩
def qA.k:Kn qA:=⟨6,fun F x cs=>cs=[.int .i64 x.f0,.int .i64 x.f1,.int .i64 x.f2,.int .i64 x.f3,.bool x.f4,.bool x.f5],by
  rintro F x cs h
  subst h
  rfl,by
  rintro F x cs h u hu
  subst h
  simp only [List.mem_cons,List.not_mem_nil,or_false]at hu
  rcases hu with rfl | rfl | rfl | rfl | rfl | rfl <;> rfl,fun hs h=>h⟩
structure qG where
 f0:Int
 f1:List Int
 deriving DecidableEq
def qG.z:qG:=⟨0,[]⟩
def qG.k:Kn qG:=⟨2,fun F x cs=>∃(A1:Option Addr)(c1:Nat),cs=[.int .i64 x.f0,.slice A1 x.f1.length c1]∧Rd (Kn.int .i64) F A1 c1 x.f1,by
  rintro F x cs ⟨_,_,h,_⟩
  subst h
  rfl,by
  rintro F x cs ⟨_,_,h,_⟩ u hu
  subst h
  simp only [List.mem_cons,List.not_mem_nil,or_false]at hu
  rcases hu with rfl | rfl <;> rfl,fun hs ⟨A1,c1,h,g1⟩=>⟨A1,c1,h,g1.mono hs⟩⟩
structure qC where
 f0:Int
 f1:List qG
 deriving DecidableEq
def qC.z:qC:=⟨0,[]⟩
def qC.k:Kn qC:=⟨2,fun F x cs=>∃(A1:Option Addr)(c1:Nat),cs=[.int .i64 x.f0,.slice A1 x.f1.length c1]∧Rd qG.k F A1 c1 x.f1,by
  rintro F x cs ⟨_,_,h,_⟩
  subst h
  rfl,by
  rintro F x cs ⟨_,_,h,_⟩ u hu
  subst h
  simp only [List.mem_cons,List.not_mem_nil,or_false]at hu
  rcases hu with rfl | rfl <;> rfl,fun hs ⟨A1,c1,h,g1⟩=>⟨A1,c1,h,g1.mono hs⟩⟩
structure qD where
 f0:Int
 f1:List Int
 deriving DecidableEq
def qD.z:qD:=⟨0,[]⟩
def qD.k:Kn qD:=⟨2,fun F x cs=>∃(A1:Option Addr)(c1:Nat),cs=[.int .i64 x.f0,.slice A1 x.f1.length c1]∧Rd (Kn.int .i64) F A1 c1 x.f1,by
  rintro F x cs ⟨_,_,h,_⟩
  subst h
  rfl,by
  rintro F x cs ⟨_,_,h,_⟩ u hu
  subst h
  simp only [List.mem_cons,List.not_mem_nil,or_false]at hu
  rcases hu with rfl | rfl <;> rfl,fun hs ⟨A1,c1,h,g1⟩=>⟨A1,c1,h,g1.mono hs⟩⟩
structure qF where
 f0:Int
 f1:Int
 f2:Int
 f3:Int
 f4:List qA
 f5:List qD
 f6:List qC
 deriving DecidableEq
def qF.k:Kn qF:=⟨7,fun F x cs=>∃(A4:Option Addr)(c4:Nat)(A5:Option Addr)(c5:Nat)(A6:Option Addr)(c6:Nat),cs=[.int .i64 x.f0,.int .i64 x.f1,.int .i64 x.f2,.int .i64 x.f3,.slice A4 x.f4.length c4,.slice A5 x.f5.length c5,.slice A6 x.f6.length c6]∧Rd qA.k F A4 c4 x.f4∧Rd qD.k F A5 c5 x.f5∧Rd qC.k F A6 c6 x.f6,by
  rintro F x cs ⟨_,_,_,_,_,_,h,_,_,_⟩
  subst h
  rfl,by
  rintro F x cs ⟨_,_,_,_,_,_,h,_,_,_⟩ u hu
  subst h
  simp only [List.mem_cons,List.not_mem_nil,or_false]at hu
  rcases hu with rfl | rfl | rfl | rfl | rfl | rfl | rfl <;> rfl,fun hs ⟨A4,c4,A5,c5,A6,c6,h,g4,g5,g6⟩=>⟨A4,c4,A5,c5,A6,c6,h,g4.mono hs,g5.mono hs,g6.mono hs⟩⟩
structure qE where
 f0:Int
 f1:Int
 f2:Int
 f3:Int
 f4:Int
 f5:Int
 f6:List Int
 deriving DecidableEq
def qE.z:qE:=⟨0,0,0,0,0,0,[]⟩
def qE.k:Kn qE:=⟨7,fun F x cs=>∃(A6:Option Addr)(c6:Nat),cs=[.int .i64 x.f0,.int .i64 x.f1,.int .i64 x.f2,.int .i64 x.f3,.int .i64 x.f4,.int .i64 x.f5,.slice A6 x.f6.length c6]∧Rd (Kn.int .i64) F A6 c6 x.f6,by
  rintro F x cs ⟨_,_,h,_⟩
  subst h
  rfl,by
  rintro F x cs ⟨_,_,h,_⟩ u hu
  subst h
  simp only [List.mem_cons,List.not_mem_nil,or_false]at hu
  rcases hu with rfl | rfl | rfl | rfl | rfl | rfl | rfl <;> rfl,fun hs ⟨A6,c6,h,g6⟩=>⟨A6,c6,h,g6.mono hs⟩⟩
structure qB where
 f0:Int
 f1:Int
 deriving DecidableEq
def qB.z:qB:=⟨0,0⟩
def qB.k:Kn qB:=⟨2,fun F x cs=>cs=[.int .i64 x.f0,.int .i64 x.f1],by
  rintro F x cs h
  subst h
  rfl,by
  rintro F x cs h u hu
  subst h
  simp only [List.mem_cons,List.not_mem_nil,or_false]at hu
  rcases hu with rfl | rfl <;> rfl,fun hs h=>h⟩
structure qN where
 f0:Int
 f1:Int
 f2:Int
 deriving DecidableEq
def qN.z:qN:=⟨0,0,0⟩
def qN.k:Kn qN:=⟨3,fun F x cs=>cs=[.int .i64 x.f0,.int .i64 x.f1,.int .i64 x.f2],by
  rintro F x cs h
  subst h
  rfl,by
  rintro F x cs h u hu
  subst h
  simp only [List.mem_cons,List.not_mem_nil,or_false]at hu
  rcases hu with rfl | rfl | rfl <;> rfl,fun hs h=>h⟩
structure Ar3_i64 where
 f0:Int
 f1:Int
 f2:Int
 deriving DecidableEq
def Ar3_i64.z:Ar3_i64:=⟨0,0,0⟩
def Ar3_i64.k:Kn Ar3_i64:=⟨3,fun F x cs=>cs=[.int .i64 x.f0,.int .i64 x.f1,.int .i64 x.f2],by
  rintro F x cs h
  subst h
  rfl,by
  rintro F x cs h u hu
  subst h
  simp only [List.mem_cons,List.not_mem_nil,or_false]at hu
  rcases hu with rfl | rfl | rfl <;> rfl,fun hs h=>h⟩
structure qCQ where
 f0:List Int
 f1:List ByteArray
 deriving DecidableEq
structure qe where
 f0:Int
 f1:Int
 f2:Int
 deriving DecidableEq
def qe.z:qe:=⟨0,0,0⟩
def qe.k:Kn qe:=⟨3,fun F x cs=>cs=[.int .i64 x.f0,.int .i64 x.f1,.int .i64 x.f2],by
  rintro F x cs h
  subst h
  rfl,by
  rintro F x cs h u hu
  subst h
  simp only [List.mem_cons,List.not_mem_nil,or_false]at hu
  rcases hu with rfl | rfl | rfl <;> rfl,fun hs h=>h⟩
structure qAi where
 f0:qF
 f1:List qE
 deriving DecidableEq
theorem en16:Enters Tryz.prog 16:=enters_of Tryz.func16 (by kernel_rfl) rfl
theorem en19:Enters Tryz.prog 19:=enters_of Tryz.func19 (by kernel_rfl) rfl
theorem en20:Enters Tryz.prog 20:=enters_of Tryz.func20 (by kernel_rfl) rfl
theorem en21:Enters Tryz.prog 21:=enters_of Tryz.func21 (by kernel_rfl) rfl
theorem en23:Enters Tryz.prog 23:=enters_of Tryz.func23 (by kernel_rfl) rfl
theorem en25:Enters Tryz.prog 25:=enters_of Tryz.func25 (by kernel_rfl) rfl
theorem en26:Enters Tryz.prog 26:=enters_of Tryz.func26 (by kernel_rfl) rfl
theorem en27:Enters Tryz.prog 27:=enters_of Tryz.func27 (by kernel_rfl) rfl
theorem en29:Enters Tryz.prog 29:=enters_of Tryz.func29 (by kernel_rfl) rfl
theorem en30:Enters Tryz.prog 30:=enters_of Tryz.func30 (by kernel_rfl) rfl
theorem en31:Enters Tryz.prog 31:=enters_of Tryz.func31 (by kernel_rfl) rfl
theorem en32:Enters Tryz.prog 32:=enters_of Tryz.func32 (by kernel_rfl) rfl
theorem en33:Enters Tryz.prog 33:=enters_of Tryz.func33 (by kernel_rfl) rfl
theorem en34:Enters Tryz.prog 34:=enters_of Tryz.func34 (by kernel_rfl) rfl
theorem en36:Enters Tryz.prog 36:=enters_of Tryz.func36 (by kernel_rfl) rfl
theorem en37:Enters Tryz.prog 37:=enters_of Tryz.func37 (by kernel_rfl) rfl
theorem en38:Enters Tryz.prog 38:=enters_of Tryz.func38 (by kernel_rfl) rfl
theorem en39:Enters Tryz.prog 39:=enters_of Tryz.func39 (by kernel_rfl) rfl
theorem en54:Enters Tryz.prog 54:=enters_of Tryz.func54 (by kernel_rfl) rfl
theorem en65:Enters Tryz.prog 65:=enters_of Tryz.func65 (by kernel_rfl) rfl
theorem en66:Enters Tryz.prog 66:=enters_of Tryz.func66 (by kernel_rfl) rfl
theorem en67:Enters Tryz.prog 67:=enters_of Tryz.func67 (by kernel_rfl) rfl
theorem en68:Enters Tryz.prog 68:=enters_of Tryz.func68 (by kernel_rfl) rfl
theorem en69:Enters Tryz.prog 69:=enters_of Tryz.func69 (by kernel_rfl) rfl
theorem en70:Enters Tryz.prog 70:=enters_of Tryz.func70 (by kernel_rfl) rfl
theorem en71:Enters Tryz.prog 71:=enters_of Tryz.func71 (by kernel_rfl) rfl
theorem en72:Enters Tryz.prog 72:=enters_of Tryz.func72 (by kernel_rfl) rfl
theorem en73:Enters Tryz.prog 73:=enters_of Tryz.func73 (by kernel_rfl) rfl
theorem en74:Enters Tryz.prog 74:=enters_of Tryz.func74 (by kernel_rfl) rfl
theorem en75:Enters Tryz.prog 75:=enters_of Tryz.func75 (by kernel_rfl) rfl
theorem en76:Enters Tryz.prog 76:=enters_of Tryz.func76 (by kernel_rfl) rfl
theorem en77:Enters Tryz.prog 77:=enters_of Tryz.func77 (by kernel_rfl) rfl
theorem en78:Enters Tryz.prog 78:=enters_of Tryz.func78 (by kernel_rfl) rfl
theorem en79:Enters Tryz.prog 79:=enters_of Tryz.func79 (by kernel_rfl) rfl
theorem en80:Enters Tryz.prog 80:=enters_of Tryz.func80 (by kernel_rfl) rfl
theorem en81:Enters Tryz.prog 81:=enters_of Tryz.func81 (by kernel_rfl) rfl
theorem en82:Enters Tryz.prog 82:=enters_of Tryz.func82 (by kernel_rfl) rfl
theorem en83:Enters Tryz.prog 83:=enters_of Tryz.func83 (by kernel_rfl) rfl
theorem en84:Enters Tryz.prog 84:=enters_of Tryz.func84 (by kernel_rfl) rfl
theorem en85:Enters Tryz.prog 85:=enters_of Tryz.func85 (by kernel_rfl) rfl
theorem en86:Enters Tryz.prog 86:=enters_of Tryz.func86 (by kernel_rfl) rfl
theorem en90:Enters Tryz.prog 90:=enters_of Tryz.func90 (by kernel_rfl) rfl
theorem en93:Enters Tryz.prog 93:=enters_of Tryz.func93 (by kernel_rfl) rfl
theorem en94:Enters Tryz.prog 94:=enters_of Tryz.func94 (by kernel_rfl) rfl
theorem en95:Enters Tryz.prog 95:=enters_of Tryz.func95 (by kernel_rfl) rfl
theorem en96:Enters Tryz.prog 96:=enters_of Tryz.func96 (by kernel_rfl) rfl
theorem en97:Enters Tryz.prog 97:=enters_of Tryz.func97 (by kernel_rfl) rfl
theorem en98:Enters Tryz.prog 98:=enters_of Tryz.func98 (by kernel_rfl) rfl
theorem en99:Enters Tryz.prog 99:=enters_of Tryz.func99 (by kernel_rfl) rfl
theorem en102:Enters Tryz.prog 102:=enters_of Tryz.func102 (by kernel_rfl) rfl
theorem en110:Enters Tryz.prog 110:=enters_of Tryz.func110 (by kernel_rfl) rfl
theorem en112:Enters Tryz.prog 112:=enters_of Tryz.func112 (by kernel_rfl) rfl
theorem en118:Enters Tryz.prog 118:=enters_of Tryz.func118 (by kernel_rfl) rfl
theorem en119:Enters Tryz.prog 119:=enters_of Tryz.func119 (by kernel_rfl) rfl
theorem en121:Enters Tryz.prog 121:=enters_of Tryz.func121 (by kernel_rfl) rfl
theorem en122:Enters Tryz.prog 122:=enters_of Tryz.func122 (by kernel_rfl) rfl
theorem en123:Enters Tryz.prog 123:=enters_of Tryz.func123 (by kernel_rfl) rfl
theorem en124:Enters Tryz.prog 124:=enters_of Tryz.func124 (by kernel_rfl) rfl
theorem en125:Enters Tryz.prog 125:=enters_of Tryz.func125 (by kernel_rfl) rfl
theorem en126:Enters Tryz.prog 126:=enters_of Tryz.func126 (by kernel_rfl) rfl
theorem en127:Enters Tryz.prog 127:=enters_of Tryz.func127 (by kernel_rfl) rfl
theorem en128:Enters Tryz.prog 128:=enters_of Tryz.func128 (by kernel_rfl) rfl
theorem en129:Enters Tryz.prog 129:=enters_of Tryz.func129 (by kernel_rfl) rfl
theorem en130:Enters Tryz.prog 130:=enters_of Tryz.func130 (by kernel_rfl) rfl
theorem en131:Enters Tryz.prog 131:=enters_of Tryz.func131 (by kernel_rfl) rfl
theorem en132:Enters Tryz.prog 132:=enters_of Tryz.func132 (by kernel_rfl) rfl
theorem en133:Enters Tryz.prog 133:=enters_of Tryz.func133 (by kernel_rfl) rfl
theorem en134:Enters Tryz.prog 134:=enters_of Tryz.func134 (by kernel_rfl) rfl
theorem en135:Enters Tryz.prog 135:=enters_of Tryz.func135 (by kernel_rfl) rfl
theorem en136:Enters Tryz.prog 136:=enters_of Tryz.func136 (by kernel_rfl) rfl
theorem en137:Enters Tryz.prog 137:=enters_of Tryz.func137 (by kernel_rfl) rfl
theorem en138:Enters Tryz.prog 138:=enters_of Tryz.func138 (by kernel_rfl) rfl
theorem en139:Enters Tryz.prog 139:=enters_of Tryz.func139 (by kernel_rfl) rfl
theorem en140:Enters Tryz.prog 140:=enters_of Tryz.func140 (by kernel_rfl) rfl
theorem en141:Enters Tryz.prog 141:=enters_of Tryz.func141 (by kernel_rfl) rfl
theorem en142:Enters Tryz.prog 142:=enters_of Tryz.func142 (by kernel_rfl) rfl
theorem en143:Enters Tryz.prog 143:=enters_of Tryz.func143 (by kernel_rfl) rfl
theorem en144:Enters Tryz.prog 144:=enters_of Tryz.func144 (by kernel_rfl) rfl
theorem en145:Enters Tryz.prog 145:=enters_of Tryz.func145 (by kernel_rfl) rfl
theorem en149:Enters Tryz.prog 149:=enters_of Tryz.func149 (by kernel_rfl) rfl
theorem en150:Enters Tryz.prog 150:=enters_of Tryz.func150 (by kernel_rfl) rfl
theorem en151:Enters Tryz.prog 151:=enters_of Tryz.func151 (by kernel_rfl) rfl
theorem en152:Enters Tryz.prog 152:=enters_of Tryz.func152 (by kernel_rfl) rfl
theorem en153:Enters Tryz.prog 153:=enters_of Tryz.func153 (by kernel_rfl) rfl
theorem en154:Enters Tryz.prog 154:=enters_of Tryz.func154 (by kernel_rfl) rfl
theorem en157:Enters Tryz.prog 157:=enters_of Tryz.func157 (by kernel_rfl) rfl
theorem en161:Enters Tryz.prog 161:=enters_of Tryz.func161 (by kernel_rfl) rfl
theorem en162:Enters Tryz.prog 162:=enters_of Tryz.func162 (by kernel_rfl) rfl
theorem en163:Enters Tryz.prog 163:=enters_of Tryz.func163 (by kernel_rfl) rfl
theorem en164:Enters Tryz.prog 164:=enters_of Tryz.func164 (by kernel_rfl) rfl
theorem en165:Enters Tryz.prog 165:=enters_of Tryz.func165 (by kernel_rfl) rfl
theorem en166:Enters Tryz.prog 166:=enters_of Tryz.func166 (by kernel_rfl) rfl
theorem en167:Enters Tryz.prog 167:=enters_of Tryz.func167 (by kernel_rfl) rfl
theorem en168:Enters Tryz.prog 168:=enters_of Tryz.func168 (by kernel_rfl) rfl
theorem en169:Enters Tryz.prog 169:=enters_of Tryz.func169 (by kernel_rfl) rfl
theorem en170:Enters Tryz.prog 170:=enters_of Tryz.func170 (by kernel_rfl) rfl
theorem en171:Enters Tryz.prog 171:=enters_of Tryz.func171 (by kernel_rfl) rfl
theorem en172:Enters Tryz.prog 172:=enters_of Tryz.func172 (by kernel_rfl) rfl
theorem en173:Enters Tryz.prog 173:=enters_of Tryz.func173 (by kernel_rfl) rfl
theorem en174:Enters Tryz.prog 174:=enters_of Tryz.func174 (by kernel_rfl) rfl
theorem en175:Enters Tryz.prog 175:=enters_of Tryz.func175 (by kernel_rfl) rfl
theorem en176:Enters Tryz.prog 176:=enters_of Tryz.func176 (by kernel_rfl) rfl
theorem en177:Enters Tryz.prog 177:=enters_of Tryz.func177 (by kernel_rfl) rfl
theorem en178:Enters Tryz.prog 178:=enters_of Tryz.func178 (by kernel_rfl) rfl
theorem en179:Enters Tryz.prog 179:=enters_of Tryz.func179 (by kernel_rfl) rfl
theorem en180:Enters Tryz.prog 180:=enters_of Tryz.func180 (by kernel_rfl) rfl
theorem en181:Enters Tryz.prog 181:=enters_of Tryz.func181 (by kernel_rfl) rfl
theorem en182:Enters Tryz.prog 182:=enters_of Tryz.func182 (by kernel_rfl) rfl
theorem en183:Enters Tryz.prog 183:=enters_of Tryz.func183 (by kernel_rfl) rfl
theorem en184:Enters Tryz.prog 184:=enters_of Tryz.func184 (by kernel_rfl) rfl
theorem en185:Enters Tryz.prog 185:=enters_of Tryz.func185 (by kernel_rfl) rfl
theorem en187:Enters Tryz.prog 187:=enters_of Tryz.func187 (by kernel_rfl) rfl
theorem en188:Enters Tryz.prog 188:=enters_of Tryz.func188 (by kernel_rfl) rfl
theorem en189:Enters Tryz.prog 189:=enters_of Tryz.func189 (by kernel_rfl) rfl
theorem en202:Enters Tryz.prog 202:=enters_of Tryz.func202 (by kernel_rfl) rfl
theorem en203:Enters Tryz.prog 203:=enters_of Tryz.func203 (by kernel_rfl) rfl
theorem en204:Enters Tryz.prog 204:=enters_of Tryz.func204 (by kernel_rfl) rfl
theorem en205:Enters Tryz.prog 205:=enters_of Tryz.func205 (by kernel_rfl) rfl
theorem en206:Enters Tryz.prog 206:=enters_of Tryz.func206 (by kernel_rfl) rfl
theorem en207:Enters Tryz.prog 207:=enters_of Tryz.func207 (by kernel_rfl) rfl
theorem en208:Enters Tryz.prog 208:=enters_of Tryz.func208 (by kernel_rfl) rfl
theorem en209:Enters Tryz.prog 209:=enters_of Tryz.func209 (by kernel_rfl) rfl
theorem en214:Enters Tryz.prog 214:=enters_of Tryz.func214 (by kernel_rfl) rfl
theorem en215:Enters Tryz.prog 215:=enters_of Tryz.func215 (by kernel_rfl) rfl
theorem en216:Enters Tryz.prog 216:=enters_of Tryz.func216 (by kernel_rfl) rfl
theorem en217:Enters Tryz.prog 217:=enters_of Tryz.func217 (by kernel_rfl) rfl
theorem en224:Enters Tryz.prog 224:=enters_of Tryz.func224 (by kernel_rfl) rfl
theorem en225:Enters Tryz.prog 225:=enters_of Tryz.func225 (by kernel_rfl) rfl
theorem en226:Enters Tryz.prog 226:=enters_of Tryz.func226 (by kernel_rfl) rfl
theorem en227:Enters Tryz.prog 227:=enters_of Tryz.func227 (by kernel_rfl) rfl
theorem en228:Enters Tryz.prog 228:=enters_of Tryz.func228 (by kernel_rfl) rfl
theorem en229:Enters Tryz.prog 229:=enters_of Tryz.func229 (by kernel_rfl) rfl
theorem en230:Enters Tryz.prog 230:=enters_of Tryz.func230 (by kernel_rfl) rfl
theorem en231:Enters Tryz.prog 231:=enters_of Tryz.func231 (by kernel_rfl) rfl
theorem en234:Enters Tryz.prog 234:=enters_of Tryz.func234 (by kernel_rfl) rfl
theorem en236:Enters Tryz.prog 236:=enters_of Tryz.func236 (by kernel_rfl) rfl
theorem en237:Enters Tryz.prog 237:=enters_of Tryz.func237 (by kernel_rfl) rfl
theorem en238:Enters Tryz.prog 238:=enters_of Tryz.func238 (by kernel_rfl) rfl
theorem en239:Enters Tryz.prog 239:=enters_of Tryz.func239 (by kernel_rfl) rfl
theorem en240:Enters Tryz.prog 240:=enters_of Tryz.func240 (by kernel_rfl) rfl
theorem en241:Enters Tryz.prog 241:=enters_of Tryz.func241 (by kernel_rfl) rfl
theorem en242:Enters Tryz.prog 242:=enters_of Tryz.func242 (by kernel_rfl) rfl
theorem en243:Enters Tryz.prog 243:=enters_of Tryz.func243 (by kernel_rfl) rfl
theorem en244:Enters Tryz.prog 244:=enters_of Tryz.func244 (by kernel_rfl) rfl
theorem en245:Enters Tryz.prog 245:=enters_of Tryz.func245 (by kernel_rfl) rfl
theorem en246:Enters Tryz.prog 246:=enters_of Tryz.func246 (by kernel_rfl) rfl
theorem en247:Enters Tryz.prog 247:=enters_of Tryz.func247 (by kernel_rfl) rfl
theorem en248:Enters Tryz.prog 248:=enters_of Tryz.func248 (by kernel_rfl) rfl
theorem en249:Enters Tryz.prog 249:=enters_of Tryz.func249 (by kernel_rfl) rfl
theorem en250:Enters Tryz.prog 250:=enters_of Tryz.func250 (by kernel_rfl) rfl
theorem en251:Enters Tryz.prog 251:=enters_of Tryz.func251 (by kernel_rfl) rfl
theorem en254:Enters Tryz.prog 254:=enters_of Tryz.func254 (by kernel_rfl) rfl
theorem en255:Enters Tryz.prog 255:=enters_of Tryz.func255 (by kernel_rfl) rfl
theorem en256:Enters Tryz.prog 256:=enters_of Tryz.func256 (by kernel_rfl) rfl
theorem en257:Enters Tryz.prog 257:=enters_of Tryz.func257 (by kernel_rfl) rfl
theorem en259:Enters Tryz.prog 259:=enters_of Tryz.func259 (by kernel_rfl) rfl
theorem en260:Enters Tryz.prog 260:=enters_of Tryz.func260 (by kernel_rfl) rfl
theorem en271:Enters Tryz.prog 271:=enters_of Tryz.func271 (by kernel_rfl) rfl
theorem en272:Enters Tryz.prog 272:=enters_of Tryz.func272 (by kernel_rfl) rfl
theorem sz3:sizeB Tryz.prog 3=some 1:=by kernel_rfl
theorem ag26:aggB Tryz.prog 26=some true:=by kernel_rfl
theorem sz26:sizeB Tryz.prog 26=some 7:=by kernel_rfl
theorem ag40:aggB Tryz.prog 40=some true:=by kernel_rfl
theorem sz40:sizeB Tryz.prog 40=some 7:=by kernel_rfl
theorem ag49:aggB Tryz.prog 49=some true:=by kernel_rfl
theorem sz49:sizeB Tryz.prog 49=some 2:=by kernel_rfl
theorem sz51:sizeB Tryz.prog 51=some 2:=by kernel_rfl
theorem ag59:aggB Tryz.prog 59=some true:=by kernel_rfl
theorem sz59:sizeB Tryz.prog 59=some 8:=by kernel_rfl
theorem ag104:aggB Tryz.prog 104=some true:=by kernel_rfl
theorem sz104:sizeB Tryz.prog 104=some 6:=by kernel_rfl
theorem ag120:aggB Tryz.prog 120=some true:=by kernel_rfl
theorem sz120:sizeB Tryz.prog 120=some 2:=by kernel_rfl
theorem ag216:aggB Tryz.prog 216=some true:=by kernel_rfl
theorem sz216:sizeB Tryz.prog 216=some 2:=by kernel_rfl
theorem zr3:zerK Tryz.prog 3=[.int .i64 0]:=by kernel_rfl
theorem zr51:zerK Tryz.prog 51=[.int .i64 0,.slice none 0 0]:=by kernel_rfl
theorem zr97:zerK Tryz.prog 97=[.int .i64 0,.slice none 0 0]:=by kernel_rfl
theorem zr104:zerK Tryz.prog 104=[.int .i64 0,.int .i64 0,.int .i64 0,.int .i64 0,.bool false,.bool false]:=by kernel_rfl
theorem zr216:zerK Tryz.prog 216=[.int .i64 0,.int .i64 0]:=by kernel_rfl
theorem ud3:Tryz.prog.underlying 3=some (.int .i64):=by kernel_rfl
theorem ud4:Tryz.prog.underlying 4=some (.bool):=by kernel_rfl
theorem qA.beq(x y:qA):(x.f0 == y.f0&&(x.f1 == y.f1&&(x.f2 == y.f2&&(x.f3 == y.f3&&(x.f4 == y.f4&&(x.f5 == y.f5&&(true)))))))=decide (x=y):=by
 cases x; cases y
 rw [Bool.eq_iff_iff]
 simp only [Bool.and_eq_true,beq_iff_eq,decide_eq_true_eq,qA.mk.injEq,and_true]
theorem eqs104(x y:qA)(w:World)(d:Nat):(Op.equalIn (d+2) 104 (.agg #[.int .i64 x.f0,.int .i64 x.f1,.int .i64 x.f2,.int .i64 x.f3,.bool x.f4,.bool x.f5]) (.agg #[.int .i64 y.f0,.int .i64 y.f1,.int .i64 y.f2,.int .i64 y.f3,.bool y.f4,.bool y.f5])).run Tryz.prog w = .ok (decide (x=y)) w :=
 (qJE (d:=d+1) Tryz.underlying104 (by kernel_rfl) (qDM (by kernel_rfl) (by kernel_rfl) (by kernel_rfl) (qFy ud3) (qDM (by kernel_rfl) (by kernel_rfl) (by kernel_rfl) (qFy ud3) (qDM (by kernel_rfl) (by kernel_rfl) (by kernel_rfl) (qFy ud3) (qDM (by kernel_rfl) (by kernel_rfl) (by kernel_rfl) (qFy ud3) (qDM (by kernel_rfl) (by kernel_rfl) (by kernel_rfl) (qGp ud4) (qDM (by kernel_rfl) (by kernel_rfl) (by kernel_rfl) (qGp ud4) (qId)))))))).trans (congrArg (fun b=>Result.ok b w) (qA.beq x y))
end Go.Proofs.YtpohepinmjmbkaaGreat.PP
