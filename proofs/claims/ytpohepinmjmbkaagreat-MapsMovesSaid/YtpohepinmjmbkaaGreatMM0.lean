import Derived.Test.YtpohepinmjmbkaaGreatSlJ
import Derived.Test.YtpohepinmjmbkaaGreatSort
import Derived.Test.YtpohepinmjmbkaaGreatSlP
import Derived.Test.YtpohepinmjmbkaaGreatSlR
import Derived.Test.YtpohepinmjmbkaaGreatSortP
import Derived.Test.YtpohepinmjmbkaaGreatSlM
import Derived.Test.YtpohepinmjmbkaaGreatProg
namespace Go.Proofs.YtpohepinmjmbkaaGreat.MM
open Go Go.RowKit Go.Proofs.YtpohepinmjmbkaaGreat.Sl
set_option linter.unusedVariables false
set_option linter.unusedSimpArgs false
set_option maxHeartbeats 4000000
set_option maxRecDepth 100000
abbrev Cr(f:FuncId)(args:Array Value)(W:World)(Q:Value→World→Prop):Prop:=Calls Tryz.prog f args W fun e w'=>∃ v,e = .returned v∧Q v w'
theorem mixed:Tryz.prog.follows .mixedOrders=true:=by kernel_rfl
structure qA where
 f0:Int
 f1:Int
 f2:Int
 f3:Int
 f4:Bool
 f5:Bool
 deriving DecidableEq
def qA.z:qA:=⟨0,0,0,0,false,false⟩
def qA.k:Kn qA:=⟨6,fun F x cs=>cs=[.int .i64 x.f0,.int .i64 x.f1,.int .i64 x.f2,.int .i64 x.f3,.bool x.f4,.bool x.f5],by
  rintro F x cs h
  subst h
  rfl,by
  rintro F x cs h u hu
  subst h
  simp only [List.mem_cons,List.not_mem_nil,or_false]at hu
  rcases hu with rfl | rfl | rfl | rfl | rfl | rfl <;> rfl,fun hs h=>h⟩
structure qE where
 f0:Int
 f1:List Int
 deriving DecidableEq
def qE.z:qE:=⟨0,[]⟩
def qE.k:Kn qE:=⟨2,fun F x cs=>∃(A1:Option Addr)(c1:Nat),cs=[.int .i64 x.f0,.slice A1 x.f1.length c1]∧Rd (Kn.int .i64) F A1 c1 x.f1,by
  rintro F x cs ⟨_,_,h,_⟩
  subst h
  rfl,by
  rintro F x cs ⟨_,_,h,_⟩ u hu
  subst h
  simp only [List.mem_cons,List.not_mem_nil,or_false]at hu
  rcases hu with rfl | rfl <;> rfl,fun hs ⟨A1,c1,h,g1⟩=>⟨A1,c1,h,g1.mono hs⟩⟩
structure qC where
 f0:Int
 f1:List qE
 deriving DecidableEq
def qC.z:qC:=⟨0,[]⟩
def qC.k:Kn qC:=⟨2,fun F x cs=>∃(A1:Option Addr)(c1:Nat),cs=[.int .i64 x.f0,.slice A1 x.f1.length c1]∧Rd qE.k F A1 c1 x.f1,by
  rintro F x cs ⟨_,_,h,_⟩
  subst h
  rfl,by
  rintro F x cs ⟨_,_,h,_⟩ u hu
  subst h
  simp only [List.mem_cons,List.not_mem_nil,or_false]at hu
  rcases hu with rfl | rfl <;> rfl,fun hs ⟨A1,c1,h,g1⟩=>⟨A1,c1,h,g1.mono hs⟩⟩
structure qD where
 f0:Int
 f1:List Int
 deriving DecidableEq
def qD.z:qD:=⟨0,[]⟩
def qD.k:Kn qD:=⟨2,fun F x cs=>∃(A1:Option Addr)(c1:Nat),cs=[.int .i64 x.f0,.slice A1 x.f1.length c1]∧Rd (Kn.int .i64) F A1 c1 x.f1,by
  rintro F x cs ⟨_,_,h,_⟩
  subst h
  rfl,by
  rintro F x cs ⟨_,_,h,_⟩ u hu
  subst h
  simp only [List.mem_cons,List.not_mem_nil,or_false]at hu
  rcases hu with rfl | rfl <;> rfl,fun hs ⟨A1,c1,h,g1⟩=>⟨A1,c1,h,g1.mono hs⟩⟩
structure qF where
 f0:Int
 f1:Int
 f2:Int
 f3:Int
 f4:List qA
 f5:List qD
 f6:List qC
 deriving DecidableEq
def qF.k:Kn qF:=⟨7,fun F x cs=>∃(A4:Option Addr)(c4:Nat)(A5:Option Addr)(c5:Nat)(A6:Option Addr)(c6:Nat),cs=[.int .i64 x.f0,.int .i64 x.f1,.int .i64 x.f2,.int .i64 x.f3,.slice A4 x.f4.length c4,.slice A5 x.f5.length c5,.slice A6 x.f6.length c6]∧Rd qA.k F A4 c4 x.f4∧Rd qD.k F A5 c5 x.f5∧Rd qC.k F A6 c6 x.f6,by
  rintro F x cs ⟨_,_,_,_,_,_,h,_,_,_⟩
  subst h
  rfl,by
  rintro F x cs ⟨_,_,_,_,_,_,h,_,_,_⟩ u hu
  subst h
  simp only [List.mem_cons,List.not_mem_nil,or_false]at hu
  rcases hu with rfl | rfl | rfl | rfl | rfl | rfl | rfl <;> rfl,fun hs ⟨A4,c4,A5,c5,A6,c6,h,g4,g5,g6⟩=>⟨A4,c4,A5,c5,A6,c6,h,g4.mono hs,g5.mono hs,g6.mono hs⟩⟩
structure qb where
 f0:Int
 f1:Int
 f2:Int
 deriving DecidableEq
def qb.z:qb:=⟨0,0,0⟩
def qb.k:Kn qb:=⟨3,fun F x cs=>cs=[.int .i64 x.f0,.int .i64 x.f1,.int .i64 x.f2],by
  rintro F x cs h
  subst h
  rfl,by
  rintro F x cs h u hu
  subst h
  simp only [List.mem_cons,List.not_mem_nil,or_false]at hu
  rcases hu with rfl | rfl | rfl <;> rfl,fun hs h=>h⟩
structure qB where
 f0:Int
 f1:Int
 deriving DecidableEq
def qB.z:qB:=⟨0,0⟩
def qB.k:Kn qB:=⟨2,fun F x cs=>cs=[.int .i64 x.f0,.int .i64 x.f1],by
  rintro F x cs h
  subst h
  rfl,by
  rintro F x cs h u hu
  subst h
  simp only [List.mem_cons,List.not_mem_nil,or_false]at hu
  rcases hu with rfl | rfl <;> rfl,fun hs h=>h⟩
structure qa where
 f0:Int
 f1:Int
 f2:Int
 deriving DecidableEq
def qa.z:qa:=⟨0,0,0⟩
def qa.k:Kn qa:=⟨3,fun F x cs=>cs=[.int .i64 x.f0,.int .i64 x.f1,.int .i64 x.f2],by
  rintro F x cs h
  subst h
  rfl,by
  rintro F x cs h u hu
  subst h
  simp only [List.mem_cons,List.not_mem_nil,or_false]at hu
  rcases hu with rfl | rfl | rfl <;> rfl,fun hs h=>h⟩
structure qf where
 f0:Int
 f1:Int
 f2:Int
 f3:Int
 f4:Int
 f5:Int
 f6:List Int
 deriving DecidableEq
def qf.k:Kn qf:=⟨7,fun F x cs=>∃(A6:Option Addr)(c6:Nat),cs=[.int .i64 x.f0,.int .i64 x.f1,.int .i64 x.f2,.int .i64 x.f3,.int .i64 x.f4,.int .i64 x.f5,.slice A6 x.f6.length c6]∧Rd (Kn.int .i64) F A6 c6 x.f6,by
  rintro F x cs ⟨_,_,h,_⟩
  subst h
  rfl,by
  rintro F x cs ⟨_,_,h,_⟩ u hu
  subst h
  simp only [List.mem_cons,List.not_mem_nil,or_false]at hu
  rcases hu with rfl | rfl | rfl | rfl | rfl | rfl | rfl <;> rfl,fun hs ⟨A6,c6,h,g6⟩=>⟨A6,c6,h,g6.mono hs⟩⟩
theorem en15:Enters Tryz.prog 15:=enters_of Tryz.func15 (by kernel_rfl) rfl
theorem en16:Enters Tryz.prog 16:=enters_of Tryz.func16 (by kernel_rfl) rfl
theorem en17:Enters Tryz.prog 17:=enters_of Tryz.func17 (by kernel_rfl) rfl
theorem en19:Enters Tryz.prog 19:=enters_of Tryz.func19 (by kernel_rfl) rfl
theorem en20:Enters Tryz.prog 20:=enters_of Tryz.func20 (by kernel_rfl) rfl
theorem en21:Enters Tryz.prog 21:=enters_of Tryz.func21 (by kernel_rfl) rfl
theorem en22:Enters Tryz.prog 22:=enters_of Tryz.func22 (by kernel_rfl) rfl
theorem en24:Enters Tryz.prog 24:=enters_of Tryz.func24 (by kernel_rfl) rfl
theorem en26:Enters Tryz.prog 26:=enters_of Tryz.func26 (by kernel_rfl) rfl
theorem en32:Enters Tryz.prog 32:=enters_of Tryz.func32 (by kernel_rfl) rfl
theorem en54:Enters Tryz.prog 54:=enters_of Tryz.func54 (by kernel_rfl) rfl
theorem en65:Enters Tryz.prog 65:=enters_of Tryz.func65 (by kernel_rfl) rfl
theorem en66:Enters Tryz.prog 66:=enters_of Tryz.func66 (by kernel_rfl) rfl
theorem en67:Enters Tryz.prog 67:=enters_of Tryz.func67 (by kernel_rfl) rfl
theorem en68:Enters Tryz.prog 68:=enters_of Tryz.func68 (by kernel_rfl) rfl
theorem en69:Enters Tryz.prog 69:=enters_of Tryz.func69 (by kernel_rfl) rfl
theorem en70:Enters Tryz.prog 70:=enters_of Tryz.func70 (by kernel_rfl) rfl
theorem en71:Enters Tryz.prog 71:=enters_of Tryz.func71 (by kernel_rfl) rfl
theorem en74:Enters Tryz.prog 74:=enters_of Tryz.func74 (by kernel_rfl) rfl
theorem en75:Enters Tryz.prog 75:=enters_of Tryz.func75 (by kernel_rfl) rfl
theorem en76:Enters Tryz.prog 76:=enters_of Tryz.func76 (by kernel_rfl) rfl
theorem en77:Enters Tryz.prog 77:=enters_of Tryz.func77 (by kernel_rfl) rfl
theorem en78:Enters Tryz.prog 78:=enters_of Tryz.func78 (by kernel_rfl) rfl
theorem en79:Enters Tryz.prog 79:=enters_of Tryz.func79 (by kernel_rfl) rfl
theorem en80:Enters Tryz.prog 80:=enters_of Tryz.func80 (by kernel_rfl) rfl
theorem en81:Enters Tryz.prog 81:=enters_of Tryz.func81 (by kernel_rfl) rfl
theorem en82:Enters Tryz.prog 82:=enters_of Tryz.func82 (by kernel_rfl) rfl
theorem en90:Enters Tryz.prog 90:=enters_of Tryz.func90 (by kernel_rfl) rfl
theorem en110:Enters Tryz.prog 110:=enters_of Tryz.func110 (by kernel_rfl) rfl
theorem en112:Enters Tryz.prog 112:=enters_of Tryz.func112 (by kernel_rfl) rfl
theorem en118:Enters Tryz.prog 118:=enters_of Tryz.func118 (by kernel_rfl) rfl
theorem en119:Enters Tryz.prog 119:=enters_of Tryz.func119 (by kernel_rfl) rfl
theorem en121:Enters Tryz.prog 121:=enters_of Tryz.func121 (by kernel_rfl) rfl
theorem en122:Enters Tryz.prog 122:=enters_of Tryz.func122 (by kernel_rfl) rfl
theorem en125:Enters Tryz.prog 125:=enters_of Tryz.func125 (by kernel_rfl) rfl
theorem en126:Enters Tryz.prog 126:=enters_of Tryz.func126 (by kernel_rfl) rfl
theorem en127:Enters Tryz.prog 127:=enters_of Tryz.func127 (by kernel_rfl) rfl
theorem en128:Enters Tryz.prog 128:=enters_of Tryz.func128 (by kernel_rfl) rfl
theorem en129:Enters Tryz.prog 129:=enters_of Tryz.func129 (by kernel_rfl) rfl
theorem en130:Enters Tryz.prog 130:=enters_of Tryz.func130 (by kernel_rfl) rfl
theorem en131:Enters Tryz.prog 131:=enters_of Tryz.func131 (by kernel_rfl) rfl
theorem en132:Enters Tryz.prog 132:=enters_of Tryz.func132 (by kernel_rfl) rfl
theorem en133:Enters Tryz.prog 133:=enters_of Tryz.func133 (by kernel_rfl) rfl
theorem en134:Enters Tryz.prog 134:=enters_of Tryz.func134 (by kernel_rfl) rfl
theorem en135:Enters Tryz.prog 135:=enters_of Tryz.func135 (by kernel_rfl) rfl
theorem en136:Enters Tryz.prog 136:=enters_of Tryz.func136 (by kernel_rfl) rfl
theorem en137:Enters Tryz.prog 137:=enters_of Tryz.func137 (by kernel_rfl) rfl
theorem en138:Enters Tryz.prog 138:=enters_of Tryz.func138 (by kernel_rfl) rfl
theorem en139:Enters Tryz.prog 139:=enters_of Tryz.func139 (by kernel_rfl) rfl
theorem en140:Enters Tryz.prog 140:=enters_of Tryz.func140 (by kernel_rfl) rfl
theorem en141:Enters Tryz.prog 141:=enters_of Tryz.func141 (by kernel_rfl) rfl
theorem en142:Enters Tryz.prog 142:=enters_of Tryz.func142 (by kernel_rfl) rfl
theorem en157:Enters Tryz.prog 157:=enters_of Tryz.func157 (by kernel_rfl) rfl
theorem en161:Enters Tryz.prog 161:=enters_of Tryz.func161 (by kernel_rfl) rfl
theorem en162:Enters Tryz.prog 162:=enters_of Tryz.func162 (by kernel_rfl) rfl
theorem en163:Enters Tryz.prog 163:=enters_of Tryz.func163 (by kernel_rfl) rfl
theorem en164:Enters Tryz.prog 164:=enters_of Tryz.func164 (by kernel_rfl) rfl
theorem en165:Enters Tryz.prog 165:=enters_of Tryz.func165 (by kernel_rfl) rfl
theorem en166:Enters Tryz.prog 166:=enters_of Tryz.func166 (by kernel_rfl) rfl
theorem en167:Enters Tryz.prog 167:=enters_of Tryz.func167 (by kernel_rfl) rfl
theorem en173:Enters Tryz.prog 173:=enters_of Tryz.func173 (by kernel_rfl) rfl
theorem en174:Enters Tryz.prog 174:=enters_of Tryz.func174 (by kernel_rfl) rfl
theorem en175:Enters Tryz.prog 175:=enters_of Tryz.func175 (by kernel_rfl) rfl
theorem en176:Enters Tryz.prog 176:=enters_of Tryz.func176 (by kernel_rfl) rfl
theorem en177:Enters Tryz.prog 177:=enters_of Tryz.func177 (by kernel_rfl) rfl
theorem en178:Enters Tryz.prog 178:=enters_of Tryz.func178 (by kernel_rfl) rfl
theorem en179:Enters Tryz.prog 179:=enters_of Tryz.func179 (by kernel_rfl) rfl
theorem en180:Enters Tryz.prog 180:=enters_of Tryz.func180 (by kernel_rfl) rfl
theorem en181:Enters Tryz.prog 181:=enters_of Tryz.func181 (by kernel_rfl) rfl
theorem en182:Enters Tryz.prog 182:=enters_of Tryz.func182 (by kernel_rfl) rfl
theorem en183:Enters Tryz.prog 183:=enters_of Tryz.func183 (by kernel_rfl) rfl
theorem en184:Enters Tryz.prog 184:=enters_of Tryz.func184 (by kernel_rfl) rfl
theorem en185:Enters Tryz.prog 185:=enters_of Tryz.func185 (by kernel_rfl) rfl
theorem en187:Enters Tryz.prog 187:=enters_of Tryz.func187 (by kernel_rfl) rfl
theorem en202:Enters Tryz.prog 202:=enters_of Tryz.func202 (by kernel_rfl) rfl
theorem en203:Enters Tryz.prog 203:=enters_of Tryz.func203 (by kernel_rfl) rfl
theorem en204:Enters Tryz.prog 204:=enters_of Tryz.func204 (by kernel_rfl) rfl
theorem en214:Enters Tryz.prog 214:=enters_of Tryz.func214 (by kernel_rfl) rfl
theorem en215:Enters Tryz.prog 215:=enters_of Tryz.func215 (by kernel_rfl) rfl
theorem en216:Enters Tryz.prog 216:=enters_of Tryz.func216 (by kernel_rfl) rfl
theorem en217:Enters Tryz.prog 217:=enters_of Tryz.func217 (by kernel_rfl) rfl
theorem en224:Enters Tryz.prog 224:=enters_of Tryz.func224 (by kernel_rfl) rfl
theorem en225:Enters Tryz.prog 225:=enters_of Tryz.func225 (by kernel_rfl) rfl
theorem en226:Enters Tryz.prog 226:=enters_of Tryz.func226 (by kernel_rfl) rfl
theorem en227:Enters Tryz.prog 227:=enters_of Tryz.func227 (by kernel_rfl) rfl
theorem en228:Enters Tryz.prog 228:=enters_of Tryz.func228 (by kernel_rfl) rfl
theorem en229:Enters Tryz.prog 229:=enters_of Tryz.func229 (by kernel_rfl) rfl
theorem en234:Enters Tryz.prog 234:=enters_of Tryz.func234 (by kernel_rfl) rfl
theorem en236:Enters Tryz.prog 236:=enters_of Tryz.func236 (by kernel_rfl) rfl
theorem en237:Enters Tryz.prog 237:=enters_of Tryz.func237 (by kernel_rfl) rfl
theorem en238:Enters Tryz.prog 238:=enters_of Tryz.func238 (by kernel_rfl) rfl
theorem en239:Enters Tryz.prog 239:=enters_of Tryz.func239 (by kernel_rfl) rfl
theorem en240:Enters Tryz.prog 240:=enters_of Tryz.func240 (by kernel_rfl) rfl
theorem en241:Enters Tryz.prog 241:=enters_of Tryz.func241 (by kernel_rfl) rfl
theorem en242:Enters Tryz.prog 242:=enters_of Tryz.func242 (by kernel_rfl) rfl
theorem en243:Enters Tryz.prog 243:=enters_of Tryz.func243 (by kernel_rfl) rfl
theorem en244:Enters Tryz.prog 244:=enters_of Tryz.func244 (by kernel_rfl) rfl
theorem en245:Enters Tryz.prog 245:=enters_of Tryz.func245 (by kernel_rfl) rfl
theorem en246:Enters Tryz.prog 246:=enters_of Tryz.func246 (by kernel_rfl) rfl
theorem en247:Enters Tryz.prog 247:=enters_of Tryz.func247 (by kernel_rfl) rfl
theorem en248:Enters Tryz.prog 248:=enters_of Tryz.func248 (by kernel_rfl) rfl
theorem en249:Enters Tryz.prog 249:=enters_of Tryz.func249 (by kernel_rfl) rfl
theorem en250:Enters Tryz.prog 250:=enters_of Tryz.func250 (by kernel_rfl) rfl
theorem en254:Enters Tryz.prog 254:=enters_of Tryz.func254 (by kernel_rfl) rfl
theorem en255:Enters Tryz.prog 255:=enters_of Tryz.func255 (by kernel_rfl) rfl
theorem en256:Enters Tryz.prog 256:=enters_of Tryz.func256 (by kernel_rfl) rfl
theorem en257:Enters Tryz.prog 257:=enters_of Tryz.func257 (by kernel_rfl) rfl
theorem en259:Enters Tryz.prog 259:=enters_of Tryz.func259 (by kernel_rfl) rfl
theorem en260:Enters Tryz.prog 260:=enters_of Tryz.func260 (by kernel_rfl) rfl
theorem en271:Enters Tryz.prog 271:=enters_of Tryz.func271 (by kernel_rfl) rfl
theorem en272:Enters Tryz.prog 272:=enters_of Tryz.func272 (by kernel_rfl) rfl
theorem sz3:sizeB Tryz.prog 3=some 1:=by kernel_rfl
theorem ag26:aggB Tryz.prog 26=some true:=by kernel_rfl
theorem sz26:sizeB Tryz.prog 26=some 7:=by kernel_rfl
theorem sz51:sizeB Tryz.prog 51=some 2:=by kernel_rfl
theorem ag104:aggB Tryz.prog 104=some true:=by kernel_rfl
theorem sz104:sizeB Tryz.prog 104=some 6:=by kernel_rfl
theorem ag216:aggB Tryz.prog 216=some true:=by kernel_rfl
theorem sz216:sizeB Tryz.prog 216=some 2:=by kernel_rfl
theorem zr3:zerK Tryz.prog 3=[.int .i64 0]:=by kernel_rfl
theorem zr49:zerK Tryz.prog 49=[.int .i64 0,.slice none 0 0]:=by kernel_rfl
theorem zr51:zerK Tryz.prog 51=[.int .i64 0,.slice none 0 0]:=by kernel_rfl
theorem zr97:zerK Tryz.prog 97=[.int .i64 0,.slice none 0 0]:=by kernel_rfl
theorem zr104:zerK Tryz.prog 104=[.int .i64 0,.int .i64 0,.int .i64 0,.int .i64 0,.bool false,.bool false]:=by kernel_rfl
theorem zr216:zerK Tryz.prog 216=[.int .i64 0,.int .i64 0]:=by kernel_rfl
theorem ud3:Tryz.prog.underlying 3=some (.int .i64):=by kernel_rfl
theorem ud4:Tryz.prog.underlying 4=some (.bool):=by kernel_rfl
theorem qA.beq(x y:qA):(x.f0 == y.f0&&(x.f1 == y.f1&&(x.f2 == y.f2&&(x.f3 == y.f3&&(x.f4 == y.f4&&(x.f5 == y.f5&&(true)))))))=decide (x=y):=by
 cases x; cases y
 rw [Bool.eq_iff_iff]
 simp only [Bool.and_eq_true,beq_iff_eq,decide_eq_true_eq,qA.mk.injEq,and_true]
theorem eqs104(x y:qA)(w:World)(d:Nat):(Op.equalIn (d+2) 104 (.agg #[.int .i64 x.f0,.int .i64 x.f1,.int .i64 x.f2,.int .i64 x.f3,.bool x.f4,.bool x.f5]) (.agg #[.int .i64 y.f0,.int .i64 y.f1,.int .i64 y.f2,.int .i64 y.f3,.bool y.f4,.bool y.f5])).run Tryz.prog w = .ok (decide (x=y)) w :=
 (qHY (d:=d+1) Tryz.underlying104 (by kernel_rfl) (qCM (by kernel_rfl) (by kernel_rfl) (by kernel_rfl) (qEY ud3) (qCM (by kernel_rfl) (by kernel_rfl) (by kernel_rfl) (qEY ud3) (qCM (by kernel_rfl) (by kernel_rfl) (by kernel_rfl) (qEY ud3) (qCM (by kernel_rfl) (by kernel_rfl) (by kernel_rfl) (qEY ud3) (qCM (by kernel_rfl) (by kernel_rfl) (by kernel_rfl) (qFR ud4) (qCM (by kernel_rfl) (by kernel_rfl) (by kernel_rfl) (qFR ud4) (qHA)))))))).trans (congrArg (fun b=>Result.ok b w) (qA.beq x y))
end Go.Proofs.YtpohepinmjmbkaaGreat.MM
