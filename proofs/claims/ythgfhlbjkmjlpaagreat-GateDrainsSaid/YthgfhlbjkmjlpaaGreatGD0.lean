import Derived.Test.YthgfhlbjkmjlpaaGreatSlJ
import Derived.Test.YthgfhlbjkmjlpaaGreatSort
import Derived.Test.YthgfhlbjkmjlpaaGreatSlT
import Derived.Test.YthgfhlbjkmjlpaaGreatSlP
import Derived.Test.YthgfhlbjkmjlpaaGreatSlR
import Derived.Test.YthgfhlbjkmjlpaaGreatSortP
import Derived.Test.YthgfhlbjkmjlpaaGreatSlM
import Derived.Test.YthgfhlbjkmjlpaaGreatProg
namespace Go.Proofs.YthgfhlbjkmjlpaaGreat.GD
open Go Go.RowKit Go.Proofs.YthgfhlbjkmjlpaaGreat.Sl
set_option linter.unusedVariables false
set_option linter.unusedSimpArgs false
set_option maxHeartbeats 4000000
set_option maxRecDepth 100000
abbrev Cr(f:FuncId)(args:Array Value)(W:World)(Q:Value->World->Prop):Prop:=Calls Tryz.prog f args W fun e w'=>∃ v,e = .returned v/\Q v w'
theorem mixed:Tryz.prog.follows .mixedOrders=true:=by kernel_rfl
structure qA where
 f0:Int
 f1:Int
 f2:Int
 f3:Int
 f4:Bool
 f5:Bool
 deriving DecidableEq
def qA.z:qA:=⟨0,0,0,0,false,false⟩
def qA.k:Kn qA:=⟨6,fun F x cs=>cs=[.int .i64 x.f0,.int .i64 x.f1,.int .i64 x.f2,.int .i64 x.f3,.bool x.f4,.bool x.f5],by
  rintro F x cs h
  subst h
  rfl,by
  rintro F x cs h u hu
  subst h
  simp only [List.mem_cons,List.not_mem_nil,or_false]at hu
  rcases hu with rfl | rfl | rfl | rfl | rfl | rfl <;> rfl,fun hs h=>h⟩
structure qE where
 f0:Int
 f1:List Int
 deriving DecidableEq
def qE.z:qE:=⟨0,[]⟩
def qE.k:Kn qE:=⟨2,fun F x cs=>∃(A1:Option Addr)(c1:Nat),cs=[.int .i64 x.f0,.slice A1 x.f1.length c1]/\Rd (Kn.int .i64) F A1 c1 x.f1,by
  rintro F x cs ⟨_,_,h,_⟩
  subst h
  rfl,by
  rintro F x cs ⟨_,_,h,_⟩ u hu
  subst h
  simp only [List.mem_cons,List.not_mem_nil,or_false]at hu
  rcases hu with rfl | rfl <;> rfl,fun hs ⟨A1,c1,h,g1⟩=>⟨A1,c1,h,g1.mono hs⟩⟩
structure qG where
 f0:Int
 f1:List Int
 deriving DecidableEq
def qG.z:qG:=⟨0,[]⟩
def qG.k:Kn qG:=⟨2,fun F x cs=>∃(A1:Option Addr)(c1:Nat),cs=[.int .i64 x.f0,.slice A1 x.f1.length c1]/\Rd (Kn.int .i64) F A1 c1 x.f1,by
  rintro F x cs ⟨_,_,h,_⟩
  subst h
  rfl,by
  rintro F x cs ⟨_,_,h,_⟩ u hu
  subst h
  simp only [List.mem_cons,List.not_mem_nil,or_false]at hu
  rcases hu with rfl | rfl <;> rfl,fun hs ⟨A1,c1,h,g1⟩=>⟨A1,c1,h,g1.mono hs⟩⟩
structure qC where
 f0:Int
 f1:List qG
 deriving DecidableEq
def qC.z:qC:=⟨0,[]⟩
def qC.k:Kn qC:=⟨2,fun F x cs=>∃(A1:Option Addr)(c1:Nat),cs=[.int .i64 x.f0,.slice A1 x.f1.length c1]/\Rd qG.k F A1 c1 x.f1,by
  rintro F x cs ⟨_,_,h,_⟩
  subst h
  rfl,by
  rintro F x cs ⟨_,_,h,_⟩ u hu
  subst h
  simp only [List.mem_cons,List.not_mem_nil,or_false]at hu
  rcases hu with rfl | rfl <;> rfl,fun hs ⟨A1,c1,h,g1⟩=>⟨A1,c1,h,g1.mono hs⟩⟩
structure qD where
 f0:Int
 f1:Int
 f2:Int
 f3:Int
 f4:List qA
 f5:List qE
 f6:List qC
 deriving DecidableEq
def qD.k:Kn qD:=⟨7,fun F x cs=>∃(A4:Option Addr)(c4:Nat)(A5:Option Addr)(c5:Nat)(A6:Option Addr)(c6:Nat),cs=[.int .i64 x.f0,.int .i64 x.f1,.int .i64 x.f2,.int .i64 x.f3,.slice A4 x.f4.length c4,.slice A5 x.f5.length c5,.slice A6 x.f6.length c6]/\Rd qA.k F A4 c4 x.f4/\Rd qE.k F A5 c5 x.f5/\Rd qC.k F A6 c6 x.f6,by
  rintro F x cs ⟨_,_,_,_,_,_,h,_,_,_⟩
  subst h
  rfl,by
  rintro F x cs ⟨_,_,_,_,_,_,h,_,_,_⟩ u hu
  subst h
  simp only [List.mem_cons,List.not_mem_nil,or_false]at hu
  rcases hu with rfl | rfl | rfl | rfl | rfl | rfl | rfl <;> rfl,fun hs ⟨A4,c4,A5,c5,A6,c6,h,g4,g5,g6⟩=>⟨A4,c4,A5,c5,A6,c6,h,g4.mono hs,g5.mono hs,g6.mono hs⟩⟩
structure qF where
 f0:Int
 f1:Int
 f2:Int
 f3:Int
 f4:Int
 f5:Int
 f6:List Int
 deriving DecidableEq
def qF.z:qF:=⟨0,0,0,0,0,0,[]⟩
def qF.k:Kn qF:=⟨7,fun F x cs=>∃(A6:Option Addr)(c6:Nat),cs=[.int .i64 x.f0,.int .i64 x.f1,.int .i64 x.f2,.int .i64 x.f3,.int .i64 x.f4,.int .i64 x.f5,.slice A6 x.f6.length c6]/\Rd (Kn.int .i64) F A6 c6 x.f6,by
  rintro F x cs ⟨_,_,h,_⟩
  subst h
  rfl,by
  rintro F x cs ⟨_,_,h,_⟩ u hu
  subst h
  simp only [List.mem_cons,List.not_mem_nil,or_false]at hu
  rcases hu with rfl | rfl | rfl | rfl | rfl | rfl | rfl <;> rfl,fun hs ⟨A6,c6,h,g6⟩=>⟨A6,c6,h,g6.mono hs⟩⟩
structure qM where
 f0:Int
 f1:Int
 f2:Int
 deriving DecidableEq
def qM.z:qM:=⟨0,0,0⟩
def qM.k:Kn qM:=⟨3,fun F x cs=>cs=[.int .i64 x.f0,.int .i64 x.f1,.int .i64 x.f2],by
  rintro F x cs h
  subst h
  rfl,by
  rintro F x cs h u hu
  subst h
  simp only [List.mem_cons,List.not_mem_nil,or_false]at hu
  rcases hu with rfl | rfl | rfl <;> rfl,fun hs h=>h⟩
structure qB where
 f0:Int
 f1:Int
 deriving DecidableEq
def qB.z:qB:=⟨0,0⟩
def qB.k:Kn qB:=⟨2,fun F x cs=>cs=[.int .i64 x.f0,.int .i64 x.f1],by
  rintro F x cs h
  subst h
  rfl,by
  rintro F x cs h u hu
  subst h
  simp only [List.mem_cons,List.not_mem_nil,or_false]at hu
  rcases hu with rfl | rfl <;> rfl,fun hs h=>h⟩
structure qd where
 f0:Int
 f1:Int
 f2:Int
 deriving DecidableEq
def qd.z:qd:=⟨0,0,0⟩
def qd.k:Kn qd:=⟨3,fun F x cs=>cs=[.int .i64 x.f0,.int .i64 x.f1,.int .i64 x.f2],by
  rintro F x cs h
  subst h
  rfl,by
  rintro F x cs h u hu
  subst h
  simp only [List.mem_cons,List.not_mem_nil,or_false]at hu
  rcases hu with rfl | rfl | rfl <;> rfl,fun hs h=>h⟩
structure Ar3_i64 where
 f0:Int
 f1:Int
 f2:Int
 deriving DecidableEq
def Ar3_i64.z:Ar3_i64:=⟨0,0,0⟩
def Ar3_i64.k:Kn Ar3_i64:=⟨3,fun F x cs=>cs=[.int .i64 x.f0,.int .i64 x.f1,.int .i64 x.f2],by
  rintro F x cs h
  subst h
  rfl,by
  rintro F x cs h u hu
  subst h
  simp only [List.mem_cons,List.not_mem_nil,or_false]at hu
  rcases hu with rfl | rfl | rfl <;> rfl,fun hs h=>h⟩
structure qAm where
 f0:List qF
 f1:Int
 f2:Int
 deriving DecidableEq
structure qAN where
 f0:Int
 f1:Int
 f2:Int
 f3:Int
 f4:Int
 deriving DecidableEq
def qAN.k:Kn qAN:=⟨5,fun F x cs=>cs=[.int .i64 x.f0,.int .i64 x.f1,.int .i64 x.f2,.int .i64 x.f3,.int .i64 x.f4],by
  rintro F x cs h
  subst h
  rfl,by
  rintro F x cs h u hu
  subst h
  simp only [List.mem_cons,List.not_mem_nil,or_false]at hu
  rcases hu with rfl | rfl | rfl | rfl | rfl <;> rfl,fun hs h=>h⟩
theorem eo {P : Program} {g : FuncId} {fn : Func} (hf : P.funcs[g]? = some fn) (hname : (fn.name == "runtime.NumGoroutine") = false := by kernel_rfl) (hb : fn.body.isSome = true := by rfl) : Enters P g := by
 cases h:fn.body with
 | none=>rw [h]at hb; cases hb
 | some c=>exact enters_of hf hname h
abbrev Et(g:FuncId):Prop:=Enters Tryz.prog g
theorem en10:Et 10:=eo Tryz.func10
theorem en11:Et 11:=eo Tryz.func11
theorem en12:Et 12:=eo Tryz.func12
theorem en14:Et 14:=eo Tryz.func14
theorem en16:Et 16:=eo Tryz.func16
theorem en17:Et 17:=eo Tryz.func17
theorem en18:Et 18:=eo Tryz.func18
theorem en22:Et 22:=eo Tryz.func22
theorem en23:Et 23:=eo Tryz.func23
theorem en24:Et 24:=eo Tryz.func24
theorem en25:Et 25:=eo Tryz.func25
theorem en27:Et 27:=eo Tryz.func27
theorem en32:Et 32:=eo Tryz.func32
theorem en33:Et 33:=eo Tryz.func33
theorem en34:Et 34:=eo Tryz.func34
theorem en36:Et 36:=eo Tryz.func36
theorem en37:Et 37:=eo Tryz.func37
theorem en38:Et 38:=eo Tryz.func38
theorem en39:Et 39:=eo Tryz.func39
theorem en40:Et 40:=eo Tryz.func40
theorem en41:Et 41:=eo Tryz.func41
theorem en42:Et 42:=eo Tryz.func42
theorem en43:Et 43:=eo Tryz.func43
theorem en44:Et 44:=eo Tryz.func44
theorem en45:Et 45:=eo Tryz.func45
theorem en46:Et 46:=eo Tryz.func46
theorem en47:Et 47:=eo Tryz.func47
theorem en48:Et 48:=eo Tryz.func48
theorem en49:Et 49:=eo Tryz.func49
theorem en50:Et 50:=eo Tryz.func50
theorem en51:Et 51:=eo Tryz.func51
theorem en52:Et 52:=eo Tryz.func52
theorem en53:Et 53:=eo Tryz.func53
theorem en54:Et 54:=eo Tryz.func54
theorem en56:Et 56:=eo Tryz.func56
theorem en57:Et 57:=eo Tryz.func57
theorem en58:Et 58:=eo Tryz.func58
theorem en59:Et 59:=eo Tryz.func59
theorem en60:Et 60:=eo Tryz.func60
theorem en61:Et 61:=eo Tryz.func61
theorem en62:Et 62:=eo Tryz.func62
theorem en63:Et 63:=eo Tryz.func63
theorem en64:Et 64:=eo Tryz.func64
theorem en65:Et 65:=eo Tryz.func65
theorem en66:Et 66:=eo Tryz.func66
theorem en67:Et 67:=eo Tryz.func67
theorem en68:Et 68:=eo Tryz.func68
theorem en69:Et 69:=eo Tryz.func69
theorem en70:Et 70:=eo Tryz.func70
theorem en71:Et 71:=eo Tryz.func71
theorem en72:Et 72:=eo Tryz.func72
theorem en73:Et 73:=eo Tryz.func73
theorem en74:Et 74:=eo Tryz.func74
theorem en75:Et 75:=eo Tryz.func75
theorem en76:Et 76:=eo Tryz.func76
theorem en77:Et 77:=eo Tryz.func77
theorem en78:Et 78:=eo Tryz.func78
theorem en79:Et 79:=eo Tryz.func79
theorem en82:Et 82:=eo Tryz.func82
theorem en83:Et 83:=eo Tryz.func83
theorem en84:Et 84:=eo Tryz.func84
theorem en85:Et 85:=eo Tryz.func85
theorem en86:Et 86:=eo Tryz.func86
theorem en87:Et 87:=eo Tryz.func87
theorem en88:Et 88:=eo Tryz.func88
theorem en89:Et 89:=eo Tryz.func89
theorem en90:Et 90:=eo Tryz.func90
theorem en91:Et 91:=eo Tryz.func91
theorem en92:Et 92:=eo Tryz.func92
theorem en93:Et 93:=eo Tryz.func93
theorem en94:Et 94:=eo Tryz.func94
theorem en95:Et 95:=eo Tryz.func95
theorem en96:Et 96:=eo Tryz.func96
theorem en97:Et 97:=eo Tryz.func97
theorem en98:Et 98:=eo Tryz.func98
theorem en99:Et 99:=eo Tryz.func99
theorem en100:Et 100:=eo Tryz.func100
theorem en101:Et 101:=eo Tryz.func101
theorem en102:Et 102:=eo Tryz.func102
theorem en103:Et 103:=eo Tryz.func103
theorem en104:Et 104:=eo Tryz.func104
theorem en105:Et 105:=eo Tryz.func105
theorem en106:Et 106:=eo Tryz.func106
theorem en107:Et 107:=eo Tryz.func107
theorem en108:Et 108:=eo Tryz.func108
theorem en109:Et 109:=eo Tryz.func109
theorem en110:Et 110:=eo Tryz.func110
theorem en111:Et 111:=eo Tryz.func111
theorem en112:Et 112:=eo Tryz.func112
theorem en113:Et 113:=eo Tryz.func113
theorem en114:Et 114:=eo Tryz.func114
theorem en115:Et 115:=eo Tryz.func115
theorem en116:Et 116:=eo Tryz.func116
theorem en117:Et 117:=eo Tryz.func117
theorem en118:Et 118:=eo Tryz.func118
theorem en119:Et 119:=eo Tryz.func119
theorem en120:Et 120:=eo Tryz.func120
theorem en121:Et 121:=eo Tryz.func121
theorem en122:Et 122:=eo Tryz.func122
theorem en123:Et 123:=eo Tryz.func123
theorem en124:Et 124:=eo Tryz.func124
theorem en125:Et 125:=eo Tryz.func125
theorem en126:Et 126:=eo Tryz.func126
theorem en127:Et 127:=eo Tryz.func127
theorem en128:Et 128:=eo Tryz.func128
theorem en129:Et 129:=eo Tryz.func129
theorem en130:Et 130:=eo Tryz.func130
theorem en131:Et 131:=eo Tryz.func131
theorem en132:Et 132:=eo Tryz.func132
theorem en133:Et 133:=eo Tryz.func133
theorem en134:Et 134:=eo Tryz.func134
theorem en136:Et 136:=eo Tryz.func136
theorem en137:Et 137:=eo Tryz.func137
theorem en138:Et 138:=eo Tryz.func138
theorem en139:Et 139:=eo Tryz.func139
theorem en140:Et 140:=eo Tryz.func140
theorem en141:Et 141:=eo Tryz.func141
theorem en142:Et 142:=eo Tryz.func142
theorem en143:Et 143:=eo Tryz.func143
theorem en144:Et 144:=eo Tryz.func144
theorem en145:Et 145:=eo Tryz.func145
theorem en146:Et 146:=eo Tryz.func146
theorem en147:Et 147:=eo Tryz.func147
theorem en148:Et 148:=eo Tryz.func148
theorem en149:Et 149:=eo Tryz.func149
theorem en150:Et 150:=eo Tryz.func150
theorem en155:Et 155:=eo Tryz.func155
theorem en156:Et 156:=eo Tryz.func156
theorem en157:Et 157:=eo Tryz.func157
theorem en158:Et 158:=eo Tryz.func158
theorem en162:Et 162:=eo Tryz.func162
theorem en163:Et 163:=eo Tryz.func163
theorem en164:Et 164:=eo Tryz.func164
theorem en165:Et 165:=eo Tryz.func165
theorem en166:Et 166:=eo Tryz.func166
theorem en167:Et 167:=eo Tryz.func167
theorem en168:Et 168:=eo Tryz.func168
theorem en171:Et 171:=eo Tryz.func171
theorem en185:Et 185:=eo Tryz.func185
theorem en186:Et 186:=eo Tryz.func186
theorem en187:Et 187:=eo Tryz.func187
theorem en188:Et 188:=eo Tryz.func188
theorem en189:Et 189:=eo Tryz.func189
theorem en190:Et 190:=eo Tryz.func190
theorem en199:Et 199:=eo Tryz.func199
theorem en200:Et 200:=eo Tryz.func200
theorem en201:Et 201:=eo Tryz.func201
theorem en202:Et 202:=eo Tryz.func202
theorem en203:Et 203:=eo Tryz.func203
theorem en204:Et 204:=eo Tryz.func204
theorem en205:Et 205:=eo Tryz.func205
theorem en206:Et 206:=eo Tryz.func206
theorem en207:Et 207:=eo Tryz.func207
theorem en208:Et 208:=eo Tryz.func208
theorem en209:Et 209:=eo Tryz.func209
theorem en210:Et 210:=eo Tryz.func210
theorem en213:Et 213:=eo Tryz.func213
theorem en215:Et 215:=eo Tryz.func215
theorem en216:Et 216:=eo Tryz.func216
theorem en225:Et 225:=eo Tryz.func225
theorem en226:Et 226:=eo Tryz.func226
theorem sz3:sizeB Tryz.prog 3=some 1:=by kernel_rfl
theorem ag26:aggB Tryz.prog 26=some true:=by kernel_rfl
theorem sz26:sizeB Tryz.prog 26=some 7:=by kernel_rfl
theorem ag29:aggB Tryz.prog 29=some true:=by kernel_rfl
theorem sz29:sizeB Tryz.prog 29=some 7:=by kernel_rfl
theorem ag50:aggB Tryz.prog 50=some true:=by kernel_rfl
theorem sz50:sizeB Tryz.prog 50=some 3:=by kernel_rfl
theorem ag65:aggB Tryz.prog 65=some true:=by kernel_rfl
theorem sz65:sizeB Tryz.prog 65=some 5:=by kernel_rfl
theorem ag68:aggB Tryz.prog 68=some true:=by kernel_rfl
theorem sz68:sizeB Tryz.prog 68=some 6:=by kernel_rfl
theorem ag73:aggB Tryz.prog 73=some true:=by kernel_rfl
theorem sz73:sizeB Tryz.prog 73=some 2:=by kernel_rfl
theorem sz77:sizeB Tryz.prog 77=some 2:=by kernel_rfl
theorem ag139:aggB Tryz.prog 139=some true:=by kernel_rfl
theorem sz139:sizeB Tryz.prog 139=some 2:=by kernel_rfl
theorem zr3:zerK Tryz.prog 3=[.int .i64 0]:=by kernel_rfl
theorem zr4:zerK Tryz.prog 4=[.bool false]:=by kernel_rfl
theorem zr68:zerK Tryz.prog 68=[.int .i64 0,.int .i64 0,.int .i64 0,.int .i64 0,.bool false,.bool false]:=by kernel_rfl
theorem zr73:zerK Tryz.prog 73=[.int .i64 0,.slice none 0 0]:=by kernel_rfl
theorem zr75:zerK Tryz.prog 75=[.int .i64 0,.slice none 0 0]:=by kernel_rfl
theorem zr77:zerK Tryz.prog 77=[.int .i64 0,.slice none 0 0]:=by kernel_rfl
theorem zr139:zerK Tryz.prog 139=[.int .i64 0,.int .i64 0]:=by kernel_rfl
theorem ud3:Tryz.prog.underlying 3=some (.int .i64):=by kernel_rfl
theorem ud4:Tryz.prog.underlying 4=some (.bool):=by kernel_rfl
theorem qA.beq(x y:qA):(x.f0 == y.f0&&(x.f1 == y.f1&&(x.f2 == y.f2&&(x.f3 == y.f3&&(x.f4 == y.f4&&(x.f5 == y.f5&&(true)))))))=decide (x=y):=by
 cases x; cases y
 rw [Bool.eq_iff_iff]
 simp only [Bool.and_eq_true,beq_iff_eq,decide_eq_true_eq,qA.mk.injEq,and_true]
theorem eqs68(x y:qA)(w:World)(d:Nat):(Op.equalIn (d+2) 68 (.agg #[.int .i64 x.f0,.int .i64 x.f1,.int .i64 x.f2,.int .i64 x.f3,.bool x.f4,.bool x.f5]) (.agg #[.int .i64 y.f0,.int .i64 y.f1,.int .i64 y.f2,.int .i64 y.f3,.bool y.f4,.bool y.f5])).run Tryz.prog w = .ok (decide (x=y)) w :=
 (qJh (d:=d+1) Tryz.underlying68 (by kernel_rfl) (qDB (by kernel_rfl) (by kernel_rfl) (by kernel_rfl) (qDp ud3) (qDB (by kernel_rfl) (by kernel_rfl) (by kernel_rfl) (qDp ud3) (qDB (by kernel_rfl) (by kernel_rfl) (by kernel_rfl) (qDp ud3) (qDB (by kernel_rfl) (by kernel_rfl) (by kernel_rfl) (qDp ud3) (qDB (by kernel_rfl) (by kernel_rfl) (by kernel_rfl) (qHz ud4) (qDB (by kernel_rfl) (by kernel_rfl) (by kernel_rfl) (qHz ud4) (qHy)))))))).trans (congrArg (fun b=>Result.ok b w) (qA.beq x y))
theorem qAN.beq(x y:qAN):(x.f0 == y.f0&&(x.f1 == y.f1&&(x.f2 == y.f2&&(x.f3 == y.f3&&(x.f4 == y.f4&&(true))))))=decide (x=y):=by
 cases x; cases y
 rw [Bool.eq_iff_iff]
 simp only [Bool.and_eq_true,beq_iff_eq,decide_eq_true_eq,qAN.mk.injEq,and_true]
theorem eqs65(x y:qAN)(w:World)(d:Nat):(Op.equalIn (d+2) 65 (.agg #[.int .i64 x.f0,.int .i64 x.f1,.int .i64 x.f2,.int .i64 x.f3,.int .i64 x.f4]) (.agg #[.int .i64 y.f0,.int .i64 y.f1,.int .i64 y.f2,.int .i64 y.f3,.int .i64 y.f4])).run Tryz.prog w = .ok (decide (x=y)) w :=
 (qJh (d:=d+1) Tryz.underlying65 (by kernel_rfl) (qDB (by kernel_rfl) (by kernel_rfl) (by kernel_rfl) (qDp ud3) (qDB (by kernel_rfl) (by kernel_rfl) (by kernel_rfl) (qDp ud3) (qDB (by kernel_rfl) (by kernel_rfl) (by kernel_rfl) (qDp ud3) (qDB (by kernel_rfl) (by kernel_rfl) (by kernel_rfl) (qDp ud3) (qDB (by kernel_rfl) (by kernel_rfl) (by kernel_rfl) (qDp ud3) (qHy))))))).trans (congrArg (fun b=>Result.ok b w) (qAN.beq x y))
abbrev mA(x:qD)(a:Option Addr)(b:Nat)(c:Option Addr)(d:Nat)(e:Option Addr)(f:Nat):Array Value:=#[.int .i64 x.f0,.int .i64 x.f1,.int .i64 x.f2,.int .i64 x.f3,.slice a x.f4.length b,.slice c x.f5.length d,.slice e x.f6.length f]
abbrev mL(x:qD)(a:Option Addr)(b:Nat)(c:Option Addr)(d:Nat)(e:Option Addr)(f:Nat):List Value:=[.int .i64 x.f0,.int .i64 x.f1,.int .i64 x.f2,.int .i64 x.f3,.slice a x.f4.length b,.slice c x.f5.length d,.slice e x.f6.length f]
abbrev dA(x:qF)(a:Option Addr)(b:Nat):Array Value:=#[.int .i64 x.f0,.int .i64 x.f1,.int .i64 x.f2,.int .i64 x.f3,.int .i64 x.f4,.int .i64 x.f5,.slice a x.f6.length b]
abbrev dL(x:qF)(a:Option Addr)(b:Nat):List Value:=[.int .i64 x.f0,.int .i64 x.f1,.int .i64 x.f2,.int .i64 x.f3,.int .i64 x.f4,.int .i64 x.f5,.slice a x.f6.length b]
abbrev nA(x:qA):Array Value:=#[.int .i64 x.f0,.int .i64 x.f1,.int .i64 x.f2,.int .i64 x.f3,.bool x.f4,.bool x.f5]
abbrev nL(x:qA):List Value:=[.int .i64 x.f0,.int .i64 x.f1,.int .i64 x.f2,.int .i64 x.f3,.bool x.f4,.bool x.f5]
end Go.Proofs.YthgfhlbjkmjlpaaGreat.GD
