/- Kinds and small facts of this print (written by wip/s/sl.py). -/
import Derived.Test.YtpohepinmjmbkaaGreatSlJ
import Derived.Test.YtpohepinmjmbkaaGreatSort
import Derived.Test.YtpohepinmjmbkaaGreatSlP
import Derived.Test.YtpohepinmjmbkaaGreatSortP
import Derived.Test.YtpohepinmjmbkaaGreatSlM
import Derived.Test.YtpohepinmjmbkaaGreatProg
namespace Go.Proofs.YtpohepinmjmbkaaGreat.QB
open Go Go.RowKit Go.Proofs.YtpohepinmjmbkaaGreat.Sl
set_option linter.unusedVariables false
set_option linter.unusedSimpArgs false
set_option maxHeartbeats 4000000
set_option maxRecDepth 100000
theorem mixed : Tryz.prog.follows .mixedOrders = true := by kernel_rfl
structure T_api_Info where
  f0 : Int
  f1 : Int
  f2 : Int
  f3 : Int
  f4 : Int
  deriving DecidableEq
def T_api_Info.z : T_api_Info := ⟨0, 0, 0, 0, 0⟩
def T_api_Info.k : Kn T_api_Info := ⟨5, fun F x cs => cs = [.int .i64 x.f0, .int .i64 x.f1, .int .i64 x.f2, .int .i64 x.f3, .int .i64 x.f4], by
    rintro F x cs h
    subst h
    rfl, by
    rintro F x cs h u hu
    subst h
    simp only [List.mem_cons, List.not_mem_nil, or_false] at hu
    rcases hu with rfl | rfl | rfl | rfl | rfl <;> rfl, fun hs h => h⟩
structure T_api_Node where
  f0 : Int
  f1 : Int
  f2 : Int
  f3 : Int
  f4 : Bool
  f5 : Bool
  deriving DecidableEq
def T_api_Node.z : T_api_Node := ⟨0, 0, 0, 0, false, false⟩
def T_api_Node.k : Kn T_api_Node := ⟨6, fun F x cs => cs = [.int .i64 x.f0, .int .i64 x.f1, .int .i64 x.f2, .int .i64 x.f3, .bool x.f4, .bool x.f5], by
    rintro F x cs h
    subst h
    rfl, by
    rintro F x cs h u hu
    subst h
    simp only [List.mem_cons, List.not_mem_nil, or_false] at hu
    rcases hu with rfl | rfl | rfl | rfl | rfl | rfl <;> rfl, fun hs h => h⟩
structure T_api_Temp where
  f0 : Int
  f1 : List Int
  deriving DecidableEq
def T_api_Temp.z : T_api_Temp := ⟨0, []⟩
def T_api_Temp.k : Kn T_api_Temp := ⟨2, fun F x cs => ∃ (A1 : Option Addr) (c1 : Nat), cs = [.int .i64 x.f0, .slice A1 x.f1.length c1] ∧ Rd (Kn.int .i64) F A1 c1 x.f1, by
    rintro F x cs ⟨_, _, h, _⟩
    subst h
    rfl, by
    rintro F x cs ⟨_, _, h, _⟩ u hu
    subst h
    simp only [List.mem_cons, List.not_mem_nil, or_false] at hu
    rcases hu with rfl | rfl <;> rfl, fun hs ⟨A1, c1, h, g1⟩ => ⟨A1, c1, h, g1.mono hs⟩⟩
structure T_api_Span where
  f0 : Int
  f1 : List Int
  deriving DecidableEq
def T_api_Span.z : T_api_Span := ⟨0, []⟩
def T_api_Span.k : Kn T_api_Span := ⟨2, fun F x cs => ∃ (A1 : Option Addr) (c1 : Nat), cs = [.int .i64 x.f0, .slice A1 x.f1.length c1] ∧ Rd (Kn.int .i64) F A1 c1 x.f1, by
    rintro F x cs ⟨_, _, h, _⟩
    subst h
    rfl, by
    rintro F x cs ⟨_, _, h, _⟩ u hu
    subst h
    simp only [List.mem_cons, List.not_mem_nil, or_false] at hu
    rcases hu with rfl | rfl <;> rfl, fun hs ⟨A1, c1, h, g1⟩ => ⟨A1, c1, h, g1.mono hs⟩⟩
structure T_api_Trail where
  f0 : Int
  f1 : List T_api_Span
  deriving DecidableEq
def T_api_Trail.z : T_api_Trail := ⟨0, []⟩
def T_api_Trail.k : Kn T_api_Trail := ⟨2, fun F x cs => ∃ (A1 : Option Addr) (c1 : Nat), cs = [.int .i64 x.f0, .slice A1 x.f1.length c1] ∧ Rd T_api_Span.k F A1 c1 x.f1, by
    rintro F x cs ⟨_, _, h, _⟩
    subst h
    rfl, by
    rintro F x cs ⟨_, _, h, _⟩ u hu
    subst h
    simp only [List.mem_cons, List.not_mem_nil, or_false] at hu
    rcases hu with rfl | rfl <;> rfl, fun hs ⟨A1, c1, h, g1⟩ => ⟨A1, c1, h, g1.mono hs⟩⟩
structure T_api_Map where
  f0 : Int
  f1 : Int
  f2 : Int
  f3 : Int
  f4 : List T_api_Node
  f5 : List T_api_Temp
  f6 : List T_api_Trail
  deriving DecidableEq
def T_api_Map.z : T_api_Map := ⟨0, 0, 0, 0, [], [], []⟩
def T_api_Map.k : Kn T_api_Map := ⟨7, fun F x cs => ∃ (A4 : Option Addr) (c4 : Nat) (A5 : Option Addr) (c5 : Nat) (A6 : Option Addr) (c6 : Nat), cs = [.int .i64 x.f0, .int .i64 x.f1, .int .i64 x.f2, .int .i64 x.f3, .slice A4 x.f4.length c4, .slice A5 x.f5.length c5, .slice A6 x.f6.length c6] ∧ Rd T_api_Node.k F A4 c4 x.f4 ∧ Rd T_api_Temp.k F A5 c5 x.f5 ∧ Rd T_api_Trail.k F A6 c6 x.f6, by
    rintro F x cs ⟨_, _, _, _, _, _, h, _, _, _⟩
    subst h
    rfl, by
    rintro F x cs ⟨_, _, _, _, _, _, h, _, _, _⟩ u hu
    subst h
    simp only [List.mem_cons, List.not_mem_nil, or_false] at hu
    rcases hu with rfl | rfl | rfl | rfl | rfl | rfl | rfl <;> rfl, fun hs ⟨A4, c4, A5, c5, A6, c6, h, g4, g5, g6⟩ => ⟨A4, c4, A5, c5, A6, c6, h, g4.mono hs, g5.mono hs, g6.mono hs⟩⟩
structure T_api_Delta where
  f0 : Int
  f1 : Int
  f2 : Int
  f3 : Int
  f4 : Int
  f5 : Int
  f6 : List Int
  deriving DecidableEq
def T_api_Delta.z : T_api_Delta := ⟨0, 0, 0, 0, 0, 0, []⟩
def T_api_Delta.k : Kn T_api_Delta := ⟨7, fun F x cs => ∃ (A6 : Option Addr) (c6 : Nat), cs = [.int .i64 x.f0, .int .i64 x.f1, .int .i64 x.f2, .int .i64 x.f3, .int .i64 x.f4, .int .i64 x.f5, .slice A6 x.f6.length c6] ∧ Rd (Kn.int .i64) F A6 c6 x.f6, by
    rintro F x cs ⟨_, _, h, _⟩
    subst h
    rfl, by
    rintro F x cs ⟨_, _, h, _⟩ u hu
    subst h
    simp only [List.mem_cons, List.not_mem_nil, or_false] at hu
    rcases hu with rfl | rfl | rfl | rfl | rfl | rfl | rfl <;> rfl, fun hs ⟨A6, c6, h, g6⟩ => ⟨A6, c6, h, g6.mono hs⟩⟩
structure T_api_Step where
  f0 : Int
  f1 : Int
  f2 : Int
  deriving DecidableEq
def T_api_Step.z : T_api_Step := ⟨0, 0, 0⟩
def T_api_Step.k : Kn T_api_Step := ⟨3, fun F x cs => cs = [.int .i64 x.f0, .int .i64 x.f1, .int .i64 x.f2], by
    rintro F x cs h
    subst h
    rfl, by
    rintro F x cs h u hu
    subst h
    simp only [List.mem_cons, List.not_mem_nil, or_false] at hu
    rcases hu with rfl | rfl | rfl <;> rfl, fun hs h => h⟩
structure T_place_item where
  f0 : Int
  f1 : Int
  f2 : Int
  deriving DecidableEq
def T_place_item.z : T_place_item := ⟨0, 0, 0⟩
def T_place_item.k : Kn T_place_item := ⟨3, fun F x cs => cs = [.int .i64 x.f0, .int .i64 x.f1, .int .i64 x.f2], by
    rintro F x cs h
    subst h
    rfl, by
    rintro F x cs h u hu
    subst h
    simp only [List.mem_cons, List.not_mem_nil, or_false] at hu
    rcases hu with rfl | rfl | rfl <;> rfl, fun hs h => h⟩
structure T_api_Choice where
  f0 : Int
  f1 : Int
  deriving DecidableEq
def T_api_Choice.z : T_api_Choice := ⟨0, 0⟩
def T_api_Choice.k : Kn T_api_Choice := ⟨2, fun F x cs => cs = [.int .i64 x.f0, .int .i64 x.f1], by
    rintro F x cs h
    subst h
    rfl, by
    rintro F x cs h u hu
    subst h
    simp only [List.mem_cons, List.not_mem_nil, or_false] at hu
    rcases hu with rfl | rfl <;> rfl, fun hs h => h⟩
structure T_api_Verdict where
  f0 : Bool
  f1 : Int
  f2 : List Int
  f3 : List Int
  deriving DecidableEq
def T_api_Verdict.z : T_api_Verdict := ⟨false, 0, [], []⟩
def T_api_Verdict.k : Kn T_api_Verdict := ⟨4, fun F x cs => ∃ (A2 : Option Addr) (c2 : Nat) (A3 : Option Addr) (c3 : Nat), cs = [.bool x.f0, .int .i64 x.f1, .slice A2 x.f2.length c2, .slice A3 x.f3.length c3] ∧ Rd (Kn.int .i64) F A2 c2 x.f2 ∧ Rd (Kn.int .i64) F A3 c3 x.f3, by
    rintro F x cs ⟨_, _, _, _, h, _, _⟩
    subst h
    rfl, by
    rintro F x cs ⟨_, _, _, _, h, _, _⟩ u hu
    subst h
    simp only [List.mem_cons, List.not_mem_nil, or_false] at hu
    rcases hu with rfl | rfl | rfl | rfl <;> rfl, fun hs ⟨A2, c2, A3, c3, h, g2, g3⟩ => ⟨A2, c2, A3, c3, h, g2.mono hs, g3.mono hs⟩⟩
theorem en13 : Enters Tryz.prog 13 := enters_of Tryz.func13 (by kernel_rfl) rfl
theorem en15 : Enters Tryz.prog 15 := enters_of Tryz.func15 (by kernel_rfl) rfl
theorem en21 : Enters Tryz.prog 21 := enters_of Tryz.func21 (by kernel_rfl) rfl
theorem en22 : Enters Tryz.prog 22 := enters_of Tryz.func22 (by kernel_rfl) rfl
theorem en24 : Enters Tryz.prog 24 := enters_of Tryz.func24 (by kernel_rfl) rfl
theorem en26 : Enters Tryz.prog 26 := enters_of Tryz.func26 (by kernel_rfl) rfl
theorem en32 : Enters Tryz.prog 32 := enters_of Tryz.func32 (by kernel_rfl) rfl
theorem en49 : Enters Tryz.prog 49 := enters_of Tryz.func49 (by kernel_rfl) rfl
theorem en50 : Enters Tryz.prog 50 := enters_of Tryz.func50 (by kernel_rfl) rfl
theorem en51 : Enters Tryz.prog 51 := enters_of Tryz.func51 (by kernel_rfl) rfl
theorem en57 : Enters Tryz.prog 57 := enters_of Tryz.func57 (by kernel_rfl) rfl
theorem en58 : Enters Tryz.prog 58 := enters_of Tryz.func58 (by kernel_rfl) rfl
theorem en59 : Enters Tryz.prog 59 := enters_of Tryz.func59 (by kernel_rfl) rfl
theorem en60 : Enters Tryz.prog 60 := enters_of Tryz.func60 (by kernel_rfl) rfl
theorem en61 : Enters Tryz.prog 61 := enters_of Tryz.func61 (by kernel_rfl) rfl
theorem en62 : Enters Tryz.prog 62 := enters_of Tryz.func62 (by kernel_rfl) rfl
theorem en70 : Enters Tryz.prog 70 := enters_of Tryz.func70 (by kernel_rfl) rfl
theorem en71 : Enters Tryz.prog 71 := enters_of Tryz.func71 (by kernel_rfl) rfl
theorem en74 : Enters Tryz.prog 74 := enters_of Tryz.func74 (by kernel_rfl) rfl
theorem en76 : Enters Tryz.prog 76 := enters_of Tryz.func76 (by kernel_rfl) rfl
theorem en77 : Enters Tryz.prog 77 := enters_of Tryz.func77 (by kernel_rfl) rfl
theorem en78 : Enters Tryz.prog 78 := enters_of Tryz.func78 (by kernel_rfl) rfl
theorem en79 : Enters Tryz.prog 79 := enters_of Tryz.func79 (by kernel_rfl) rfl
theorem en80 : Enters Tryz.prog 80 := enters_of Tryz.func80 (by kernel_rfl) rfl
theorem en81 : Enters Tryz.prog 81 := enters_of Tryz.func81 (by kernel_rfl) rfl
theorem en82 : Enters Tryz.prog 82 := enters_of Tryz.func82 (by kernel_rfl) rfl
theorem en90 : Enters Tryz.prog 90 := enters_of Tryz.func90 (by kernel_rfl) rfl
theorem en103 : Enters Tryz.prog 103 := enters_of Tryz.func103 (by kernel_rfl) rfl
theorem en104 : Enters Tryz.prog 104 := enters_of Tryz.func104 (by kernel_rfl) rfl
theorem en105 : Enters Tryz.prog 105 := enters_of Tryz.func105 (by kernel_rfl) rfl
theorem en106 : Enters Tryz.prog 106 := enters_of Tryz.func106 (by kernel_rfl) rfl
theorem en107 : Enters Tryz.prog 107 := enters_of Tryz.func107 (by kernel_rfl) rfl
theorem en108 : Enters Tryz.prog 108 := enters_of Tryz.func108 (by kernel_rfl) rfl
theorem en109 : Enters Tryz.prog 109 := enters_of Tryz.func109 (by kernel_rfl) rfl
theorem en110 : Enters Tryz.prog 110 := enters_of Tryz.func110 (by kernel_rfl) rfl
theorem en111 : Enters Tryz.prog 111 := enters_of Tryz.func111 (by kernel_rfl) rfl
theorem en112 : Enters Tryz.prog 112 := enters_of Tryz.func112 (by kernel_rfl) rfl
theorem en114 : Enters Tryz.prog 114 := enters_of Tryz.func114 (by kernel_rfl) rfl
theorem en115 : Enters Tryz.prog 115 := enters_of Tryz.func115 (by kernel_rfl) rfl
theorem en116 : Enters Tryz.prog 116 := enters_of Tryz.func116 (by kernel_rfl) rfl
theorem en118 : Enters Tryz.prog 118 := enters_of Tryz.func118 (by kernel_rfl) rfl
theorem en119 : Enters Tryz.prog 119 := enters_of Tryz.func119 (by kernel_rfl) rfl
theorem en121 : Enters Tryz.prog 121 := enters_of Tryz.func121 (by kernel_rfl) rfl
theorem en122 : Enters Tryz.prog 122 := enters_of Tryz.func122 (by kernel_rfl) rfl
theorem en125 : Enters Tryz.prog 125 := enters_of Tryz.func125 (by kernel_rfl) rfl
theorem en126 : Enters Tryz.prog 126 := enters_of Tryz.func126 (by kernel_rfl) rfl
theorem en127 : Enters Tryz.prog 127 := enters_of Tryz.func127 (by kernel_rfl) rfl
theorem en128 : Enters Tryz.prog 128 := enters_of Tryz.func128 (by kernel_rfl) rfl
theorem en129 : Enters Tryz.prog 129 := enters_of Tryz.func129 (by kernel_rfl) rfl
theorem en130 : Enters Tryz.prog 130 := enters_of Tryz.func130 (by kernel_rfl) rfl
theorem en131 : Enters Tryz.prog 131 := enters_of Tryz.func131 (by kernel_rfl) rfl
theorem en132 : Enters Tryz.prog 132 := enters_of Tryz.func132 (by kernel_rfl) rfl
theorem en135 : Enters Tryz.prog 135 := enters_of Tryz.func135 (by kernel_rfl) rfl
theorem en136 : Enters Tryz.prog 136 := enters_of Tryz.func136 (by kernel_rfl) rfl
theorem en141 : Enters Tryz.prog 141 := enters_of Tryz.func141 (by kernel_rfl) rfl
theorem en142 : Enters Tryz.prog 142 := enters_of Tryz.func142 (by kernel_rfl) rfl
theorem en155 : Enters Tryz.prog 155 := enters_of Tryz.func155 (by kernel_rfl) rfl
theorem en156 : Enters Tryz.prog 156 := enters_of Tryz.func156 (by kernel_rfl) rfl
theorem en157 : Enters Tryz.prog 157 := enters_of Tryz.func157 (by kernel_rfl) rfl
theorem en160 : Enters Tryz.prog 160 := enters_of Tryz.func160 (by kernel_rfl) rfl
theorem en161 : Enters Tryz.prog 161 := enters_of Tryz.func161 (by kernel_rfl) rfl
theorem en162 : Enters Tryz.prog 162 := enters_of Tryz.func162 (by kernel_rfl) rfl
theorem en163 : Enters Tryz.prog 163 := enters_of Tryz.func163 (by kernel_rfl) rfl
theorem en164 : Enters Tryz.prog 164 := enters_of Tryz.func164 (by kernel_rfl) rfl
theorem en165 : Enters Tryz.prog 165 := enters_of Tryz.func165 (by kernel_rfl) rfl
theorem en166 : Enters Tryz.prog 166 := enters_of Tryz.func166 (by kernel_rfl) rfl
theorem en167 : Enters Tryz.prog 167 := enters_of Tryz.func167 (by kernel_rfl) rfl
theorem en173 : Enters Tryz.prog 173 := enters_of Tryz.func173 (by kernel_rfl) rfl
theorem en174 : Enters Tryz.prog 174 := enters_of Tryz.func174 (by kernel_rfl) rfl
theorem en175 : Enters Tryz.prog 175 := enters_of Tryz.func175 (by kernel_rfl) rfl
theorem en176 : Enters Tryz.prog 176 := enters_of Tryz.func176 (by kernel_rfl) rfl
theorem en179 : Enters Tryz.prog 179 := enters_of Tryz.func179 (by kernel_rfl) rfl
theorem en180 : Enters Tryz.prog 180 := enters_of Tryz.func180 (by kernel_rfl) rfl
theorem en187 : Enters Tryz.prog 187 := enters_of Tryz.func187 (by kernel_rfl) rfl
theorem en190 : Enters Tryz.prog 190 := enters_of Tryz.func190 (by kernel_rfl) rfl
theorem en202 : Enters Tryz.prog 202 := enters_of Tryz.func202 (by kernel_rfl) rfl
theorem en203 : Enters Tryz.prog 203 := enters_of Tryz.func203 (by kernel_rfl) rfl
theorem en204 : Enters Tryz.prog 204 := enters_of Tryz.func204 (by kernel_rfl) rfl
theorem en224 : Enters Tryz.prog 224 := enters_of Tryz.func224 (by kernel_rfl) rfl
theorem en225 : Enters Tryz.prog 225 := enters_of Tryz.func225 (by kernel_rfl) rfl
theorem en226 : Enters Tryz.prog 226 := enters_of Tryz.func226 (by kernel_rfl) rfl
theorem en227 : Enters Tryz.prog 227 := enters_of Tryz.func227 (by kernel_rfl) rfl
theorem en228 : Enters Tryz.prog 228 := enters_of Tryz.func228 (by kernel_rfl) rfl
theorem en229 : Enters Tryz.prog 229 := enters_of Tryz.func229 (by kernel_rfl) rfl
theorem en236 : Enters Tryz.prog 236 := enters_of Tryz.func236 (by kernel_rfl) rfl
theorem en237 : Enters Tryz.prog 237 := enters_of Tryz.func237 (by kernel_rfl) rfl
theorem en238 : Enters Tryz.prog 238 := enters_of Tryz.func238 (by kernel_rfl) rfl
theorem en239 : Enters Tryz.prog 239 := enters_of Tryz.func239 (by kernel_rfl) rfl
theorem en240 : Enters Tryz.prog 240 := enters_of Tryz.func240 (by kernel_rfl) rfl
theorem en241 : Enters Tryz.prog 241 := enters_of Tryz.func241 (by kernel_rfl) rfl
theorem en242 : Enters Tryz.prog 242 := enters_of Tryz.func242 (by kernel_rfl) rfl
theorem en243 : Enters Tryz.prog 243 := enters_of Tryz.func243 (by kernel_rfl) rfl
theorem en244 : Enters Tryz.prog 244 := enters_of Tryz.func244 (by kernel_rfl) rfl
theorem en245 : Enters Tryz.prog 245 := enters_of Tryz.func245 (by kernel_rfl) rfl
theorem en246 : Enters Tryz.prog 246 := enters_of Tryz.func246 (by kernel_rfl) rfl
theorem en247 : Enters Tryz.prog 247 := enters_of Tryz.func247 (by kernel_rfl) rfl
theorem en248 : Enters Tryz.prog 248 := enters_of Tryz.func248 (by kernel_rfl) rfl
theorem en249 : Enters Tryz.prog 249 := enters_of Tryz.func249 (by kernel_rfl) rfl
theorem en250 : Enters Tryz.prog 250 := enters_of Tryz.func250 (by kernel_rfl) rfl
theorem en254 : Enters Tryz.prog 254 := enters_of Tryz.func254 (by kernel_rfl) rfl
theorem en255 : Enters Tryz.prog 255 := enters_of Tryz.func255 (by kernel_rfl) rfl
theorem en256 : Enters Tryz.prog 256 := enters_of Tryz.func256 (by kernel_rfl) rfl
theorem en257 : Enters Tryz.prog 257 := enters_of Tryz.func257 (by kernel_rfl) rfl
theorem en259 : Enters Tryz.prog 259 := enters_of Tryz.func259 (by kernel_rfl) rfl
theorem en260 : Enters Tryz.prog 260 := enters_of Tryz.func260 (by kernel_rfl) rfl
theorem en271 : Enters Tryz.prog 271 := enters_of Tryz.func271 (by kernel_rfl) rfl
theorem en272 : Enters Tryz.prog 272 := enters_of Tryz.func272 (by kernel_rfl) rfl
theorem ag3 : aggB Tryz.prog 3 = some false := by kernel_rfl
theorem sz3 : sizeB Tryz.prog 3 = some 1 := by kernel_rfl
theorem ag4 : aggB Tryz.prog 4 = some false := by kernel_rfl
theorem sz4 : sizeB Tryz.prog 4 = some 1 := by kernel_rfl
theorem ag22 : aggB Tryz.prog 22 = some false := by kernel_rfl
theorem sz22 : sizeB Tryz.prog 22 = some 1 := by kernel_rfl
theorem ag23 : aggB Tryz.prog 23 = some false := by kernel_rfl
theorem sz23 : sizeB Tryz.prog 23 = some 1 := by kernel_rfl
theorem ag24 : aggB Tryz.prog 24 = some false := by kernel_rfl
theorem sz24 : sizeB Tryz.prog 24 = some 1 := by kernel_rfl
theorem ag26 : aggB Tryz.prog 26 = some true := by kernel_rfl
theorem sz26 : sizeB Tryz.prog 26 = some 7 := by kernel_rfl
theorem ag36 : aggB Tryz.prog 36 = some false := by kernel_rfl
theorem sz36 : sizeB Tryz.prog 36 = some 1 := by kernel_rfl
theorem ag47 : aggB Tryz.prog 47 = some false := by kernel_rfl
theorem sz47 : sizeB Tryz.prog 47 = some 1 := by kernel_rfl
theorem ag49 : aggB Tryz.prog 49 = some true := by kernel_rfl
theorem sz49 : sizeB Tryz.prog 49 = some 2 := by kernel_rfl
theorem ag51 : aggB Tryz.prog 51 = some true := by kernel_rfl
theorem sz51 : sizeB Tryz.prog 51 = some 2 := by kernel_rfl
theorem ag74 : aggB Tryz.prog 74 = some true := by kernel_rfl
theorem sz74 : sizeB Tryz.prog 74 = some 4 := by kernel_rfl
theorem ag86 : aggB Tryz.prog 86 = some true := by kernel_rfl
theorem sz86 : sizeB Tryz.prog 86 = some 5 := by kernel_rfl
theorem ag97 : aggB Tryz.prog 97 = some true := by kernel_rfl
theorem sz97 : sizeB Tryz.prog 97 = some 2 := by kernel_rfl
theorem ag104 : aggB Tryz.prog 104 = some true := by kernel_rfl
theorem sz104 : sizeB Tryz.prog 104 = some 6 := by kernel_rfl
theorem ag129 : aggB Tryz.prog 129 = some false := by kernel_rfl
theorem sz129 : sizeB Tryz.prog 129 = some 1 := by kernel_rfl
theorem ag175 : aggB Tryz.prog 175 = some true := by kernel_rfl
theorem sz175 : sizeB Tryz.prog 175 = some 3 := by kernel_rfl
theorem ag212 : aggB Tryz.prog 212 = some true := by kernel_rfl
theorem sz212 : sizeB Tryz.prog 212 = some 3 := by kernel_rfl
theorem ag216 : aggB Tryz.prog 216 = some true := by kernel_rfl
theorem sz216 : sizeB Tryz.prog 216 = some 2 := by kernel_rfl
theorem z3z : zeroB Tryz.prog 3 = some (.int .i64 0) := by kernel_rfl
theorem zr3 : zerK Tryz.prog 3 = [.int .i64 0] := by kernel_rfl
theorem zr49 : zerK Tryz.prog 49 = [.int .i64 0, .slice none 0 0] := by kernel_rfl
theorem zr216 : zerK Tryz.prog 216 = [.int .i64 0, .int .i64 0] := by kernel_rfl
theorem ud3 : Tryz.prog.underlying 3 = some (.int .i64) := by kernel_rfl
theorem T_api_Info.beq (x y : T_api_Info) : (x.f0 == y.f0 && (x.f1 == y.f1 && (x.f2 == y.f2 && (x.f3 == y.f3 && (x.f4 == y.f4 && (true)))))) = decide (x = y) := by
  cases x; cases y
  rw [Bool.eq_iff_iff]
  simp only [Bool.and_eq_true, beq_iff_eq, decide_eq_true_eq, T_api_Info.mk.injEq, and_true]
theorem eqs86 (x y : T_api_Info) (w : World) (d : Nat) : (Op.equalIn (d + 2) 86 (.agg #[.int .i64 x.f0, .int .i64 x.f1, .int .i64 x.f2, .int .i64 x.f3, .int .i64 x.f4]) (.agg #[.int .i64 y.f0, .int .i64 y.f1, .int .i64 y.f2, .int .i64 y.f3, .int .i64 y.f4])).run Tryz.prog w = .ok (decide (x = y)) w :=
  (eqs_of (d := d + 1) Tryz.underlying86 (by kernel_rfl) (eqf_cons (by kernel_rfl) (by kernel_rfl) (by kernel_rfl) (eq_int ud3) (eqf_cons (by kernel_rfl) (by kernel_rfl) (by kernel_rfl) (eq_int ud3) (eqf_cons (by kernel_rfl) (by kernel_rfl) (by kernel_rfl) (eq_int ud3) (eqf_cons (by kernel_rfl) (by kernel_rfl) (by kernel_rfl) (eq_int ud3) (eqf_cons (by kernel_rfl) (by kernel_rfl) (by kernel_rfl) (eq_int ud3) (eqf_nil))))))).trans (congrArg (fun b => Result.ok b w) (T_api_Info.beq x y))
end Go.Proofs.YtpohepinmjmbkaaGreat.QB
