/- Kinds and small facts of this print (written by wip/s/sl.py). -/
import Derived.Test.YtihjknnhbgkinaaSlI
import Derived.Test.YtihjknnhbgkinaaProg
namespace Go.Proofs.Ytihjknnhbgkinaa.SR
open Go Go.RowKit Go.Proofs.Ytihjknnhbgkinaa.Sl
set_option linter.unusedVariables false
set_option linter.unusedSimpArgs false
theorem mixed : Try.prog.follows .mixedOrders = true := by kernel_rfl
structure T_api_Delta where
  f0 : Int
  f1 : Int
  f2 : Int
  f3 : Int
  f4 : Int
  f5 : Int
  f6 : List Int
  deriving DecidableEq
def T_api_Delta.z : T_api_Delta := ⟨0, 0, 0, 0, 0, 0, []⟩
def T_api_Delta.k : Kn T_api_Delta := ⟨7, fun F x cs => ∃ (A6 : Option Addr) (c6 : Nat), cs = [.int .i64 x.f0, .int .i64 x.f1, .int .i64 x.f2, .int .i64 x.f3, .int .i64 x.f4, .int .i64 x.f5, .slice A6 x.f6.length c6] ∧ Rd (Kn.int .i64) F A6 c6 x.f6, by
    rintro F x cs ⟨_, _, h, _⟩
    subst h
    rfl, by
    rintro F x cs ⟨_, _, h, _⟩ u hu
    subst h
    simp only [List.mem_cons, List.not_mem_nil, or_false] at hu
    rcases hu with rfl | rfl | rfl | rfl | rfl | rfl | rfl <;> rfl, fun hs ⟨A6, c6, h, g6⟩ => ⟨A6, c6, h, g6.mono hs⟩⟩
structure T_api_Data where
  f0 : List Int
  f1 : List ByteArray
  deriving DecidableEq
def T_api_Data.z : T_api_Data := ⟨[], []⟩
def T_api_Data.k : Kn T_api_Data := ⟨2, fun F x cs => ∃ (A0 : Option Addr) (c0 : Nat) (A1 : Option Addr) (c1 : Nat), cs = [.slice A0 x.f0.length c0, .slice A1 x.f1.length c1] ∧ Rd (Kn.int .i64) F A0 c0 x.f0 ∧ Rd Kn.string F A1 c1 x.f1, by
    rintro F x cs ⟨_, _, _, _, h, _, _⟩
    subst h
    rfl, by
    rintro F x cs ⟨_, _, _, _, h, _, _⟩ u hu
    subst h
    simp only [List.mem_cons, List.not_mem_nil, or_false] at hu
    rcases hu with rfl | rfl <;> rfl, fun hs ⟨A0, c0, A1, c1, h, g0, g1⟩ => ⟨A0, c0, A1, c1, h, g0.mono hs, g1.mono hs⟩⟩
structure T_past_reader where
  f0 : List Int
  f1 : Bool
  deriving DecidableEq
def T_past_reader.z : T_past_reader := ⟨[], false⟩
def T_past_reader.k : Kn T_past_reader := ⟨2, fun F x cs => ∃ (A0 : Option Addr) (c0 : Nat), cs = [.slice A0 x.f0.length c0, .bool x.f1] ∧ Rd (Kn.int .i64) F A0 c0 x.f0, by
    rintro F x cs ⟨_, _, h, _⟩
    subst h
    rfl, by
    rintro F x cs ⟨_, _, h, _⟩ u hu
    subst h
    simp only [List.mem_cons, List.not_mem_nil, or_false] at hu
    rcases hu with rfl | rfl <;> rfl, fun hs ⟨A0, c0, h, g0⟩ => ⟨A0, c0, h, g0.mono hs⟩⟩
structure T_api_Span where
  f0 : Int
  f1 : List Int
  deriving DecidableEq
def T_api_Span.z : T_api_Span := ⟨0, []⟩
def T_api_Span.k : Kn T_api_Span := ⟨2, fun F x cs => ∃ (A1 : Option Addr) (c1 : Nat), cs = [.int .i64 x.f0, .slice A1 x.f1.length c1] ∧ Rd (Kn.int .i64) F A1 c1 x.f1, by
    rintro F x cs ⟨_, _, h, _⟩
    subst h
    rfl, by
    rintro F x cs ⟨_, _, h, _⟩ u hu
    subst h
    simp only [List.mem_cons, List.not_mem_nil, or_false] at hu
    rcases hu with rfl | rfl <;> rfl, fun hs ⟨A1, c1, h, g1⟩ => ⟨A1, c1, h, g1.mono hs⟩⟩
structure T_api_Trail where
  f0 : Int
  f1 : List T_api_Span
  deriving DecidableEq
def T_api_Trail.z : T_api_Trail := ⟨0, []⟩
def T_api_Trail.k : Kn T_api_Trail := ⟨2, fun F x cs => ∃ (A1 : Option Addr) (c1 : Nat), cs = [.int .i64 x.f0, .slice A1 x.f1.length c1] ∧ Rd T_api_Span.k F A1 c1 x.f1, by
    rintro F x cs ⟨_, _, h, _⟩
    subst h
    rfl, by
    rintro F x cs ⟨_, _, h, _⟩ u hu
    subst h
    simp only [List.mem_cons, List.not_mem_nil, or_false] at hu
    rcases hu with rfl | rfl <;> rfl, fun hs ⟨A1, c1, h, g1⟩ => ⟨A1, c1, h, g1.mono hs⟩⟩
structure T_api_Node where
  f0 : Int
  f1 : Int
  f2 : Int
  f3 : Int
  f4 : Bool
  f5 : Bool
  deriving DecidableEq
def T_api_Node.z : T_api_Node := ⟨0, 0, 0, 0, false, false⟩
def T_api_Node.k : Kn T_api_Node := ⟨6, fun F x cs => cs = [.int .i64 x.f0, .int .i64 x.f1, .int .i64 x.f2, .int .i64 x.f3, .bool x.f4, .bool x.f5], by
    rintro F x cs h
    subst h
    rfl, by
    rintro F x cs h u hu
    subst h
    simp only [List.mem_cons, List.not_mem_nil, or_false] at hu
    rcases hu with rfl | rfl | rfl | rfl | rfl | rfl <;> rfl, fun hs h => h⟩
structure T_api_Temp where
  f0 : Int
  f1 : List Int
  deriving DecidableEq
def T_api_Temp.z : T_api_Temp := ⟨0, []⟩
def T_api_Temp.k : Kn T_api_Temp := ⟨2, fun F x cs => ∃ (A1 : Option Addr) (c1 : Nat), cs = [.int .i64 x.f0, .slice A1 x.f1.length c1] ∧ Rd (Kn.int .i64) F A1 c1 x.f1, by
    rintro F x cs ⟨_, _, h, _⟩
    subst h
    rfl, by
    rintro F x cs ⟨_, _, h, _⟩ u hu
    subst h
    simp only [List.mem_cons, List.not_mem_nil, or_false] at hu
    rcases hu with rfl | rfl <;> rfl, fun hs ⟨A1, c1, h, g1⟩ => ⟨A1, c1, h, g1.mono hs⟩⟩
structure T_api_Map where
  f0 : Int
  f1 : Int
  f2 : Int
  f3 : Int
  f4 : List T_api_Node
  f5 : List T_api_Temp
  f6 : List T_api_Trail
  deriving DecidableEq
def T_api_Map.z : T_api_Map := ⟨0, 0, 0, 0, [], [], []⟩
def T_api_Map.k : Kn T_api_Map := ⟨7, fun F x cs => ∃ (A4 : Option Addr) (c4 : Nat) (A5 : Option Addr) (c5 : Nat) (A6 : Option Addr) (c6 : Nat), cs = [.int .i64 x.f0, .int .i64 x.f1, .int .i64 x.f2, .int .i64 x.f3, .slice A4 x.f4.length c4, .slice A5 x.f5.length c5, .slice A6 x.f6.length c6] ∧ Rd T_api_Node.k F A4 c4 x.f4 ∧ Rd T_api_Temp.k F A5 c5 x.f5 ∧ Rd T_api_Trail.k F A6 c6 x.f6, by
    rintro F x cs ⟨_, _, _, _, _, _, h, _, _, _⟩
    subst h
    rfl, by
    rintro F x cs ⟨_, _, _, _, _, _, h, _, _, _⟩ u hu
    subst h
    simp only [List.mem_cons, List.not_mem_nil, or_false] at hu
    rcases hu with rfl | rfl | rfl | rfl | rfl | rfl | rfl <;> rfl, fun hs ⟨A4, c4, A5, c5, A6, c6, h, g4, g5, g6⟩ => ⟨A4, c4, A5, c5, A6, c6, h, g4.mono hs, g5.mono hs, g6.mono hs⟩⟩
theorem en6 : Enters Try.prog 6 := enters_of Try.func6 (by kernel_rfl) rfl
theorem en16 : Enters Try.prog 16 := enters_of Try.func16 (by kernel_rfl) rfl
theorem en20 : Enters Try.prog 20 := enters_of Try.func20 (by kernel_rfl) rfl
theorem en22 : Enters Try.prog 22 := enters_of Try.func22 (by kernel_rfl) rfl
theorem en28 : Enters Try.prog 28 := enters_of Try.func28 (by kernel_rfl) rfl
theorem en29 : Enters Try.prog 29 := enters_of Try.func29 (by kernel_rfl) rfl
theorem en30 : Enters Try.prog 30 := enters_of Try.func30 (by kernel_rfl) rfl
theorem en33 : Enters Try.prog 33 := enters_of Try.func33 (by kernel_rfl) rfl
theorem en34 : Enters Try.prog 34 := enters_of Try.func34 (by kernel_rfl) rfl
theorem en43 : Enters Try.prog 43 := enters_of Try.func43 (by kernel_rfl) rfl
theorem en44 : Enters Try.prog 44 := enters_of Try.func44 (by kernel_rfl) rfl
theorem en49 : Enters Try.prog 49 := enters_of Try.func49 (by kernel_rfl) rfl
theorem en50 : Enters Try.prog 50 := enters_of Try.func50 (by kernel_rfl) rfl
theorem en53 : Enters Try.prog 53 := enters_of Try.func53 (by kernel_rfl) rfl
theorem en54 : Enters Try.prog 54 := enters_of Try.func54 (by kernel_rfl) rfl
theorem en55 : Enters Try.prog 55 := enters_of Try.func55 (by kernel_rfl) rfl
theorem en56 : Enters Try.prog 56 := enters_of Try.func56 (by kernel_rfl) rfl
theorem en59 : Enters Try.prog 59 := enters_of Try.func59 (by kernel_rfl) rfl
theorem en60 : Enters Try.prog 60 := enters_of Try.func60 (by kernel_rfl) rfl
theorem en63 : Enters Try.prog 63 := enters_of Try.func63 (by kernel_rfl) rfl
theorem en64 : Enters Try.prog 64 := enters_of Try.func64 (by kernel_rfl) rfl
theorem en65 : Enters Try.prog 65 := enters_of Try.func65 (by kernel_rfl) rfl
theorem en66 : Enters Try.prog 66 := enters_of Try.func66 (by kernel_rfl) rfl
theorem en67 : Enters Try.prog 67 := enters_of Try.func67 (by kernel_rfl) rfl
theorem en68 : Enters Try.prog 68 := enters_of Try.func68 (by kernel_rfl) rfl
theorem en69 : Enters Try.prog 69 := enters_of Try.func69 (by kernel_rfl) rfl
theorem en70 : Enters Try.prog 70 := enters_of Try.func70 (by kernel_rfl) rfl
theorem en71 : Enters Try.prog 71 := enters_of Try.func71 (by kernel_rfl) rfl
theorem en72 : Enters Try.prog 72 := enters_of Try.func72 (by kernel_rfl) rfl
theorem en74 : Enters Try.prog 74 := enters_of Try.func74 (by kernel_rfl) rfl
theorem en76 : Enters Try.prog 76 := enters_of Try.func76 (by kernel_rfl) rfl
theorem en77 : Enters Try.prog 77 := enters_of Try.func77 (by kernel_rfl) rfl
theorem en80 : Enters Try.prog 80 := enters_of Try.func80 (by kernel_rfl) rfl
theorem en82 : Enters Try.prog 82 := enters_of Try.func82 (by kernel_rfl) rfl
theorem en88 : Enters Try.prog 88 := enters_of Try.func88 (by kernel_rfl) rfl
theorem en89 : Enters Try.prog 89 := enters_of Try.func89 (by kernel_rfl) rfl
theorem en92 : Enters Try.prog 92 := enters_of Try.func92 (by kernel_rfl) rfl
theorem en93 : Enters Try.prog 93 := enters_of Try.func93 (by kernel_rfl) rfl
theorem en94 : Enters Try.prog 94 := enters_of Try.func94 (by kernel_rfl) rfl
theorem en95 : Enters Try.prog 95 := enters_of Try.func95 (by kernel_rfl) rfl
theorem en100 : Enters Try.prog 100 := enters_of Try.func100 (by kernel_rfl) rfl
theorem en105 : Enters Try.prog 105 := enters_of Try.func105 (by kernel_rfl) rfl
theorem en110 : Enters Try.prog 110 := enters_of Try.func110 (by kernel_rfl) rfl
theorem en111 : Enters Try.prog 111 := enters_of Try.func111 (by kernel_rfl) rfl
theorem en130 : Enters Try.prog 130 := enters_of Try.func130 (by kernel_rfl) rfl
theorem en131 : Enters Try.prog 131 := enters_of Try.func131 (by kernel_rfl) rfl
theorem en142 : Enters Try.prog 142 := enters_of Try.func142 (by kernel_rfl) rfl
theorem ag3 : aggB Try.prog 3 = some false := by kernel_rfl
theorem sz3 : sizeB Try.prog 3 = some 1 := by kernel_rfl
theorem ag4 : aggB Try.prog 4 = some false := by kernel_rfl
theorem sz4 : sizeB Try.prog 4 = some 1 := by kernel_rfl
theorem ag31 : aggB Try.prog 31 = some false := by kernel_rfl
theorem sz31 : sizeB Try.prog 31 = some 1 := by kernel_rfl
theorem ag33 : aggB Try.prog 33 = some true := by kernel_rfl
theorem sz33 : sizeB Try.prog 33 = some 7 := by kernel_rfl
theorem ag36 : aggB Try.prog 36 = some true := by kernel_rfl
theorem sz36 : sizeB Try.prog 36 = some 2 := by kernel_rfl
theorem ag74 : aggB Try.prog 74 = some false := by kernel_rfl
theorem sz74 : sizeB Try.prog 74 = some 1 := by kernel_rfl
theorem ag75 : aggB Try.prog 75 = some false := by kernel_rfl
theorem sz75 : sizeB Try.prog 75 = some 1 := by kernel_rfl
theorem ag76 : aggB Try.prog 76 = some false := by kernel_rfl
theorem sz76 : sizeB Try.prog 76 = some 1 := by kernel_rfl
theorem ag78 : aggB Try.prog 78 = some true := by kernel_rfl
theorem sz78 : sizeB Try.prog 78 = some 7 := by kernel_rfl
theorem ag102 : aggB Try.prog 102 = some true := by kernel_rfl
theorem sz102 : sizeB Try.prog 102 = some 6 := by kernel_rfl
theorem ag130 : aggB Try.prog 130 = some true := by kernel_rfl
theorem sz130 : sizeB Try.prog 130 = some 2 := by kernel_rfl
theorem ag131 : aggB Try.prog 131 = some false := by kernel_rfl
theorem sz131 : sizeB Try.prog 131 = some 1 := by kernel_rfl
theorem ag133 : aggB Try.prog 133 = some true := by kernel_rfl
theorem sz133 : sizeB Try.prog 133 = some 2 := by kernel_rfl
theorem ag140 : aggB Try.prog 140 = some true := by kernel_rfl
theorem sz140 : sizeB Try.prog 140 = some 2 := by kernel_rfl
theorem ud3 : Try.prog.underlying 3 = some (.int .i64) := by kernel_rfl
theorem ud4 : Try.prog.underlying 4 = some (.bool) := by kernel_rfl
theorem T_api_Node.beq (x y : T_api_Node) : (x.f0 == y.f0 && (x.f1 == y.f1 && (x.f2 == y.f2 && (x.f3 == y.f3 && (x.f4 == y.f4 && (x.f5 == y.f5 && (true))))))) = decide (x = y) := by
  cases x; cases y
  rw [Bool.eq_iff_iff]
  simp only [Bool.and_eq_true, beq_iff_eq, decide_eq_true_eq, T_api_Node.mk.injEq, and_true]
theorem eqs102 (x y : T_api_Node) (w : World) (d : Nat) : (Op.equalIn (d + 2) 102 (.agg #[.int .i64 x.f0, .int .i64 x.f1, .int .i64 x.f2, .int .i64 x.f3, .bool x.f4, .bool x.f5]) (.agg #[.int .i64 y.f0, .int .i64 y.f1, .int .i64 y.f2, .int .i64 y.f3, .bool y.f4, .bool y.f5])).run Try.prog w = .ok (decide (x = y)) w :=
  (eqs_of (d := d + 1) Try.underlying102 (by kernel_rfl) (eqf_cons (by kernel_rfl) (by kernel_rfl) (by kernel_rfl) (eq_int ud3) (eqf_cons (by kernel_rfl) (by kernel_rfl) (by kernel_rfl) (eq_int ud3) (eqf_cons (by kernel_rfl) (by kernel_rfl) (by kernel_rfl) (eq_int ud3) (eqf_cons (by kernel_rfl) (by kernel_rfl) (by kernel_rfl) (eq_int ud3) (eqf_cons (by kernel_rfl) (by kernel_rfl) (by kernel_rfl) (eq_bool ud4) (eqf_cons (by kernel_rfl) (by kernel_rfl) (by kernel_rfl) (eq_bool ud4) (eqf_nil)))))))).trans (congrArg (fun b => Result.ok b w) (T_api_Node.beq x y))
end Go.Proofs.Ytihjknnhbgkinaa.SR
