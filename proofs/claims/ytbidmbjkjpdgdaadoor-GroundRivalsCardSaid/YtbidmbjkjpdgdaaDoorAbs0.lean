/-
  The abstract semantics, ahead of all: which package-level variables must keep what they hold (their blocks, and their cells): here the table of strconv's powers of ten, which is variable 0 of the seat's program.
-/
import Derived.WalkKit
import Derived.OrdersIn
import Derived.TacticsIn
import Derived.LoopNIn
import Derived.RangeFuncRecord
import Derived.RangeFuncIn
import Derived.RangeFuncCalls
import Derived.Test.YtbidmbjkjpdgdaaDoorProg
namespace Go.Proofs.YtbidmbjkjpdgdaaDoor.Abs
def TABS : List (Nat × Array Value) := [(0, #[.int .u64 1, .int .u64 10, .int .u64 100, .int .u64 1000, .int .u64 10000, .int .u64 100000, .int .u64 1000000, .int .u64 10000000, .int .u64 100000000, .int .u64 1000000000, .int .u64 10000000000, .int .u64 100000000000, .int .u64 1000000000000, .int .u64 10000000000000, .int .u64 100000000000000, .int .u64 1000000000000000, .int .u64 10000000000000000, .int .u64 100000000000000000, .int .u64 1000000000000000000, .int .u64 10000000000000000000])]
/-- The loops of code that stand in no other one. -/
def loopsOf : Code → List Code
  | .seq a b => loopsOf a ++ loopsOf b
  | .cond _ x y => loopsOf x ++ loopsOf y
  | .block _ c => loopsOf c
  | .scope c => loopsOf c
  | .loop c => [.loop c]
  | .rangeFunc f ps a b => [.rangeFunc f ps a b]
  | _ => []
/-- The ranges over functions of code, wherever they stand. -/
def rfsOf : Code → List Code
  | .seq a b => rfsOf a ++ rfsOf b
  | .cond _ x y => rfsOf x ++ rfsOf y
  | .block _ c => rfsOf c
  | .scope c => rfsOf c
  | .loop c => rfsOf c
  | .rangeFunc f ps a b => .rangeFunc f ps a b :: rfsOf b
  | _ => []
def rfOp : Code → Option Operand
  | .rangeFunc f _ _ _ => some f
  | _ => none
def rfBody : Code → Code
  | .rangeFunc _ _ _ b => b
  | _ => .skip
def isRf : Code → Bool
  | .rangeFunc _ _ _ _ => true
  | _ => false
/-- A range over a function of the program: the i-th of function g. -/
noncomputable def lcode (g i : Nat) : Code := match Tryd.prog.funcs[g]? with
  | some f => match f.body with
    | some c => (rfsOf c).getD i .skip
    | none => .skip
  | none => .skip
/-- The fence of a walk, in a round or not. -/
def Fr (r : Option Nat) : Fence := { Fence.wide with round := r }
end Go.Proofs.YtbidmbjkjpdgdaaDoor.Abs
