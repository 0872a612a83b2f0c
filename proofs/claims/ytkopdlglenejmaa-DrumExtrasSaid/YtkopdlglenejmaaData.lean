/- The data that the statements speak of, and how they lie in memory. -/
import Derived.Test.YtkopdlglenejmaaEngFn
namespace Go.Proofs.Ytkopdlglenejmaa
open Eng

structure Ball where
  wit : Int
  drum : Int
  num : Int
deriving DecidableEq

def Ball.enc (b : Ball) : List Value := [.int .i64 b.wit, .int .i64 b.drum, .int .i64 b.num]
def Ball.Ok (b : Ball) : Prop := (Lit.int .i64 b.wit).wf = true ∧ (Lit.int .i64 b.drum).wf = true ∧ (Lit.int .i64 b.num).wf = true
theorem Ball.enc_len (b : Ball) : b.enc.length = 3 := rfl

def intE (n : Int) : List Value := [.int .i64 n]
theorem intE_len (n : Int) : (intE n).length = 1 := rfl
end Go.Proofs.Ytkopdlglenejmaa
