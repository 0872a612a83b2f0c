/- lotteryref28.Check: the same error as drum.Check. -/
import Derived.Test.YtnpnleapnbdllaaGamK
namespace Go.Proofs.Ytnpnleapnbdllaa
open Eng







end Go.Proofs.Ytnpnleapnbdllaa

