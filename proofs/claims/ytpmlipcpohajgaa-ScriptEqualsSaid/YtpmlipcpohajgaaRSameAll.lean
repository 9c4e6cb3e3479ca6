/-
  The reference's Same; 'light'.
-/
import Derived.Test.YtpmlipcpohajgaaRSameA
import Derived.Test.YtpmlipcpohajgaaRSameB
import Derived.Test.YtpmlipcpohajgaaRSameC
import Derived.Test.YtpmlipcpohajgaaRSameD
import Derived.Test.YtpmlipcpohajgaaRSame
set_option linter.unusedSimpArgs false
set_option linter.unusedVariables false
namespace Go.Proofs.Ytpmlipcpohajgaa
open Go.RowKit

theorem same18_any (x y : DidC) (w : World) (hx : DidIs w x) (hy : DidIs w y) :
    Calls Try.prog 18 #[.agg #[.int .i64 x.sk, .int .i64 x.sc, .int .i64 x.sn, .slice x.dA x.sd.length x.dc, .int .i64 x.err, .int .i64 x.n, .slice x.sA x.sents.length x.sC, .slice x.mA x.moves.length x.mC, .int .i64 x.work, .int .u64 x.at_], .agg #[.int .i64 y.sk, .int .i64 y.sc, .int .i64 y.sn, .slice y.dA y.sd.length y.dc, .int .i64 y.err, .int .i64 y.n, .slice y.sA y.sents.length y.sC, .slice y.mA y.moves.length y.mC, .int .i64 y.work, .int .u64 y.at_]] w fun e w' => e = .returned (.bool (didEq x y)) ∧ Below w.heap.size w w' := by
  rcases e1 : (x.sk != y.sk) with _ | _
  case true => exact same18_f1 x y w hx hy e1
  rcases e2 : (x.sc != y.sc) with _ | _
  case true => exact same18_f2 x y w hx hy e1 e2
  rcases e3 : (x.sn != y.sn) with _ | _
  case true => exact same18_f3 x y w hx hy e1 e2 e3
  rcases e4 : (x.sd == y.sd) with _ | _
  case false => exact same18_f4 x y w hx hy e1 e2 e3 e4
  rcases e5 : (x.err != y.err) with _ | _
  case true => exact same18_f5 x y w hx hy e1 e2 e3 e4 e5
  rcases e6 : (x.n != y.n) with _ | _
  case true => exact same18_f6 x y w hx hy e1 e2 e3 e4 e5 e6
  rcases e7 : (x.work != y.work) with _ | _
  case true => exact same18_f7 x y w hx hy e1 e2 e3 e4 e5 e6 e7
  rcases e8 : (x.at_ != y.at_) with _ | _
  case true => exact same18_f8 x y w hx hy e1 e2 e3 e4 e5 e6 e7 e8
  rcases e9 : (x.sents.length != y.sents.length) with _ | _
  case true => exact same18_f9 x y w hx hy e1 e2 e3 e4 e5 e6 e7 e8 e9
  rcases e10 : (x.moves.length != y.moves.length) with _ | _
  case true => exact same18_f10 x y w hx hy e1 e2 e3 e4 e5 e6 e7 e8 e9 e10
  exact same18_t x y w hx hy e1 e2 e3 e4 e5 e6 e7 e8 e9 e10
end Go.Proofs.Ytpmlipcpohajgaa
