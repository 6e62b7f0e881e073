/- Parts of the proof: lemmas, and the steps through the program. -/
import Derived.Test.YtihpdjpbhinckaaGreatCk3
set_option linter.unusedVariables false
set_option linter.unusedSimpArgs false
set_option maxRecDepth 100000
set_option maxHeartbeats 2000000
namespace Go.Proofs.YtihpdjpbhinckaaGreat
open Go.SX Go.SW Go.BX
theorem kp4 : seg Tryz.prog 1000000 (sqL (sqR (sqR (sqR (sqR (sqB Tryz.f4)))))) (mkT [1] [.sl 0 0 4 4]) 148 (mkT [0] [.cells [.int .i64 1, .int .i64 0, .int .i64 0, .int .i64 0] 3 0]) 4080 [1, 3, 4] [0, 8149] = some ([.sl 0 0 4 4, .int .i64 0, .so 8149 0 2 1], [.cells [.int .i64 1, .int .i64 0, .int .i64 0, .int .i64 0] 3 0, .cells [.int .i64 1, .int .i64 2] 3 1], 8156) := by kernel_rfl
end Go.Proofs.YtihpdjpbhinckaaGreat
