/- Parts of the proof: lemmas, and the steps through the program. -/
import Derived.Test.YtihpdjpbhinckaaGreatCk6
set_option linter.unusedVariables false
set_option linter.unusedSimpArgs false
set_option maxRecDepth 100000
set_option maxHeartbeats 2000000
namespace Go.Proofs.YtihpdjpbhinckaaGreat
open Go.SX Go.SW Go.BX
theorem kp6 : seg Tryz.prog 1000000 (sqL (sqR (sqR (sqR (sqR (sqR (sqR (sqB Tryz.f4)))))))) (mkT [1, 3, 4, 5, 6] [.sl 0 0 4 4, .int .i64 0, .so 8149 0 2 1, .so 13568 0 4 1, .int .i64 0]) 148 (mkT [0, 8149, 13568] [.cells [.int .i64 1, .int .i64 0, .int .i64 0, .int .i64 0] 3 0, .cells [.int .i64 1, .int .i64 2] 3 1, .cells [.int .i64 0, .int .i64 0, .int .i64 3, .int .i64 0] 3 1]) 13903 [1, 3, 4, 5, 6, 8] [0, 8149, 13568] = some ([.sl 0 0 4 4, .int .i64 0, .so 8149 0 2 1, .so 13568 0 4 1, .int .i64 0, .int .i64 7], [.cells [.int .i64 1, .int .i64 0, .int .i64 0, .int .i64 0] 3 0, .cells [.int .i64 1, .int .i64 2] 3 1, .cells [.int .i64 0, .int .i64 0, .int .i64 3, .int .i64 0] 3 1], 17980) := by kernel_rfl
end Go.Proofs.YtihpdjpbhinckaaGreat
