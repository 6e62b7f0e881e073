/- Parts of the proof: lemmas, and the steps through the program. -/
import Derived.Test.YtihpdjpbhinckaaGreatCk8
set_option linter.unusedVariables false
set_option linter.unusedSimpArgs false
set_option maxRecDepth 100000
set_option maxHeartbeats 2000000
namespace Go.Proofs.YtihpdjpbhinckaaGreat
open Go.SX Go.SW Go.BX
theorem kp8 : seg Tryz.prog 1000000 (sqL (sqR (sqR (sqR (sqR (sqR (sqR (sqR (sqR (sqB Tryz.f4)))))))))) (mkT [1, 3, 4, 5, 6, 8, 9, 10] [.sl 0 0 4 4, .int .i64 0, .so 8149 0 2 1, .so 13568 0 4 1, .int .i64 0, .int .i64 7, .so 22327 0 1 1, .int .i64 0]) 148 (mkT [0, 8149, 13568, 22327] [.cells [.int .i64 1, .int .i64 0, .int .i64 0, .int .i64 0] 3 0, .cells [.int .i64 1, .int .i64 2] 3 1, .cells [.int .i64 0, .int .i64 0, .int .i64 3, .int .i64 0] 3 1, .cells [.int .i64 1] 3 1]) 22759 [3, 4, 5, 6, 8, 9, 10, 11, 12] [8149, 13568, 22327, 26845] = some ([.int .i64 0, .so 8149 0 2 1, .so 13568 0 4 1, .int .i64 0, .int .i64 7, .so 22327 0 1 1, .int .i64 0, .so 26845 0 4 1, .int .i64 0], [.cells [.int .i64 1, .int .i64 2] 3 1, .cells [.int .i64 0, .int .i64 0, .int .i64 3, .int .i64 0] 3 1, .cells [.int .i64 1] 3 1, .cells [.int .i64 0, .int .i64 0, .int .i64 1, .int .i64 2] 3 1], 26846) := by kernel_rfl
end Go.Proofs.YtihpdjpbhinckaaGreat
