/- Parts of the proof: lemmas, and the steps through the program. -/
import Derived.Test.YtihpdjpbhinckaaGreatCk9
set_option linter.unusedVariables false
set_option linter.unusedSimpArgs false
set_option maxRecDepth 100000
set_option maxHeartbeats 2000000
namespace Go.Proofs.YtihpdjpbhinckaaGreat
open Go.SX Go.SW Go.BX
theorem kp5c : CB Tryz.prog 9 [.agg [.so 8310 0 1 1, .so 8463 0 11 4, .so 8357 0 1 3, .int .i64 0], .sl 0 0 4 4, .sl 8475 0 4 4] (mkT [0, 8149, 8310, 8463, 8473, 8402, 8471, 8426, 8469, 8441, 8467, 8465, 8357, 8382, 8415, 8406, 8391, 8475] [.cells [.int .i64 1, .int .i64 0, .int .i64 0, .int .i64 0] 3 0, .cells [.int .i64 1, .int .i64 2] 3 1, .cells [.str ⟨#[111, 117, 116]⟩] 9 1, .cells [.int .i64 4, .int .i64 0, .nils, .so 8473 0 1 1, .int .i64 2, .int .i64 0, .so 8402 0 1 3, .nils, .int .i64 7, .int .i64 0, .nils, .nils, .int .i64 3, .int .i64 0, .nils, .so 8471 0 2 1, .int .i64 2, .int .i64 1, .so 8426 0 1 3, .nils, .int .i64 3, .int .i64 0, .nils, .so 8469 0 2 1, .int .i64 2, .int .i64 1, .so 8441 0 1 3, .nils, .int .i64 3, .int .i64 0, .nils, .so 8467 0 2 1, .int .i64 2, .int .i64 2, .nils, .nils, .int .i64 8, .int .i64 3, .nils, .so 8465 0 1 1, .int .i64 2, .int .i64 2, .nils, .nils] 153 4, .cells [.int .i64 3] 3 1, .cells [.int .i64 2, .int .i64 4, .nils] 156 3, .cells [.int .i64 4, .int .i64 5] 3 1, .cells [.int .i64 1, .int .i64 1, .nils] 156 3, .cells [.int .i64 6, .int .i64 7] 3 1, .cells [.int .i64 1, .int .i64 2, .nils] 156 3, .cells [.int .i64 8, .int .i64 9] 3 1, .cells [.int .i64 10] 3 1, .cells [.so 8382 0 2 2, .so 8415 0 1 2, .so 8406 0 1 3] 170 3, .cells [.int .i64 0, .int .i64 1, .int .i64 0, .int .i64 0] 233 2, .cells [.int .i64 0, .int .i64 2] 206 2, .cells [.int .i64 0, .so 8391 0 2 1, .int .i64 1] 162 3, .cells [.int .i64 0, .int .i64 1] 3 1, .cells [.int .i64 1, .int .i64 2, .int .i64 3, .int .i64 0] 3 0]) 8476 (.tup [.so 13568 0 4 1, .int .i64 0]) (mkT [13568, 0, 8149, 8310, 8463, 8473, 8402, 8471, 8426, 8469, 8441, 8467, 8465, 8357, 8382, 8415, 8406, 8391, 8475] [.cells [.int .i64 0, .int .i64 0, .int .i64 3, .int .i64 0] 3 1, .cells [.int .i64 1, .int .i64 0, .int .i64 0, .int .i64 0] 3 0, .cells [.int .i64 1, .int .i64 2] 3 1, .cells [.str ⟨#[111, 117, 116]⟩] 9 1, .cells [.int .i64 4, .int .i64 0, .nils, .so 8473 0 1 1, .int .i64 2, .int .i64 0, .so 8402 0 1 3, .nils, .int .i64 7, .int .i64 0, .nils, .nils, .int .i64 3, .int .i64 0, .nils, .so 8471 0 2 1, .int .i64 2, .int .i64 1, .so 8426 0 1 3, .nils, .int .i64 3, .int .i64 0, .nils, .so 8469 0 2 1, .int .i64 2, .int .i64 1, .so 8441 0 1 3, .nils, .int .i64 3, .int .i64 0, .nils, .so 8467 0 2 1, .int .i64 2, .int .i64 2, .nils, .nils, .int .i64 8, .int .i64 3, .nils, .so 8465 0 1 1, .int .i64 2, .int .i64 2, .nils, .nils] 153 4, .cells [.int .i64 3] 3 1, .cells [.int .i64 2, .int .i64 4, .nils] 156 3, .cells [.int .i64 4, .int .i64 5] 3 1, .cells [.int .i64 1, .int .i64 1, .nils] 156 3, .cells [.int .i64 6, .int .i64 7] 3 1, .cells [.int .i64 1, .int .i64 2, .nils] 156 3, .cells [.int .i64 8, .int .i64 9] 3 1, .cells [.int .i64 10] 3 1, .cells [.so 8382 0 2 2, .so 8415 0 1 2, .so 8406 0 1 3] 170 3, .cells [.int .i64 0, .int .i64 1, .int .i64 0, .int .i64 0] 233 2, .cells [.int .i64 0, .int .i64 2] 206 2, .cells [.int .i64 0, .so 8391 0 2 1, .int .i64 1] 162 3, .cells [.int .i64 0, .int .i64 1] 3 1, .cells [.int .i64 1, .int .i64 2, .int .i64 3, .int .i64 0] 3 0]) 13903 1000000000 := CB_of (ts := [0, 1, 2]) Tryz.func9 rfl Tryz.ntmps9 (by kernel_rfl : SX.callB Tryz.prog 9 = true) rfl rfl fun g ρ0 hg => bN aR kp5c0 hg rfl (bN aR kp5c1 hg rfl (bN aR kp5c2 hg rfl (bN aR kp5c3 hg rfl (bN aR kp5c4 hg rfl (bN aR kp5c5 hg rfl (bN aR kp5c6 hg rfl (bN aR kp5c7 hg rfl (TC_ret (mU rfl rfl rfl)))))))))
theorem kp7c : CB Tryz.prog 10 [.agg [.so 18134 0 1 1, .so 18287 0 11 4, .so 18181 0 1 3, .int .i64 0], .sl 0 0 4 4, .int .i64 1] (mkT [0, 8149, 13568, 18134, 18287, 18297, 18226, 18295, 18250, 18293, 18265, 18291, 18289, 18181, 18206, 18239, 18230, 18215] [.cells [.int .i64 1, .int .i64 0, .int .i64 0, .int .i64 0] 3 0, .cells [.int .i64 1, .int .i64 2] 3 1, .cells [.int .i64 0, .int .i64 0, .int .i64 3, .int .i64 0] 3 1, .cells [.str ⟨#[111, 117, 116]⟩] 9 1, .cells [.int .i64 4, .int .i64 0, .nils, .so 18297 0 1 1, .int .i64 2, .int .i64 0, .so 18226 0 1 3, .nils, .int .i64 7, .int .i64 0, .nils, .nils, .int .i64 3, .int .i64 0, .nils, .so 18295 0 2 1, .int .i64 2, .int .i64 1, .so 18250 0 1 3, .nils, .int .i64 3, .int .i64 0, .nils, .so 18293 0 2 1, .int .i64 2, .int .i64 1, .so 18265 0 1 3, .nils, .int .i64 3, .int .i64 0, .nils, .so 18291 0 2 1, .int .i64 2, .int .i64 2, .nils, .nils, .int .i64 8, .int .i64 3, .nils, .so 18289 0 1 1, .int .i64 2, .int .i64 2, .nils, .nils] 153 4, .cells [.int .i64 3] 3 1, .cells [.int .i64 2, .int .i64 4, .nils] 156 3, .cells [.int .i64 4, .int .i64 5] 3 1, .cells [.int .i64 1, .int .i64 1, .nils] 156 3, .cells [.int .i64 6, .int .i64 7] 3 1, .cells [.int .i64 1, .int .i64 2, .nils] 156 3, .cells [.int .i64 8, .int .i64 9] 3 1, .cells [.int .i64 10] 3 1, .cells [.so 18206 0 2 2, .so 18239 0 1 2, .so 18230 0 1 3] 170 3, .cells [.int .i64 0, .int .i64 1, .int .i64 0, .int .i64 0] 233 2, .cells [.int .i64 0, .int .i64 2] 206 2, .cells [.int .i64 0, .so 18215 0 2 1, .int .i64 1] 162 3, .cells [.int .i64 0, .int .i64 1] 3 1]) 18299 (.tup [.so 22327 0 1 1, .int .i64 0]) (mkT [22327, 0, 8149, 13568, 18134, 18287, 18297, 18226, 18295, 18250, 18293, 18265, 18291, 18289, 18181, 18206, 18239, 18230, 18215] [.cells [.int .i64 1] 3 1, .cells [.int .i64 1, .int .i64 0, .int .i64 0, .int .i64 0] 3 0, .cells [.int .i64 1, .int .i64 2] 3 1, .cells [.int .i64 0, .int .i64 0, .int .i64 3, .int .i64 0] 3 1, .cells [.str ⟨#[111, 117, 116]⟩] 9 1, .cells [.int .i64 4, .int .i64 0, .nils, .so 18297 0 1 1, .int .i64 2, .int .i64 0, .so 18226 0 1 3, .nils, .int .i64 7, .int .i64 0, .nils, .nils, .int .i64 3, .int .i64 0, .nils, .so 18295 0 2 1, .int .i64 2, .int .i64 1, .so 18250 0 1 3, .nils, .int .i64 3, .int .i64 0, .nils, .so 18293 0 2 1, .int .i64 2, .int .i64 1, .so 18265 0 1 3, .nils, .int .i64 3, .int .i64 0, .nils, .so 18291 0 2 1, .int .i64 2, .int .i64 2, .nils, .nils, .int .i64 8, .int .i64 3, .nils, .so 18289 0 1 1, .int .i64 2, .int .i64 2, .nils, .nils] 153 4, .cells [.int .i64 3] 3 1, .cells [.int .i64 2, .int .i64 4, .nils] 156 3, .cells [.int .i64 4, .int .i64 5] 3 1, .cells [.int .i64 1, .int .i64 1, .nils] 156 3, .cells [.int .i64 6, .int .i64 7] 3 1, .cells [.int .i64 1, .int .i64 2, .nils] 156 3, .cells [.int .i64 8, .int .i64 9] 3 1, .cells [.int .i64 10] 3 1, .cells [.so 18206 0 2 2, .so 18239 0 1 2, .so 18230 0 1 3] 170 3, .cells [.int .i64 0, .int .i64 1, .int .i64 0, .int .i64 0] 233 2, .cells [.int .i64 0, .int .i64 2] 206 2, .cells [.int .i64 0, .so 18215 0 2 1, .int .i64 1] 162 3, .cells [.int .i64 0, .int .i64 1] 3 1]) 22759 1000000000 := CB_of (ts := [0, 1, 2]) Tryz.func10 rfl Tryz.ntmps10 (by kernel_rfl : SX.callB Tryz.prog 10 = true) rfl rfl fun g ρ0 hg => bN aR kp7c0 hg rfl (bN aR kp7c1 hg rfl (bN aR kp7c2 hg rfl (bN aR kp7c3 hg rfl (bN aR kp7c4 hg rfl (bN aR kp7c5 hg rfl (TC_ret (mU rfl rfl rfl)))))))
def mM : Option Bool := some true
theorem pI (r : Bool) (H : mM = some r) : FnS Tryz.prog 4 [] [] (gC r) (fun _ => []) := by
 cases H
 refine FnS_of Tryz.func4 rfl Tryz.ntmps4 rfl (fun β => ?_)
 refine TB_start (hi := 1000000000) ?_
 refine dF aR kp0 rfl ?_
 refine dF aR kp1 rfl ?_
 refine dF aR kp2 rfl ?_
 refine dF aR kp3 rfl ?_
 refine dF aR kp4 rfl ?_
 refine TB_TC (fun g hg k => lW (jD aR 3 kp5a hg rfl (iD (l' := _ :: _) rfl (mY rfl rfl rfl rfl rfl hg kp5c (jD aR 99 kp5z hg rfl (iD (l' := []) rfl (TC_nil k))))))) ?_
 refine dF aR kp6 rfl ?_
 refine TB_TC (fun g hg k => lW (jD aR 2 kp7a hg rfl (iD (l' := _ :: _) rfl (mY rfl rfl rfl rfl rfl hg kp7c (jD aR 99 kp7z hg rfl (iD (l' := []) rfl (TC_nil k))))))) ?_
 refine dF aR kp8 rfl ?_
 refine dF aR kp9 rfl ?_
 refine TB_end [(0, .bool true)] (fun p hp => by
  obtain rfl := List.mem_singleton.1 hp
  rfl) ?_
 refine T_retc ?_
 exact T_out1 rfl (hasS rfl) rfl
open Go.SX Go.SW
def kZ  : Option (Bool) :=
 (mM).bind fun y1 =>
 some y1
theorem pL (r : Bool) (H : kZ = some r) : FnS Tryz.prog 3 [] [] (gC r) (fun _ => []) := by
 unfold kZ at H
 refine FnS_of Tryz.func3 rfl Tryz.ntmps3 rfl (fun β => ?_)
 refine T_seq ?_
 refine mH ?_
 refine T_y trivial rfl rfl (lP rfl (has rfl)) ?_
 refine T_nil ?_
 refine mF ?_
 refine T_seq ?_
 refine mH ?_
 have H0 := H; clear H; obtain ⟨y1, h1, H⟩ := bind_some H0; clear H0
 refine T_call trivial rfl rfl rfl (has rfl) bA.nil rfl (by kernel_rfl : callB Tryz.prog 4 = true) (pI y1 h1) rfl ?_
 refine T_y trivial rfl rfl (lP rfl (has rfl)) ?_
 refine T_nil ?_
 refine mF ?_
 refine T_retc ?_
 have hr := Option.some.inj H; subst hr
 exact T_out1 rfl (hasS rfl) rfl
end Go.Proofs.YtihpdjpbhinckaaGreat
