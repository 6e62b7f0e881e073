/-
  NARROWER THAN 'FOR EVERY INPUT', by the rows' own cells (each row's printed sentence says how): FlatChecks: loops · FlatFlats: loops · FlatOpens: loops · FlatBack: loops · FlatLeast: loops · FlatSols: loops · FlatHolds: loops · FlatRuns: loops · FlatAny: loops · FlatSteps: loops.
  DERIVED. THE GIVEN ROWS OF THIS SEAT. 10 by the template 'for every input the law returns true; each argument reads behind the call as it read before'; 0 by the template 'total and deterministic' (their statements: YtpgkejpnhnoipaaGreatTotals.lean).
  GIVEN WITH THE SEED: the statements are not yours to turn. If you find one false, say at which input.
  Laid BY PROGRAM, IN A SANDBOX (cutbox-rows.mjs): the forced cells as the released guide's own fill.sh prints them over the translation e40368c90f17d5d8… (all of the seat's roots in one cut). By AI agents, Wed Nov 11 2026. No macro, syntax, notation, axiom, sorry.
-/
import Derived.Test.YtpgkejpnhnoipaaGreatChecked
import GoSem.Claim
import GoSem.ClaimJoined
import GoSem.ClaimMapViews
import Derived.JoinedTies
import Derived.KernelRfl
namespace Go.Proofs.YtpgkejpnhnoipaaGreat
/- THE CELL 'sum', in the pinned program and in every row, IS THE sha256 OF THE DUMP (.gsa) THAT YtpgkejpnhnoipaaGreatProg.lean LOADS. Nothing in Lean hashes anything: it is a label: what it is worth is what the hold of that sum in a sandbox is worth. -/
noncomputable def Tryz.pinned : Pinned := { name := "ytpgkejpnhnoipaagreat", sum := "e40368c90f17d5d882965ebd554797346f60a46ff071ddb680b731ac618c59e5", checked := Tryz.checked }
namespace Rows
def none {H : Type} : Left H := { results := [], args := [] }

/-- 'cabotagelaw07.FlatChecks': WHATEVER THE INPUT: true; the input reads as it did. -/
def flatChecksSpec : ChangeSpec := { name := "flatChecks", fn := fun _ => fun
  | [d] => { results := [.lit (.bool true)], args := [d] }
  | _ => none }
def flatChecksRow : OpenClaim := { program := "ytpgkejpnhnoipaagreat", sum := "e40368c90f17d5d882965ebd554797346f60a46ff071ddb680b731ac618c59e5", func := "cabotage/cabotagelaw07.FlatChecks", spec := "flatChecks", unfollowed := true, recurses := true, loops := true, apart := false }
def FlatChecksSaid : Prop := flatChecksRow.holds Tryz.pinned (OpenSpec.ofChange flatChecksSpec)

/-- ITS FALSE NEIGHBOUR: 'it returns false'. Refute it at one input. -/
def flatChecksWrong : ChangeSpec := { name := "flatChecks", fn := fun _ => fun
  | [d] => { results := [.lit (.bool false)], args := [d] }
  | _ => none }
def FlatChecksWrongFalsely : Prop := flatChecksRow.holds Tryz.pinned (OpenSpec.ofChange flatChecksWrong)

/-- 'cabotagelaw07.FlatFlats': WHATEVER THE INPUT: true; the input reads as it did. -/
def flatFlatsSpec : ChangeSpec := { name := "flatFlats", fn := fun _ => fun
  | [d] => { results := [.lit (.bool true)], args := [d] }
  | _ => none }
def flatFlatsRow : OpenClaim := { program := "ytpgkejpnhnoipaagreat", sum := "e40368c90f17d5d882965ebd554797346f60a46ff071ddb680b731ac618c59e5", func := "cabotage/cabotagelaw07.FlatFlats", spec := "flatFlats", unfollowed := true, recurses := true, loops := true, apart := false }
def FlatFlatsSaid : Prop := flatFlatsRow.holds Tryz.pinned (OpenSpec.ofChange flatFlatsSpec)

/-- ITS FALSE NEIGHBOUR: 'it returns false'. Refute it at one input. -/
def flatFlatsWrong : ChangeSpec := { name := "flatFlats", fn := fun _ => fun
  | [d] => { results := [.lit (.bool false)], args := [d] }
  | _ => none }
def FlatFlatsWrongFalsely : Prop := flatFlatsRow.holds Tryz.pinned (OpenSpec.ofChange flatFlatsWrong)

/-- 'cabotagelaw07.FlatOpens': WHATEVER THE INPUT: true; the input reads as it did. -/
def flatOpensSpec : ChangeSpec := { name := "flatOpens", fn := fun _ => fun
  | [d] => { results := [.lit (.bool true)], args := [d] }
  | _ => none }
def flatOpensRow : OpenClaim := { program := "ytpgkejpnhnoipaagreat", sum := "e40368c90f17d5d882965ebd554797346f60a46ff071ddb680b731ac618c59e5", func := "cabotage/cabotagelaw07.FlatOpens", spec := "flatOpens", unfollowed := true, recurses := true, loops := true, apart := false }
def FlatOpensSaid : Prop := flatOpensRow.holds Tryz.pinned (OpenSpec.ofChange flatOpensSpec)

/-- ITS FALSE NEIGHBOUR: 'it returns false'. Refute it at one input. -/
def flatOpensWrong : ChangeSpec := { name := "flatOpens", fn := fun _ => fun
  | [d] => { results := [.lit (.bool false)], args := [d] }
  | _ => none }
def FlatOpensWrongFalsely : Prop := flatOpensRow.holds Tryz.pinned (OpenSpec.ofChange flatOpensWrong)

/-- 'cabotagelaw07.FlatBack': WHATEVER THE INPUT: true; the input reads as it did. -/
def flatBackSpec : ChangeSpec := { name := "flatBack", fn := fun _ => fun
  | [d] => { results := [.lit (.bool true)], args := [d] }
  | _ => none }
def flatBackRow : OpenClaim := { program := "ytpgkejpnhnoipaagreat", sum := "e40368c90f17d5d882965ebd554797346f60a46ff071ddb680b731ac618c59e5", func := "cabotage/cabotagelaw07.FlatBack", spec := "flatBack", unfollowed := true, recurses := true, loops := true, apart := false }
def FlatBackSaid : Prop := flatBackRow.holds Tryz.pinned (OpenSpec.ofChange flatBackSpec)

/-- ITS FALSE NEIGHBOUR: 'it returns false'. Refute it at one input. -/
def flatBackWrong : ChangeSpec := { name := "flatBack", fn := fun _ => fun
  | [d] => { results := [.lit (.bool false)], args := [d] }
  | _ => none }
def FlatBackWrongFalsely : Prop := flatBackRow.holds Tryz.pinned (OpenSpec.ofChange flatBackWrong)

/-- 'cabotagelaw07.FlatLeast': WHATEVER THE INPUT: true; the input reads as it did. -/
def flatLeastSpec : ChangeSpec := { name := "flatLeast", fn := fun _ => fun
  | [d] => { results := [.lit (.bool true)], args := [d] }
  | _ => none }
def flatLeastRow : OpenClaim := { program := "ytpgkejpnhnoipaagreat", sum := "e40368c90f17d5d882965ebd554797346f60a46ff071ddb680b731ac618c59e5", func := "cabotage/cabotagelaw07.FlatLeast", spec := "flatLeast", unfollowed := true, recurses := true, loops := true, apart := false }
def FlatLeastSaid : Prop := flatLeastRow.holds Tryz.pinned (OpenSpec.ofChange flatLeastSpec)

/-- ITS FALSE NEIGHBOUR: 'it returns false'. Refute it at one input. -/
def flatLeastWrong : ChangeSpec := { name := "flatLeast", fn := fun _ => fun
  | [d] => { results := [.lit (.bool false)], args := [d] }
  | _ => none }
def FlatLeastWrongFalsely : Prop := flatLeastRow.holds Tryz.pinned (OpenSpec.ofChange flatLeastWrong)

/-- 'cabotagelaw07.FlatSols': WHATEVER THE INPUT: true; the input reads as it did. -/
def flatSolsSpec : ChangeSpec := { name := "flatSols", fn := fun _ => fun
  | [d1, d2] => { results := [.lit (.bool true)], args := [d1, d2] }
  | _ => none }
def flatSolsRow : OpenClaim := { program := "ytpgkejpnhnoipaagreat", sum := "e40368c90f17d5d882965ebd554797346f60a46ff071ddb680b731ac618c59e5", func := "cabotage/cabotagelaw07.FlatSols", spec := "flatSols", unfollowed := true, recurses := true, loops := true, apart := false }
def FlatSolsSaid : Prop := flatSolsRow.holds Tryz.pinned (OpenSpec.ofChange flatSolsSpec)

/-- ITS FALSE NEIGHBOUR: 'it returns false'. Refute it at one input. -/
def flatSolsWrong : ChangeSpec := { name := "flatSols", fn := fun _ => fun
  | [d1, d2] => { results := [.lit (.bool false)], args := [d1, d2] }
  | _ => none }
def FlatSolsWrongFalsely : Prop := flatSolsRow.holds Tryz.pinned (OpenSpec.ofChange flatSolsWrong)

/-- 'cabotagelaw07.FlatHolds': WHATEVER THE INPUT: true; the input reads as it did. -/
def flatHoldsSpec : ChangeSpec := { name := "flatHolds", fn := fun _ => fun
  | [d1, d2] => { results := [.lit (.bool true)], args := [d1, d2] }
  | _ => none }
def flatHoldsRow : OpenClaim := { program := "ytpgkejpnhnoipaagreat", sum := "e40368c90f17d5d882965ebd554797346f60a46ff071ddb680b731ac618c59e5", func := "cabotage/cabotagelaw07.FlatHolds", spec := "flatHolds", unfollowed := true, recurses := true, loops := true, apart := false }
def FlatHoldsSaid : Prop := flatHoldsRow.holds Tryz.pinned (OpenSpec.ofChange flatHoldsSpec)

/-- ITS FALSE NEIGHBOUR: 'it returns false'. Refute it at one input. -/
def flatHoldsWrong : ChangeSpec := { name := "flatHolds", fn := fun _ => fun
  | [d1, d2] => { results := [.lit (.bool false)], args := [d1, d2] }
  | _ => none }
def FlatHoldsWrongFalsely : Prop := flatHoldsRow.holds Tryz.pinned (OpenSpec.ofChange flatHoldsWrong)

/-- 'cabotagelaw07.FlatRuns': WHATEVER THE INPUT: true; the input reads as it did. -/
def flatRunsSpec : ChangeSpec := { name := "flatRuns", fn := fun _ => fun
  | [d1, d2] => { results := [.lit (.bool true)], args := [d1, d2] }
  | _ => none }
def flatRunsRow : OpenClaim := { program := "ytpgkejpnhnoipaagreat", sum := "e40368c90f17d5d882965ebd554797346f60a46ff071ddb680b731ac618c59e5", func := "cabotage/cabotagelaw07.FlatRuns", spec := "flatRuns", unfollowed := true, recurses := true, loops := true, apart := false }
def FlatRunsSaid : Prop := flatRunsRow.holds Tryz.pinned (OpenSpec.ofChange flatRunsSpec)

/-- ITS FALSE NEIGHBOUR: 'it returns false'. Refute it at one input. -/
def flatRunsWrong : ChangeSpec := { name := "flatRuns", fn := fun _ => fun
  | [d1, d2] => { results := [.lit (.bool false)], args := [d1, d2] }
  | _ => none }
def FlatRunsWrongFalsely : Prop := flatRunsRow.holds Tryz.pinned (OpenSpec.ofChange flatRunsWrong)

/-- 'cabotagelaw07.FlatAny': WHATEVER THE INPUT: true; the input reads as it did. -/
def flatAnySpec : ChangeSpec := { name := "flatAny", fn := fun _ => fun
  | [d1, d2, d3] => { results := [.lit (.bool true)], args := [d1, d2, d3] }
  | _ => none }
def flatAnyRow : OpenClaim := { program := "ytpgkejpnhnoipaagreat", sum := "e40368c90f17d5d882965ebd554797346f60a46ff071ddb680b731ac618c59e5", func := "cabotage/cabotagelaw07.FlatAny", spec := "flatAny", unfollowed := true, recurses := true, loops := true, apart := false }
def FlatAnySaid : Prop := flatAnyRow.holds Tryz.pinned (OpenSpec.ofChange flatAnySpec)

/-- ITS FALSE NEIGHBOUR: 'it returns false'. Refute it at one input. -/
def flatAnyWrong : ChangeSpec := { name := "flatAny", fn := fun _ => fun
  | [d1, d2, d3] => { results := [.lit (.bool false)], args := [d1, d2, d3] }
  | _ => none }
def FlatAnyWrongFalsely : Prop := flatAnyRow.holds Tryz.pinned (OpenSpec.ofChange flatAnyWrong)

/-- 'cabotagelaw07.FlatSteps': WHATEVER THE INPUT: true; the input reads as it did. -/
def flatStepsSpec : ChangeSpec := { name := "flatSteps", fn := fun _ => fun
  | [d1, d2, d3] => { results := [.lit (.bool true)], args := [d1, d2, d3] }
  | _ => none }
def flatStepsRow : OpenClaim := { program := "ytpgkejpnhnoipaagreat", sum := "e40368c90f17d5d882965ebd554797346f60a46ff071ddb680b731ac618c59e5", func := "cabotage/cabotagelaw07.FlatSteps", spec := "flatSteps", unfollowed := true, recurses := true, loops := true, apart := false }
def FlatStepsSaid : Prop := flatStepsRow.holds Tryz.pinned (OpenSpec.ofChange flatStepsSpec)

/-- ITS FALSE NEIGHBOUR: 'it returns false'. Refute it at one input. -/
def flatStepsWrong : ChangeSpec := { name := "flatSteps", fn := fun _ => fun
  | [d1, d2, d3] => { results := [.lit (.bool false)], args := [d1, d2, d3] }
  | _ => none }
def FlatStepsWrongFalsely : Prop := flatStepsRow.holds Tryz.pinned (OpenSpec.ofChange flatStepsWrong)

/- THE SECOND FORM. 'bulk': how many values and letters a reading holds, each counted each time it is reached (what is shared counts as often as it is met; a slice's spare places count too). A statement '..UptoSaid' is the law's where the arguments, and the package variables that the reading takes, are together of bulk at most 1048576: NARROWER than '..Said'. Prove '..Said' where nothing that the law and all that it calls make is longer than what came in: it says more and counts as full. Else prove '..UptoSaid'. A law counts once. -/
mutual
def uptoBulk {H : Type} : DataW H → Nat
  | .lit (.string bytes) => bytes.length + 1
  | .lit _ => 1
  | .nil => 1
  | .ptr d => uptoBulk d + 1
  | .slice elems spare => uptoBulkAll elems + uptoBulkAll spare + 1
  | .agg parts => uptoBulkAll parts + 1
  | .iface _ d => uptoBulk d + 1
  | .map entries => uptoBulkEntries entries + 1
  | .held _ => 1
def uptoBulkAll {H : Type} : List (DataW H) → Nat
  | [] => 0
  | d :: r => uptoBulk d + uptoBulkAll r
def uptoBulkEntries {H : Type} : List (Lit × DataW H) → Nat
  | [] => 0
  | x :: r => uptoBulkEntry x + uptoBulkEntries r
def uptoBulkEntry {H : Type} : Lit × DataW H → Nat
  | (.string bytes, d) => bytes.length + uptoBulk d + 1
  | (_, d) => uptoBulk d + 1
 end
def uptoSmall : (H : Type) → List (DataW H) → Bool := fun _ ds => decide (uptoBulkAll ds ≤ 1048576)
def OpenSpec.upto (s : _root_.Go.ChangeSpec) : _root_.Go.OpenSpec := { _root_.Go.OpenSpec.ofChange s with cond := some uptoSmall }

/-- 'cabotagelaw07.FlatChecks', WHERE WHAT IT READS IS OF BULK AT MOST 1048576: true; the input reads as it did. -/
def flatChecksUptoRow : OpenClaim := { program := "ytpgkejpnhnoipaagreat", sum := "e40368c90f17d5d882965ebd554797346f60a46ff071ddb680b731ac618c59e5", func := "cabotage/cabotagelaw07.FlatChecks", spec := "flatChecks", unfollowed := true, recurses := true, loops := true, apart := false, narrowed := true }
def FlatChecksUptoSaid : Prop := flatChecksUptoRow.holds Tryz.pinned (OpenSpec.upto flatChecksSpec)

/-- 'cabotagelaw07.FlatFlats', WHERE WHAT IT READS IS OF BULK AT MOST 1048576: true; the input reads as it did. -/
def flatFlatsUptoRow : OpenClaim := { program := "ytpgkejpnhnoipaagreat", sum := "e40368c90f17d5d882965ebd554797346f60a46ff071ddb680b731ac618c59e5", func := "cabotage/cabotagelaw07.FlatFlats", spec := "flatFlats", unfollowed := true, recurses := true, loops := true, apart := false, narrowed := true }
def FlatFlatsUptoSaid : Prop := flatFlatsUptoRow.holds Tryz.pinned (OpenSpec.upto flatFlatsSpec)

/-- 'cabotagelaw07.FlatOpens', WHERE WHAT IT READS IS OF BULK AT MOST 1048576: true; the input reads as it did. -/
def flatOpensUptoRow : OpenClaim := { program := "ytpgkejpnhnoipaagreat", sum := "e40368c90f17d5d882965ebd554797346f60a46ff071ddb680b731ac618c59e5", func := "cabotage/cabotagelaw07.FlatOpens", spec := "flatOpens", unfollowed := true, recurses := true, loops := true, apart := false, narrowed := true }
def FlatOpensUptoSaid : Prop := flatOpensUptoRow.holds Tryz.pinned (OpenSpec.upto flatOpensSpec)

/-- 'cabotagelaw07.FlatBack', WHERE WHAT IT READS IS OF BULK AT MOST 1048576: true; the input reads as it did. -/
def flatBackUptoRow : OpenClaim := { program := "ytpgkejpnhnoipaagreat", sum := "e40368c90f17d5d882965ebd554797346f60a46ff071ddb680b731ac618c59e5", func := "cabotage/cabotagelaw07.FlatBack", spec := "flatBack", unfollowed := true, recurses := true, loops := true, apart := false, narrowed := true }
def FlatBackUptoSaid : Prop := flatBackUptoRow.holds Tryz.pinned (OpenSpec.upto flatBackSpec)

/-- 'cabotagelaw07.FlatLeast', WHERE WHAT IT READS IS OF BULK AT MOST 1048576: true; the input reads as it did. -/
def flatLeastUptoRow : OpenClaim := { program := "ytpgkejpnhnoipaagreat", sum := "e40368c90f17d5d882965ebd554797346f60a46ff071ddb680b731ac618c59e5", func := "cabotage/cabotagelaw07.FlatLeast", spec := "flatLeast", unfollowed := true, recurses := true, loops := true, apart := false, narrowed := true }
def FlatLeastUptoSaid : Prop := flatLeastUptoRow.holds Tryz.pinned (OpenSpec.upto flatLeastSpec)

/-- 'cabotagelaw07.FlatSols', WHERE WHAT IT READS IS OF BULK AT MOST 1048576: true; the input reads as it did. -/
def flatSolsUptoRow : OpenClaim := { program := "ytpgkejpnhnoipaagreat", sum := "e40368c90f17d5d882965ebd554797346f60a46ff071ddb680b731ac618c59e5", func := "cabotage/cabotagelaw07.FlatSols", spec := "flatSols", unfollowed := true, recurses := true, loops := true, apart := false, narrowed := true }
def FlatSolsUptoSaid : Prop := flatSolsUptoRow.holds Tryz.pinned (OpenSpec.upto flatSolsSpec)

/-- 'cabotagelaw07.FlatHolds', WHERE WHAT IT READS IS OF BULK AT MOST 1048576: true; the input reads as it did. -/
def flatHoldsUptoRow : OpenClaim := { program := "ytpgkejpnhnoipaagreat", sum := "e40368c90f17d5d882965ebd554797346f60a46ff071ddb680b731ac618c59e5", func := "cabotage/cabotagelaw07.FlatHolds", spec := "flatHolds", unfollowed := true, recurses := true, loops := true, apart := false, narrowed := true }
def FlatHoldsUptoSaid : Prop := flatHoldsUptoRow.holds Tryz.pinned (OpenSpec.upto flatHoldsSpec)

/-- 'cabotagelaw07.FlatRuns', WHERE WHAT IT READS IS OF BULK AT MOST 1048576: true; the input reads as it did. -/
def flatRunsUptoRow : OpenClaim := { program := "ytpgkejpnhnoipaagreat", sum := "e40368c90f17d5d882965ebd554797346f60a46ff071ddb680b731ac618c59e5", func := "cabotage/cabotagelaw07.FlatRuns", spec := "flatRuns", unfollowed := true, recurses := true, loops := true, apart := false, narrowed := true }
def FlatRunsUptoSaid : Prop := flatRunsUptoRow.holds Tryz.pinned (OpenSpec.upto flatRunsSpec)

/-- 'cabotagelaw07.FlatAny', WHERE WHAT IT READS IS OF BULK AT MOST 1048576: true; the input reads as it did. -/
def flatAnyUptoRow : OpenClaim := { program := "ytpgkejpnhnoipaagreat", sum := "e40368c90f17d5d882965ebd554797346f60a46ff071ddb680b731ac618c59e5", func := "cabotage/cabotagelaw07.FlatAny", spec := "flatAny", unfollowed := true, recurses := true, loops := true, apart := false, narrowed := true }
def FlatAnyUptoSaid : Prop := flatAnyUptoRow.holds Tryz.pinned (OpenSpec.upto flatAnySpec)

/-- 'cabotagelaw07.FlatSteps', WHERE WHAT IT READS IS OF BULK AT MOST 1048576: true; the input reads as it did. -/
def flatStepsUptoRow : OpenClaim := { program := "ytpgkejpnhnoipaagreat", sum := "e40368c90f17d5d882965ebd554797346f60a46ff071ddb680b731ac618c59e5", func := "cabotage/cabotagelaw07.FlatSteps", spec := "flatSteps", unfollowed := true, recurses := true, loops := true, apart := false, narrowed := true }
def FlatStepsUptoSaid : Prop := flatStepsUptoRow.holds Tryz.pinned (OpenSpec.upto flatStepsSpec)

end Rows
end Go.Proofs.YtpgkejpnhnoipaaGreat
