/-
  NARROWER THAN 'FOR EVERY INPUT', by the rows' own cells (each row's printed sentence says how): UsageLeast: loops.
  DERIVED. THE GIVEN ROWS OF THIS SEAT. 2 by the template 'for every input the law returns true; each argument reads behind the call as it read before'; 0 by the template 'total and deterministic' (their statements: YtmnbfgeljmhekaaTotals.lean).
  GIVEN WITH THE SEED: the statements are not yours to turn. If you find one false, say at which input.
  Laid BY PROGRAM, IN A SANDBOX (cutbox-rows.mjs): the forced cells as the released guide's own fill.sh prints them over the translation 8ea84d0c8f39266c… (all of the seat's roots in one cut). By AI agents, Wed Nov 11 2026. No macro, syntax, notation, axiom, sorry.
-/
import Derived.Test.YtmnbfgeljmhekaaChecked
import GoSem.Claim
import GoSem.ClaimJoined
import GoSem.ClaimMapViews
import Derived.JoinedTies
import Derived.KernelRfl
namespace Go.Proofs.Ytmnbfgeljmhekaa
/- THE CELL 'sum', in the pinned program and in every row, IS THE sha256 OF THE DUMP (.gsa) THAT YtmnbfgeljmhekaaProg.lean LOADS. Nothing in Lean hashes anything: it is a label: what it is worth is what the hold of that sum in a sandbox is worth. -/
noncomputable def Try.pinned : Pinned := { name := "ytmnbfgeljmhekaa", sum := "8ea84d0c8f39266c440d83664525caa6b755117f12edecc6cc70ee9d65c6491e", checked := Try.checked }
namespace Rows
def none {H : Type} : Left H := { results := [], args := [] }

/-- 'cabotagelaw05.UsageLeast': WHATEVER THE INPUT: true; the input reads as it did. -/
def usageLeastSpec : ChangeSpec := { name := "usageLeast", fn := fun _ => fun
  | [d1, d2] => { results := [.lit (.bool true)], args := [d1, d2] }
  | _ => none }
def usageLeastRow : OpenClaim := { program := "ytmnbfgeljmhekaa", sum := "8ea84d0c8f39266c440d83664525caa6b755117f12edecc6cc70ee9d65c6491e", func := "cabotage/cabotagelaw05.UsageLeast", spec := "usageLeast", unfollowed := true, recurses := true, loops := true, apart := false }
def UsageLeastSaid : Prop := usageLeastRow.holds Try.pinned (OpenSpec.ofChange usageLeastSpec)

/-- ITS FALSE NEIGHBOUR: 'it returns false'. Refute it at one input. -/
def usageLeastWrong : ChangeSpec := { name := "usageLeast", fn := fun _ => fun
  | [d1, d2] => { results := [.lit (.bool false)], args := [d1, d2] }
  | _ => none }
def UsageLeastWrongFalsely : Prop := usageLeastRow.holds Try.pinned (OpenSpec.ofChange usageLeastWrong)

/-- 'cabotagelaw05.UsageKnown': WHATEVER THE INPUT: true; the input reads as it did. -/
def usageKnownSpec : ChangeSpec := { name := "usageKnown", fn := fun _ => fun
  | [] => { results := [.lit (.bool true)], args := [] }
  | _ => none }
def usageKnownRow : OpenClaim := { program := "ytmnbfgeljmhekaa", sum := "8ea84d0c8f39266c440d83664525caa6b755117f12edecc6cc70ee9d65c6491e", func := "cabotage/cabotagelaw05.UsageKnown", spec := "usageKnown", unfollowed := true, recurses := true, apart := false }
def UsageKnownSaid : Prop := usageKnownRow.holds Try.pinned (OpenSpec.ofChange usageKnownSpec)

/-- ITS FALSE NEIGHBOUR: 'it returns false'. Refute it at one input. -/
def usageKnownWrong : ChangeSpec := { name := "usageKnown", fn := fun _ => fun
  | [] => { results := [.lit (.bool false)], args := [] }
  | _ => none }
def UsageKnownWrongFalsely : Prop := usageKnownRow.holds Try.pinned (OpenSpec.ofChange usageKnownWrong)

/- THE SECOND FORM. 'bulk': how many values and letters a reading holds, each counted each time it is reached (what is shared counts as often as it is met; a slice's spare places count too). A statement '..UptoSaid' is the law's where the arguments, and the package variables that the reading takes, are together of bulk at most 1048576: NARROWER than '..Said'. Prove '..Said' where nothing that the law and all that it calls make is longer than what came in: it says more and counts as full. Else prove '..UptoSaid'. A law counts once. -/
mutual
def uptoBulk {H : Type} : DataW H → Nat
  | .lit (.string bytes) => bytes.length + 1
  | .lit _ => 1
  | .nil => 1
  | .ptr d => uptoBulk d + 1
  | .slice elems spare => uptoBulkAll elems + uptoBulkAll spare + 1
  | .agg parts => uptoBulkAll parts + 1
  | .iface _ d => uptoBulk d + 1
  | .map entries => uptoBulkEntries entries + 1
  | .held _ => 1
def uptoBulkAll {H : Type} : List (DataW H) → Nat
  | [] => 0
  | d :: r => uptoBulk d + uptoBulkAll r
def uptoBulkEntries {H : Type} : List (Lit × DataW H) → Nat
  | [] => 0
  | x :: r => uptoBulkEntry x + uptoBulkEntries r
def uptoBulkEntry {H : Type} : Lit × DataW H → Nat
  | (.string bytes, d) => bytes.length + uptoBulk d + 1
  | (_, d) => uptoBulk d + 1
 end
def uptoSmall : (H : Type) → List (DataW H) → Bool := fun _ ds => decide (uptoBulkAll ds ≤ 1048576)
def OpenSpec.upto (s : _root_.Go.ChangeSpec) : _root_.Go.OpenSpec := { _root_.Go.OpenSpec.ofChange s with cond := some uptoSmall }

/-- 'cabotagelaw05.UsageLeast', WHERE WHAT IT READS IS OF BULK AT MOST 1048576: true; the input reads as it did. -/
def usageLeastUptoRow : OpenClaim := { program := "ytmnbfgeljmhekaa", sum := "8ea84d0c8f39266c440d83664525caa6b755117f12edecc6cc70ee9d65c6491e", func := "cabotage/cabotagelaw05.UsageLeast", spec := "usageLeast", unfollowed := true, recurses := true, loops := true, apart := false, narrowed := true }
def UsageLeastUptoSaid : Prop := usageLeastUptoRow.holds Try.pinned (OpenSpec.upto usageLeastSpec)

/-- 'cabotagelaw05.UsageKnown', WHERE WHAT IT READS IS OF BULK AT MOST 1048576: true; the input reads as it did. -/
def usageKnownUptoRow : OpenClaim := { program := "ytmnbfgeljmhekaa", sum := "8ea84d0c8f39266c440d83664525caa6b755117f12edecc6cc70ee9d65c6491e", func := "cabotage/cabotagelaw05.UsageKnown", spec := "usageKnown", unfollowed := true, recurses := true, apart := false, narrowed := true }
def UsageKnownUptoSaid : Prop := usageKnownUptoRow.holds Try.pinned (OpenSpec.upto usageKnownSpec)

end Rows
end Go.Proofs.Ytmnbfgeljmhekaa
