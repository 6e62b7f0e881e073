/-
  NARROWER THAN 'FOR EVERY INPUT', by the rows' own cells (each row's printed sentence says how): UsageSends: loops · UsageTables: loops · UsageAccepts: loops · UsageSwaps: loops · UsageGrows: loops.
  DERIVED. THE GIVEN ROWS OF THIS SEAT. 5 by the template 'for every input the law returns true; each argument reads behind the call as it read before'; 0 by the template 'total and deterministic' (their statements: YtmnbfgeljmhekaaGreatTotals.lean).
  GIVEN WITH THE SEED: the statements are not yours to turn. If you find one false, say at which input.
  Laid BY PROGRAM, IN A SANDBOX (cutbox-rows.mjs): the forced cells as the released guide's own fill.sh prints them over the translation 3cf531090295b479… (all of the seat's roots in one cut). By AI agents, Wed Nov 11 2026. No macro, syntax, notation, axiom, sorry.
-/
import Derived.Test.YtmnbfgeljmhekaaGreatChecked
import GoSem.Claim
import GoSem.ClaimJoined
import GoSem.ClaimMapViews
import Derived.JoinedTies
import Derived.KernelRfl
namespace Go.Proofs.YtmnbfgeljmhekaaGreat
/- THE CELL 'sum', in the pinned program and in every row, IS THE sha256 OF THE DUMP (.gsa) THAT YtmnbfgeljmhekaaGreatProg.lean LOADS. Nothing in Lean hashes anything: it is a label: what it is worth is what the hold of that sum in a sandbox is worth. -/
noncomputable def Tryz.pinned : Pinned := { name := "ytmnbfgeljmhekaagreat", sum := "3cf531090295b4798a3928c9d06cd07340f972d965d3ead235f38e7451cd8237", checked := Tryz.checked }
namespace Rows
def none {H : Type} : Left H := { results := [], args := [] }

/-- 'cabotagelaw05.UsageSends': WHATEVER THE INPUT: true; the input reads as it did. -/
def usageSendsSpec : ChangeSpec := { name := "usageSends", fn := fun _ => fun
  | [d1, d2, d3, d4] => { results := [.lit (.bool true)], args := [d1, d2, d3, d4] }
  | _ => none }
def usageSendsRow : OpenClaim := { program := "ytmnbfgeljmhekaagreat", sum := "3cf531090295b4798a3928c9d06cd07340f972d965d3ead235f38e7451cd8237", func := "cabotage/cabotagelaw05.UsageSends", spec := "usageSends", unfollowed := true, recurses := true, loops := true, apart := false }
def UsageSendsSaid : Prop := usageSendsRow.holds Tryz.pinned (OpenSpec.ofChange usageSendsSpec)

/-- ITS FALSE NEIGHBOUR: 'it returns false'. Refute it at one input. -/
def usageSendsWrong : ChangeSpec := { name := "usageSends", fn := fun _ => fun
  | [d1, d2, d3, d4] => { results := [.lit (.bool false)], args := [d1, d2, d3, d4] }
  | _ => none }
def UsageSendsWrongFalsely : Prop := usageSendsRow.holds Tryz.pinned (OpenSpec.ofChange usageSendsWrong)

/-- 'cabotagelaw05.UsageTables': WHATEVER THE INPUT: true; the input reads as it did. -/
def usageTablesSpec : ChangeSpec := { name := "usageTables", fn := fun _ => fun
  | [d] => { results := [.lit (.bool true)], args := [d] }
  | _ => none }
def usageTablesRow : OpenClaim := { program := "ytmnbfgeljmhekaagreat", sum := "3cf531090295b4798a3928c9d06cd07340f972d965d3ead235f38e7451cd8237", func := "cabotage/cabotagelaw05.UsageTables", spec := "usageTables", unfollowed := true, recurses := true, loops := true, apart := false }
def UsageTablesSaid : Prop := usageTablesRow.holds Tryz.pinned (OpenSpec.ofChange usageTablesSpec)

/-- ITS FALSE NEIGHBOUR: 'it returns false'. Refute it at one input. -/
def usageTablesWrong : ChangeSpec := { name := "usageTables", fn := fun _ => fun
  | [d] => { results := [.lit (.bool false)], args := [d] }
  | _ => none }
def UsageTablesWrongFalsely : Prop := usageTablesRow.holds Tryz.pinned (OpenSpec.ofChange usageTablesWrong)

/-- 'cabotagelaw05.UsageAccepts': WHATEVER THE INPUT: true; the input reads as it did. -/
def usageAcceptsSpec : ChangeSpec := { name := "usageAccepts", fn := fun _ => fun
  | [d1, d2] => { results := [.lit (.bool true)], args := [d1, d2] }
  | _ => none }
def usageAcceptsRow : OpenClaim := { program := "ytmnbfgeljmhekaagreat", sum := "3cf531090295b4798a3928c9d06cd07340f972d965d3ead235f38e7451cd8237", func := "cabotage/cabotagelaw05.UsageAccepts", spec := "usageAccepts", unfollowed := true, recurses := true, loops := true, apart := false }
def UsageAcceptsSaid : Prop := usageAcceptsRow.holds Tryz.pinned (OpenSpec.ofChange usageAcceptsSpec)

/-- ITS FALSE NEIGHBOUR: 'it returns false'. Refute it at one input. -/
def usageAcceptsWrong : ChangeSpec := { name := "usageAccepts", fn := fun _ => fun
  | [d1, d2] => { results := [.lit (.bool false)], args := [d1, d2] }
  | _ => none }
def UsageAcceptsWrongFalsely : Prop := usageAcceptsRow.holds Tryz.pinned (OpenSpec.ofChange usageAcceptsWrong)

/-- 'cabotagelaw05.UsageSwaps': WHATEVER THE INPUT: true; the input reads as it did. -/
def usageSwapsSpec : ChangeSpec := { name := "usageSwaps", fn := fun _ => fun
  | [d1, d2] => { results := [.lit (.bool true)], args := [d1, d2] }
  | _ => none }
def usageSwapsRow : OpenClaim := { program := "ytmnbfgeljmhekaagreat", sum := "3cf531090295b4798a3928c9d06cd07340f972d965d3ead235f38e7451cd8237", func := "cabotage/cabotagelaw05.UsageSwaps", spec := "usageSwaps", unfollowed := true, recurses := true, loops := true, apart := false }
def UsageSwapsSaid : Prop := usageSwapsRow.holds Tryz.pinned (OpenSpec.ofChange usageSwapsSpec)

/-- ITS FALSE NEIGHBOUR: 'it returns false'. Refute it at one input. -/
def usageSwapsWrong : ChangeSpec := { name := "usageSwaps", fn := fun _ => fun
  | [d1, d2] => { results := [.lit (.bool false)], args := [d1, d2] }
  | _ => none }
def UsageSwapsWrongFalsely : Prop := usageSwapsRow.holds Tryz.pinned (OpenSpec.ofChange usageSwapsWrong)

/-- 'cabotagelaw05.UsageGrows': WHATEVER THE INPUT: true; the input reads as it did. -/
def usageGrowsSpec : ChangeSpec := { name := "usageGrows", fn := fun _ => fun
  | [d1, d2, d3, d4] => { results := [.lit (.bool true)], args := [d1, d2, d3, d4] }
  | _ => none }
def usageGrowsRow : OpenClaim := { program := "ytmnbfgeljmhekaagreat", sum := "3cf531090295b4798a3928c9d06cd07340f972d965d3ead235f38e7451cd8237", func := "cabotage/cabotagelaw05.UsageGrows", spec := "usageGrows", unfollowed := true, recurses := true, loops := true, apart := false }
def UsageGrowsSaid : Prop := usageGrowsRow.holds Tryz.pinned (OpenSpec.ofChange usageGrowsSpec)

/-- ITS FALSE NEIGHBOUR: 'it returns false'. Refute it at one input. -/
def usageGrowsWrong : ChangeSpec := { name := "usageGrows", fn := fun _ => fun
  | [d1, d2, d3, d4] => { results := [.lit (.bool false)], args := [d1, d2, d3, d4] }
  | _ => none }
def UsageGrowsWrongFalsely : Prop := usageGrowsRow.holds Tryz.pinned (OpenSpec.ofChange usageGrowsWrong)

/- THE SECOND FORM. 'bulk': how many values and letters a reading holds, each counted each time it is reached (what is shared counts as often as it is met; a slice's spare places count too). A statement '..UptoSaid' is the law's where the arguments, and the package variables that the reading takes, are together of bulk at most 1048576: NARROWER than '..Said'. Prove '..Said' where nothing that the law and all that it calls make is longer than what came in: it says more and counts as full. Else prove '..UptoSaid'. A law counts once. -/
mutual
def uptoBulk {H : Type} : DataW H → Nat
  | .lit (.string bytes) => bytes.length + 1
  | .lit _ => 1
  | .nil => 1
  | .ptr d => uptoBulk d + 1
  | .slice elems spare => uptoBulkAll elems + uptoBulkAll spare + 1
  | .agg parts => uptoBulkAll parts + 1
  | .iface _ d => uptoBulk d + 1
  | .map entries => uptoBulkEntries entries + 1
  | .held _ => 1
def uptoBulkAll {H : Type} : List (DataW H) → Nat
  | [] => 0
  | d :: r => uptoBulk d + uptoBulkAll r
def uptoBulkEntries {H : Type} : List (Lit × DataW H) → Nat
  | [] => 0
  | x :: r => uptoBulkEntry x + uptoBulkEntries r
def uptoBulkEntry {H : Type} : Lit × DataW H → Nat
  | (.string bytes, d) => bytes.length + uptoBulk d + 1
  | (_, d) => uptoBulk d + 1
 end
def uptoSmall : (H : Type) → List (DataW H) → Bool := fun _ ds => decide (uptoBulkAll ds ≤ 1048576)
def OpenSpec.upto (s : _root_.Go.ChangeSpec) : _root_.Go.OpenSpec := { _root_.Go.OpenSpec.ofChange s with cond := some uptoSmall }

/-- 'cabotagelaw05.UsageSends', WHERE WHAT IT READS IS OF BULK AT MOST 1048576: true; the input reads as it did. -/
def usageSendsUptoRow : OpenClaim := { program := "ytmnbfgeljmhekaagreat", sum := "3cf531090295b4798a3928c9d06cd07340f972d965d3ead235f38e7451cd8237", func := "cabotage/cabotagelaw05.UsageSends", spec := "usageSends", unfollowed := true, recurses := true, loops := true, apart := false, narrowed := true }
def UsageSendsUptoSaid : Prop := usageSendsUptoRow.holds Tryz.pinned (OpenSpec.upto usageSendsSpec)

/-- 'cabotagelaw05.UsageTables', WHERE WHAT IT READS IS OF BULK AT MOST 1048576: true; the input reads as it did. -/
def usageTablesUptoRow : OpenClaim := { program := "ytmnbfgeljmhekaagreat", sum := "3cf531090295b4798a3928c9d06cd07340f972d965d3ead235f38e7451cd8237", func := "cabotage/cabotagelaw05.UsageTables", spec := "usageTables", unfollowed := true, recurses := true, loops := true, apart := false, narrowed := true }
def UsageTablesUptoSaid : Prop := usageTablesUptoRow.holds Tryz.pinned (OpenSpec.upto usageTablesSpec)

/-- 'cabotagelaw05.UsageAccepts', WHERE WHAT IT READS IS OF BULK AT MOST 1048576: true; the input reads as it did. -/
def usageAcceptsUptoRow : OpenClaim := { program := "ytmnbfgeljmhekaagreat", sum := "3cf531090295b4798a3928c9d06cd07340f972d965d3ead235f38e7451cd8237", func := "cabotage/cabotagelaw05.UsageAccepts", spec := "usageAccepts", unfollowed := true, recurses := true, loops := true, apart := false, narrowed := true }
def UsageAcceptsUptoSaid : Prop := usageAcceptsUptoRow.holds Tryz.pinned (OpenSpec.upto usageAcceptsSpec)

/-- 'cabotagelaw05.UsageSwaps', WHERE WHAT IT READS IS OF BULK AT MOST 1048576: true; the input reads as it did. -/
def usageSwapsUptoRow : OpenClaim := { program := "ytmnbfgeljmhekaagreat", sum := "3cf531090295b4798a3928c9d06cd07340f972d965d3ead235f38e7451cd8237", func := "cabotage/cabotagelaw05.UsageSwaps", spec := "usageSwaps", unfollowed := true, recurses := true, loops := true, apart := false, narrowed := true }
def UsageSwapsUptoSaid : Prop := usageSwapsUptoRow.holds Tryz.pinned (OpenSpec.upto usageSwapsSpec)

/-- 'cabotagelaw05.UsageGrows', WHERE WHAT IT READS IS OF BULK AT MOST 1048576: true; the input reads as it did. -/
def usageGrowsUptoRow : OpenClaim := { program := "ytmnbfgeljmhekaagreat", sum := "3cf531090295b4798a3928c9d06cd07340f972d965d3ead235f38e7451cd8237", func := "cabotage/cabotagelaw05.UsageGrows", spec := "usageGrows", unfollowed := true, recurses := true, loops := true, apart := false, narrowed := true }
def UsageGrowsUptoSaid : Prop := usageGrowsUptoRow.holds Tryz.pinned (OpenSpec.upto usageGrowsSpec)

end Rows
end Go.Proofs.YtmnbfgeljmhekaaGreat
