/-
  NARROWER THAN 'FOR EVERY INPUT', by the rows' own cells (each row's printed sentence says how): FlatFlats: loops · FlatOpens: loops · FlatBack: loops · FlatLeast: loops.
  DERIVED. THE GIVEN ROWS OF THIS SEAT. 4 by the template 'for every input the law returns true; each argument reads behind the call as it read before'; 0 by the template 'total and deterministic' (their statements: YtgidgoahhepmlaaGreatTotals.lean).
  GIVEN WITH THE SEED: the statements are not yours to turn. If you find one false, say at which input.
  Laid BY PROGRAM, IN A SANDBOX (cutbox-rows.mjs): the forced cells as the released guide's own fill.sh prints them over the translation 1a27c6f4ef8df296… (all of the seat's roots in one cut). By AI agents, Wed Nov 11 2026. No macro, syntax, notation, axiom, sorry.
-/
import Derived.Test.YtgidgoahhepmlaaGreatChecked
import GoSem.Claim
import GoSem.ClaimJoined
import GoSem.ClaimMapViews
import Derived.JoinedTies
import Derived.KernelRfl
namespace Go.Proofs.YtgidgoahhepmlaaGreat
/- THE CELL 'sum', in the pinned program and in every row, IS THE sha256 OF THE DUMP (.gsa) THAT YtgidgoahhepmlaaGreatProg.lean LOADS. Nothing in Lean hashes anything: it is a label: what it is worth is what the hold of that sum in a sandbox is worth. -/
noncomputable def Tryz.pinned : Pinned := { name := "ytgidgoahhepmlaagreat", sum := "1a27c6f4ef8df2966d5616ee88f3315bd08091c57c0744c1f0f58725c895d44d", checked := Tryz.checked }
namespace Rows
def none {H : Type} : Left H := { results := [], args := [] }

/-- 'cabotagelaw07.FlatFlats': WHATEVER THE INPUT: true; the input reads as it did. -/
def flatFlatsSpec : ChangeSpec := { name := "flatFlats", fn := fun _ => fun
  | [d] => { results := [.lit (.bool true)], args := [d] }
  | _ => none }
def flatFlatsRow : OpenClaim := { program := "ytgidgoahhepmlaagreat", sum := "1a27c6f4ef8df2966d5616ee88f3315bd08091c57c0744c1f0f58725c895d44d", func := "cabotage/cabotagelaw07.FlatFlats", spec := "flatFlats", unfollowed := true, recurses := true, loops := true, apart := false }
def FlatFlatsSaid : Prop := flatFlatsRow.holds Tryz.pinned (OpenSpec.ofChange flatFlatsSpec)

/-- ITS FALSE NEIGHBOUR: 'it returns false'. Refute it at one input. -/
def flatFlatsWrong : ChangeSpec := { name := "flatFlats", fn := fun _ => fun
  | [d] => { results := [.lit (.bool false)], args := [d] }
  | _ => none }
def FlatFlatsWrongFalsely : Prop := flatFlatsRow.holds Tryz.pinned (OpenSpec.ofChange flatFlatsWrong)

/-- 'cabotagelaw07.FlatOpens': WHATEVER THE INPUT: true; the input reads as it did. -/
def flatOpensSpec : ChangeSpec := { name := "flatOpens", fn := fun _ => fun
  | [d] => { results := [.lit (.bool true)], args := [d] }
  | _ => none }
def flatOpensRow : OpenClaim := { program := "ytgidgoahhepmlaagreat", sum := "1a27c6f4ef8df2966d5616ee88f3315bd08091c57c0744c1f0f58725c895d44d", func := "cabotage/cabotagelaw07.FlatOpens", spec := "flatOpens", unfollowed := true, recurses := true, loops := true, apart := false }
def FlatOpensSaid : Prop := flatOpensRow.holds Tryz.pinned (OpenSpec.ofChange flatOpensSpec)

/-- ITS FALSE NEIGHBOUR: 'it returns false'. Refute it at one input. -/
def flatOpensWrong : ChangeSpec := { name := "flatOpens", fn := fun _ => fun
  | [d] => { results := [.lit (.bool false)], args := [d] }
  | _ => none }
def FlatOpensWrongFalsely : Prop := flatOpensRow.holds Tryz.pinned (OpenSpec.ofChange flatOpensWrong)

/-- 'cabotagelaw07.FlatBack': WHATEVER THE INPUT: true; the input reads as it did. -/
def flatBackSpec : ChangeSpec := { name := "flatBack", fn := fun _ => fun
  | [d] => { results := [.lit (.bool true)], args := [d] }
  | _ => none }
def flatBackRow : OpenClaim := { program := "ytgidgoahhepmlaagreat", sum := "1a27c6f4ef8df2966d5616ee88f3315bd08091c57c0744c1f0f58725c895d44d", func := "cabotage/cabotagelaw07.FlatBack", spec := "flatBack", unfollowed := true, recurses := true, loops := true, apart := false }
def FlatBackSaid : Prop := flatBackRow.holds Tryz.pinned (OpenSpec.ofChange flatBackSpec)

/-- ITS FALSE NEIGHBOUR: 'it returns false'. Refute it at one input. -/
def flatBackWrong : ChangeSpec := { name := "flatBack", fn := fun _ => fun
  | [d] => { results := [.lit (.bool false)], args := [d] }
  | _ => none }
def FlatBackWrongFalsely : Prop := flatBackRow.holds Tryz.pinned (OpenSpec.ofChange flatBackWrong)

/-- 'cabotagelaw07.FlatLeast': WHATEVER THE INPUT: true; the input reads as it did. -/
def flatLeastSpec : ChangeSpec := { name := "flatLeast", fn := fun _ => fun
  | [d] => { results := [.lit (.bool true)], args := [d] }
  | _ => none }
def flatLeastRow : OpenClaim := { program := "ytgidgoahhepmlaagreat", sum := "1a27c6f4ef8df2966d5616ee88f3315bd08091c57c0744c1f0f58725c895d44d", func := "cabotage/cabotagelaw07.FlatLeast", spec := "flatLeast", unfollowed := true, recurses := true, loops := true, apart := false }
def FlatLeastSaid : Prop := flatLeastRow.holds Tryz.pinned (OpenSpec.ofChange flatLeastSpec)

/-- ITS FALSE NEIGHBOUR: 'it returns false'. Refute it at one input. -/
def flatLeastWrong : ChangeSpec := { name := "flatLeast", fn := fun _ => fun
  | [d] => { results := [.lit (.bool false)], args := [d] }
  | _ => none }
def FlatLeastWrongFalsely : Prop := flatLeastRow.holds Tryz.pinned (OpenSpec.ofChange flatLeastWrong)

/- THE SECOND FORM. 'bulk': how many values and letters a reading holds, each counted each time it is reached (what is shared counts as often as it is met; a slice's spare places count too). A statement '..UptoSaid' is the law's where the arguments, and the package variables that the reading takes, are together of bulk at most 1048576: NARROWER than '..Said'. Prove '..Said' where nothing that the law and all that it calls make is longer than what came in: it says more and counts as full. Else prove '..UptoSaid'. A law counts once. -/
mutual
def uptoBulk {H : Type} : DataW H → Nat
  | .lit (.string bytes) => bytes.length + 1
  | .lit _ => 1
  | .nil => 1
  | .ptr d => uptoBulk d + 1
  | .slice elems spare => uptoBulkAll elems + uptoBulkAll spare + 1
  | .agg parts => uptoBulkAll parts + 1
  | .iface _ d => uptoBulk d + 1
  | .map entries => uptoBulkEntries entries + 1
  | .held _ => 1
def uptoBulkAll {H : Type} : List (DataW H) → Nat
  | [] => 0
  | d :: r => uptoBulk d + uptoBulkAll r
def uptoBulkEntries {H : Type} : List (Lit × DataW H) → Nat
  | [] => 0
  | x :: r => uptoBulkEntry x + uptoBulkEntries r
def uptoBulkEntry {H : Type} : Lit × DataW H → Nat
  | (.string bytes, d) => bytes.length + uptoBulk d + 1
  | (_, d) => uptoBulk d + 1
 end
def uptoSmall : (H : Type) → List (DataW H) → Bool := fun _ ds => decide (uptoBulkAll ds ≤ 1048576)
def OpenSpec.upto (s : _root_.Go.ChangeSpec) : _root_.Go.OpenSpec := { _root_.Go.OpenSpec.ofChange s with cond := some uptoSmall }

/-- 'cabotagelaw07.FlatFlats', WHERE WHAT IT READS IS OF BULK AT MOST 1048576: true; the input reads as it did. -/
def flatFlatsUptoRow : OpenClaim := { program := "ytgidgoahhepmlaagreat", sum := "1a27c6f4ef8df2966d5616ee88f3315bd08091c57c0744c1f0f58725c895d44d", func := "cabotage/cabotagelaw07.FlatFlats", spec := "flatFlats", unfollowed := true, recurses := true, loops := true, apart := false, narrowed := true }
def FlatFlatsUptoSaid : Prop := flatFlatsUptoRow.holds Tryz.pinned (OpenSpec.upto flatFlatsSpec)

/-- 'cabotagelaw07.FlatOpens', WHERE WHAT IT READS IS OF BULK AT MOST 1048576: true; the input reads as it did. -/
def flatOpensUptoRow : OpenClaim := { program := "ytgidgoahhepmlaagreat", sum := "1a27c6f4ef8df2966d5616ee88f3315bd08091c57c0744c1f0f58725c895d44d", func := "cabotage/cabotagelaw07.FlatOpens", spec := "flatOpens", unfollowed := true, recurses := true, loops := true, apart := false, narrowed := true }
def FlatOpensUptoSaid : Prop := flatOpensUptoRow.holds Tryz.pinned (OpenSpec.upto flatOpensSpec)

/-- 'cabotagelaw07.FlatBack', WHERE WHAT IT READS IS OF BULK AT MOST 1048576: true; the input reads as it did. -/
def flatBackUptoRow : OpenClaim := { program := "ytgidgoahhepmlaagreat", sum := "1a27c6f4ef8df2966d5616ee88f3315bd08091c57c0744c1f0f58725c895d44d", func := "cabotage/cabotagelaw07.FlatBack", spec := "flatBack", unfollowed := true, recurses := true, loops := true, apart := false, narrowed := true }
def FlatBackUptoSaid : Prop := flatBackUptoRow.holds Tryz.pinned (OpenSpec.upto flatBackSpec)

/-- 'cabotagelaw07.FlatLeast', WHERE WHAT IT READS IS OF BULK AT MOST 1048576: true; the input reads as it did. -/
def flatLeastUptoRow : OpenClaim := { program := "ytgidgoahhepmlaagreat", sum := "1a27c6f4ef8df2966d5616ee88f3315bd08091c57c0744c1f0f58725c895d44d", func := "cabotage/cabotagelaw07.FlatLeast", spec := "flatLeast", unfollowed := true, recurses := true, loops := true, apart := false, narrowed := true }
def FlatLeastUptoSaid : Prop := flatLeastUptoRow.holds Tryz.pinned (OpenSpec.upto flatLeastSpec)

end Rows
end Go.Proofs.YtgidgoahhepmlaaGreat
