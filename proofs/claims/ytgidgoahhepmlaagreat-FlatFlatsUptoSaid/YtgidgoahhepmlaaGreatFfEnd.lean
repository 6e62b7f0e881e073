/- 'FlatFlats' returns true, for arguments of bulk at most 1048576: the flat program of any program, or the error, is as the document states. -/
import Derived.Test.YtgidgoahhepmlaaGreatFf6
import Derived.WalkKit
import Derived.ProofKit
import Derived.OpenShut
import Derived.JoinedCond
import Derived.KernelRfl
namespace Go.Proofs.YtgidgoahhepmlaaGreat.flatFlats
open Go.ChangeShapes Go.WideShapes Go.ChangeAt Go.RowKit Go.SX Go.SW Go.Dt
set_option linter.unusedVariables false
set_option maxRecDepth 100000
theorem own : ownKnob Tryz.prog.godebug = none := by kernel_rfl
theorem full : ∀ t e, t < Tryz.prog.types.size -> Tryz.prog.underlying t = some (.slice e) -> 0 < Tryz.prog.cellsOf e := slices_full_of _ (by kernel_rfl)
theorem contract (H : Type) (enc : TypeId × Value -> H) (W : World) (base : Nat) (args : Array Value) (ds gs : List (DataW H)) (before : List MemPlace)
    (hval : ∀ (j : Nat) t v, Tryz.f3.params[j]? = some t -> args[j]? = some v -> Value.okWide Tryz.prog W .any base t v)
    (hW : DataW.Whole enc Tryz.prog Tryz.f3.params.toList Rows.flatFlatsSpec.vars false W args.toList ds gs before) (hk : Rows.uptoSmall H (ds ++ gs) = true) :
    Calls Tryz.prog 3 args W fun e W' => ∃ v, e = .returned v /\ Rows.flatFlatsSpec.post enc Tryz.prog Tryz.f3 false true false false W args v W' := by
  have hW' := hW
  obtain ⟨p, q, hA0, hV, rfl, hfz, hnd⟩ := hW
  have hA : DataW.TrodAll enc Tryz.prog W 0 (fun _ => true) true Tryz.f3.params.toList args.toList ds p := hA0
  rw [Tryz.params3] at hA hval
  obtain ⟨v0, vs0, d0, ds0, p0, q0, hargs, rfl, rfl, h0, r0⟩ := trodAll_cons hA
  obtain ⟨rfl, rfl, rfl⟩ := trodAll_nil r0
  obtain rfl : args = #[v0] := by cases args; simp_all
  obtain ⟨rfl, rfl⟩ := trodVars_none hV
  have hb := of_decide_eq_true hk
  simp only [List.cons_append, List.nil_append, Rows.uptoBulkAll] at hb
  obtain ⟨a0, e0, s0⟩ := arg_st aHb Tryz.underlying26 (hval 0 _ v0 rfl rfl) h0 (by omega)
  refine ((aJM F a0 true (aHk s0)).calls (W := W) (vs := [v0]) ⟨_, _, rfl, e0, rfl⟩).mono fun e W' ⟨m', v, he, hv, hS⟩ => ?_
  have hg : W.keptBut W' (fun _ => False) := aGY hS rfl _
  refine ⟨v, he, _, _, _, [], _, [], hW', ?_, aFH (by kernel_rfl) (by kernel_rfl) full hg (by rw [Tryz.params3]; decide +kernel) hA0, rfl, World.keptBut_mono (fun _ h => h.elim) hg, fun h => by cases h⟩
  cases hv
  exact trodAll_cons_mk (shut_bool Tryz.underlying4 _) trodAll_mk0
theorem lifted (os : Os) (started : os.Started) (H : Type) (enc : TypeId × Value -> H) (F : Stop.Interp) :
    ReturnsInHanded {} Tryz.checked os 3 .any ((Rows.OpenSpec.upto Rows.flatFlatsSpec).pre6 enc Tryz.prog Tryz.f3 Rows.flatFlatsUptoRow.domain false) (((Rows.OpenSpec.upto Rows.flatFlatsSpec).at F).post enc Tryz.prog Tryz.f3 false true false false) := by
  refine returnsInHanded_of_cond (C := Tryz.checked) (s := Rows.OpenSpec.upto Rows.flatFlatsSpec) (k := Rows.uptoSmall) rfl own started (by kernel_rfl) Tryz.func3
    (OpenSpec.witness (enc := enc) (C := Tryz.checked) (s := Rows.OpenSpec.upto Rows.flatFlatsSpec) (k := Rows.uptoSmall) rfl false ⟨#[], #[.agg #[.slice none 0 0, .slice none 0 0, .slice none 0 0, .int .i64 0]], []⟩ 8 (by kernel_rfl) (by kernel_rfl) (by kernel_rfl)
      (x := ([.agg [.nil, .nil, .nil, .lit (.int .i64 0)]], [], [])) (by kernel_rfl) rfl (by kernel_rfl)) ?_
  intro W base args ds gs before hval hW _ hk _
  exact contract H enc W base args ds gs before hval hW hk
theorem j0 : (Rows.flatFlatsUptoRow.wf (OpenSpec.ofChange (Rows.OpenSpec.upto Rows.flatFlatsSpec).bare)) = true := by kernel_rfl
theorem j1 : (laidOutB Tryz.pinned.checked.prog) = true := by kernel_rfl
theorem j2 : (mapsRowed Tryz.pinned.checked.prog) = true := by kernel_rfl
theorem j9 : (Rows.flatFlatsUptoRow.inPlace == Program.inPlace Tryz.pinned.checked.prog 3) = true := by kernel_rfl
theorem j10 : (Rows.flatFlatsUptoRow.unfollowed == Program.unfollowed Tryz.pinned.checked.prog 3) = true := by kernel_rfl
theorem j11 : (Rows.flatFlatsUptoRow.recurses == Program.recurses Tryz.pinned.checked.prog 3) = true := by kernel_rfl
theorem j12 : (Rows.flatFlatsUptoRow.named == Program.varsNamed Tryz.pinned.checked.prog 3) = true := by kernel_rfl
theorem j22 : (Rows.flatFlatsUptoRow.plainKeys == Program.plainKeys Tryz.pinned.checked.prog) = true := by kernel_rfl
theorem j24 : (Program.stopsHeard Tryz.pinned.checked.prog) = true := by kernel_rfl
theorem j25 : (Program.mayEnter Tryz.pinned.checked.prog) = true := by kernel_rfl
theorem j26 : (Rows.flatFlatsUptoRow.lifted == Program.liftsFinal Tryz.pinned.checked.prog) = true := by kernel_rfl
theorem j27 : (Program.make Tryz.pinned.checked.prog == some Rows.flatFlatsUptoRow.make) = true := by kernel_rfl
theorem jn : Program.funcNamed Tryz.pinned.checked.prog Rows.flatFlatsUptoRow.func = some 3 := by kernel_rfl
theorem jand {a b : Bool} (h : a = true) (k : b = true) : (a && b) = true := by subst h; subst k; rfl
theorem closed : joinedFacts Tryz.pinned.checked.prog 3 Tryz.f3 (Rows.OpenSpec.upto Rows.flatFlatsSpec).bare Rows.flatFlatsUptoRow = true := by
  unfold joinedFacts
  refine jand (jand (jand (jand (jand (jand (jand (jand (jand (jand (jand (jand (jand (jand (jand (jand (jand (jand (jand (jand (jand (jand (jand (jand (jand (jand (jand (jand (jand (jand (jand j0 j1) j2) ?_) ?_) ?_) ?_) ?_) ?_) j9) j10) j11) j12) ?_) ?_) ?_) ?_) ?_) ?_) ?_) ?_) ?_) j22) ?_) j24) j25) j26) j27) ?_) ?_) ?_) ?_ <;> kernel_rfl
theorem inst : (Tryz.f3).isInstance Tryz.pinned.checked.prog Rows.flatFlatsUptoRow.origin Rows.flatFlatsUptoRow.targs := of_decide_eq_true (by kernel_rfl)
theorem wrap : (Tryz.f3).isWrapper Tryz.pinned.checked.prog Rows.flatFlatsUptoRow.wrapper Rows.flatFlatsUptoRow.mainSum := by
  unfold Func.isWrapper; first | (rw [if_pos (by decide +kernel)]; kernel_rfl) | (rw [if_neg (by decide +kernel)]; exact ⟨rfl, rfl⟩)
theorem over : Rows.flatFlatsUptoRow.holds Tryz.pinned (Rows.OpenSpec.upto Rows.flatFlatsSpec) :=
  OpenClaim.holds_of_cond 3 Tryz.f3 rfl rfl rfl rfl rfl rfl rfl ⟨rfl, rfl, rfl, rfl, rfl⟩ rfl rfl rfl rfl rfl jn Tryz.func3 closed inst wrap
    (fun os started H enc _ F => lifted os started H enc F)
theorem proved : Rows.FlatFlatsUptoSaid := over
#print axioms proved
end Go.Proofs.YtgidgoahhepmlaaGreat.flatFlats
