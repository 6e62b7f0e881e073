/- 'FlatLeast' returns true, for arguments of bulk at most 1048576: a flat program takes all that the flat program of what it is when it is bM takes, and has as many spare places as it takes more. -/
import Derived.Test.YtgidgoahhepmlaaGreatFl6
import Derived.WalkKit
import Derived.ProofKit
import Derived.OpenShut
import Derived.JoinedCond
import Derived.KernelRfl
namespace Go.Proofs.YtgidgoahhepmlaaGreat.flatLeast
open Go.ChangeShapes Go.WideShapes Go.ChangeAt Go.RowKit Go.SX Go.SW Go.Dt
set_option linter.unusedVariables false
set_option maxRecDepth 100000
theorem own : ownKnob Tryz.prog.godebug = none := by kernel_rfl
theorem full : ∀ t e, t < Tryz.prog.types.size -> Tryz.prog.underlying t = some (.slice e) -> 0 < Tryz.prog.cellsOf e := slices_full_of _ (by kernel_rfl)
theorem contract (H : Type) (enc : TypeId × Value -> H) (W : World) (base : Nat) (args : Array Value) (ds gs : List (DataW H)) (before : List MemPlace)
    (hval : ∀ (j : Nat) t v, Tryz.f6.params[j]? = some t -> args[j]? = some v -> Value.okWide Tryz.prog W .any base t v)
    (hW : DataW.Whole enc Tryz.prog Tryz.f6.params.toList Rows.flatLeastSpec.vars false W args.toList ds gs before) (hk : Rows.uptoSmall H (ds ++ gs) = true) :
    Calls Tryz.prog 6 args W fun e W' => ∃ v, e = .returned v /\ Rows.flatLeastSpec.post enc Tryz.prog Tryz.f6 false true false false W args v W' := by
  have hW' := hW
  obtain ⟨p, q, hA0, hV, rfl, hfz, hnd⟩ := hW
  have hA : DataW.TrodAll enc Tryz.prog W 0 (fun _ => true) true Tryz.f6.params.toList args.toList ds p := hA0
  rw [Tryz.params6] at hA hval
  obtain ⟨v0, vs0, d0, ds0, p0, q0, hargs, rfl, rfl, h0, r0⟩ := trodAll_cons hA
  obtain ⟨rfl, rfl, rfl⟩ := trodAll_nil r0
  obtain rfl : args = #[v0] := by cases args; simp_all
  obtain ⟨rfl, rfl⟩ := trodVars_none hV
  have hb := of_decide_eq_true hk
  simp only [List.cons_append, List.nil_append, Rows.uptoBulkAll] at hb
  obtain ⟨a0, e0, s0⟩ := arg_st aIr Tryz.underlying30 (hval 0 _ v0 rfl rfl) h0 (by omega)
  refine ((aI3 F a0 true (aJR s0)).calls (W := W) (vs := [v0]) ⟨_, _, rfl, e0, rfl⟩).mono fun e W' ⟨m', v, he, hv, hS⟩ => ?_
  have hg : W.keptBut W' (fun _ => False) := aIk hS rfl _
  refine ⟨v, he, _, _, _, [], _, [], hW', ?_, aGX (by kernel_rfl) (by kernel_rfl) full hg (by rw [Tryz.params6]; decide +kernel) hA0, rfl, World.keptBut_mono (fun _ h => h.elim) hg, fun h => by cases h⟩
  cases hv
  exact trodAll_cons_mk (shut_bool Tryz.underlying4 _) trodAll_mk0
theorem lifted (os : Os) (started : os.Started) (H : Type) (enc : TypeId × Value -> H) (F : Stop.Interp) :
    ReturnsInHanded {} Tryz.checked os 6 .any ((Rows.OpenSpec.upto Rows.flatLeastSpec).pre6 enc Tryz.prog Tryz.f6 Rows.flatLeastUptoRow.domain false) (((Rows.OpenSpec.upto Rows.flatLeastSpec).at F).post enc Tryz.prog Tryz.f6 false true false false) := by
  refine returnsInHanded_of_cond (C := Tryz.checked) (s := Rows.OpenSpec.upto Rows.flatLeastSpec) (k := Rows.uptoSmall) rfl own started (by kernel_rfl) Tryz.func6
    (OpenSpec.witness (enc := enc) (C := Tryz.checked) (s := Rows.OpenSpec.upto Rows.flatLeastSpec) (k := Rows.uptoSmall) rfl false ⟨#[], #[.agg #[.slice none 0 0, .slice none 0 0, .slice none 0 0, .slice none 0 0, .int .i64 0]], []⟩ 8 (by kernel_rfl) (by kernel_rfl) (by kernel_rfl)
      (x := ([.agg [.nil, .nil, .nil, .nil, .lit (.int .i64 0)]], [], [])) (by kernel_rfl) rfl (by kernel_rfl)) ?_
  intro W base args ds gs before hval hW _ hk _
  exact contract H enc W base args ds gs before hval hW hk
theorem j0 : (Rows.flatLeastUptoRow.wf (OpenSpec.ofChange (Rows.OpenSpec.upto Rows.flatLeastSpec).bare)) = true := by kernel_rfl
theorem j1 : (laidOutB Tryz.pinned.checked.prog) = true := by kernel_rfl
theorem j2 : (mapsRowed Tryz.pinned.checked.prog) = true := by kernel_rfl
theorem j9 : (Rows.flatLeastUptoRow.inPlace == Program.inPlace Tryz.pinned.checked.prog 6) = true := by kernel_rfl
theorem j10 : (Rows.flatLeastUptoRow.unfollowed == Program.unfollowed Tryz.pinned.checked.prog 6) = true := by kernel_rfl
theorem j11 : (Rows.flatLeastUptoRow.recurses == Program.recurses Tryz.pinned.checked.prog 6) = true := by kernel_rfl
theorem j12 : (Rows.flatLeastUptoRow.named == Program.varsNamed Tryz.pinned.checked.prog 6) = true := by kernel_rfl
theorem j22 : (Rows.flatLeastUptoRow.plainKeys == Program.plainKeys Tryz.pinned.checked.prog) = true := by kernel_rfl
theorem j24 : (Program.stopsHeard Tryz.pinned.checked.prog) = true := by kernel_rfl
theorem j25 : (Program.mayEnter Tryz.pinned.checked.prog) = true := by kernel_rfl
theorem j26 : (Rows.flatLeastUptoRow.lifted == Program.liftsFinal Tryz.pinned.checked.prog) = true := by kernel_rfl
theorem j27 : (Program.make Tryz.pinned.checked.prog == some Rows.flatLeastUptoRow.make) = true := by kernel_rfl
theorem jn : Program.funcNamed Tryz.pinned.checked.prog Rows.flatLeastUptoRow.func = some 6 := by kernel_rfl
theorem jand {a b : Bool} (h : a = true) (k : b = true) : (a && b) = true := by subst h; subst k; rfl
theorem closed : joinedFacts Tryz.pinned.checked.prog 6 Tryz.f6 (Rows.OpenSpec.upto Rows.flatLeastSpec).bare Rows.flatLeastUptoRow = true := by
  unfold joinedFacts
  refine jand (jand (jand (jand (jand (jand (jand (jand (jand (jand (jand (jand (jand (jand (jand (jand (jand (jand (jand (jand (jand (jand (jand (jand (jand (jand (jand (jand (jand (jand (jand j0 j1) j2) ?_) ?_) ?_) ?_) ?_) ?_) j9) j10) j11) j12) ?_) ?_) ?_) ?_) ?_) ?_) ?_) ?_) ?_) j22) ?_) j24) j25) j26) j27) ?_) ?_) ?_) ?_ <;> kernel_rfl
theorem inst : (Tryz.f6).isInstance Tryz.pinned.checked.prog Rows.flatLeastUptoRow.origin Rows.flatLeastUptoRow.targs := of_decide_eq_true (by kernel_rfl)
theorem wrap : (Tryz.f6).isWrapper Tryz.pinned.checked.prog Rows.flatLeastUptoRow.wrapper Rows.flatLeastUptoRow.mainSum := by
  unfold Func.isWrapper; first | (rw [if_pos (by decide +kernel)]; kernel_rfl) | (rw [if_neg (by decide +kernel)]; exact ⟨rfl, rfl⟩)
theorem over : Rows.flatLeastUptoRow.holds Tryz.pinned (Rows.OpenSpec.upto Rows.flatLeastSpec) :=
  OpenClaim.holds_of_cond 6 Tryz.f6 rfl rfl rfl rfl rfl rfl rfl ⟨rfl, rfl, rfl, rfl, rfl⟩ rfl rfl rfl rfl rfl jn Tryz.func6 closed inst wrap
    (fun os started H enc _ F => lifted os started H enc F)
theorem proved : Rows.FlatLeastUptoSaid := over
#print axioms proved
end Go.Proofs.YtgidgoahhepmlaaGreat.flatLeast
