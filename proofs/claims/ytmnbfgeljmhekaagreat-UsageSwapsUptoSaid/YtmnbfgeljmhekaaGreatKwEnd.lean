/- 'UsageSwaps' returns true, for arguments of bulk at most 1048576: exchanging the Kids of nodes that are a TermPar or a TermIf changes nothing of the table. -/
import Derived.Test.YtmnbfgeljmhekaaGreatKw5
import Derived.WalkKit
import Derived.ProofKit
import Derived.OpenShut
import Derived.JoinedCond
import Derived.KernelRfl
namespace Go.Proofs.YtmnbfgeljmhekaaGreat.usageSwaps
open Go.ChangeShapes Go.WideShapes Go.ChangeAt Go.RowKit Go.SX Go.SW Go.Dt
set_option linter.unusedVariables false
set_option maxRecDepth 100000
theorem own : ownKnob Tryz.prog.godebug = none := by kernel_rfl
theorem full : ∀ t e, t < Tryz.prog.types.size → Tryz.prog.underlying t = some (.slice e) → 0 < Tryz.prog.cellsOf e := slices_full_of _ (by kernel_rfl)
theorem contract (H : Type) (enc : TypeId × Value → H) (W : World) (base : Nat) (args : Array Value) (ds gs : List (DataW H)) (before : List MemPlace)
    (hval : ∀ (j : Nat) t v, Tryz.f6.params[j]? = some t → args[j]? = some v → Value.okWide Tryz.prog W .any base t v)
    (hW : DataW.Whole enc Tryz.prog Tryz.f6.params.toList Rows.usageSwapsSpec.vars false W args.toList ds gs before) (hk : Rows.uptoSmall H (ds ++ gs) = true) :
    Calls Tryz.prog 6 args W fun e W' => ∃ v, e = .returned v ∧ Rows.usageSwapsSpec.post enc Tryz.prog Tryz.f6 false true false false W args v W' := by
  have hW' := hW
  obtain ⟨p, q, hA0, hV, rfl, hfz, hnd⟩ := hW
  have hA : DataW.TrodAll enc Tryz.prog W 0 (fun _ => true) true Tryz.f6.params.toList args.toList ds p := hA0
  rw [Tryz.params6] at hA hval
  obtain ⟨v0, vs0, d0, ds0, p0, q0, hargs, rfl, rfl, h0, r0⟩ := trodAll_cons hA
  obtain ⟨v1, vs1, d1, ds1, p1, q1, rfl, rfl, rfl, h1, r1⟩ := trodAll_cons r0
  obtain ⟨rfl, rfl, rfl⟩ := trodAll_nil r1
  obtain rfl : args = #[v0, v1] := by cases args; simp_all
  obtain ⟨rfl, rfl⟩ := trodVars_none hV
  have hb := of_decide_eq_true hk
  simp only [List.cons_append, List.nil_append, Rows.uptoBulkAll] at hb
  obtain ⟨a0, e0, s0⟩ := arg_st aHB Tryz.underlying26 (hval 0 _ v0 rfl rfl) h0 (by omega)
  obtain ⟨a1, e1, s1⟩ := arg_sl (fun n => pA (n := n) Tryz.underlying44 (by kernel_rfl) (fun k => rd_int (n := k) Tryz.underlying5)) Tryz.underlying44 (hval 1 _ v1 rfl rfl) h1 (by omega)
  refine ((aHh F a0 a1 true (aGO s0 (by have := s1.1; omega) s1.2)).calls (W := W) (vs := [v0, v1]) ⟨_, _, rfl, e0, _, _, rfl, e1, rfl⟩).mono fun e W' ⟨m', v, he, hv, hS⟩ => ?_
  have hg : W.keptBut W' (fun _ => False) := aHt hS rfl _
  refine ⟨v, he, _, _, _, [], _, [], hW', ?_, aFe (by kernel_rfl) (by kernel_rfl) full hg (by rw [Tryz.params6]; decide +kernel) hA0, rfl, World.keptBut_mono (fun _ h => h.elim) hg, fun h => by cases h⟩
  cases hv
  exact trodAll_cons_mk (shut_bool Tryz.underlying4 _) trodAll_mk0
theorem lifted (os : Os) (started : os.Started) (H : Type) (enc : TypeId × Value → H) (F : Stop.Interp) :
    ReturnsInHanded {} Tryz.checked os 6 .any ((Rows.OpenSpec.upto Rows.usageSwapsSpec).pre6 enc Tryz.prog Tryz.f6 Rows.usageSwapsUptoRow.domain false) (((Rows.OpenSpec.upto Rows.usageSwapsSpec).at F).post enc Tryz.prog Tryz.f6 false true false false) := by
  refine returnsInHanded_of_cond (C := Tryz.checked) (s := Rows.OpenSpec.upto Rows.usageSwapsSpec) (k := Rows.uptoSmall) rfl own started (by kernel_rfl) Tryz.func6
    (OpenSpec.witness (enc := enc) (C := Tryz.checked) (s := Rows.OpenSpec.upto Rows.usageSwapsSpec) (k := Rows.uptoSmall) rfl false ⟨#[], #[.agg #[.slice none 0 0, .slice none 0 0, .slice none 0 0, .int .i64 0], .slice none 0 0], []⟩ 8 (by kernel_rfl) (by kernel_rfl) (by kernel_rfl)
      (x := ([.agg [.nil, .nil, .nil, .lit (.int .i64 0)], .nil], [], [])) (by kernel_rfl) rfl (by kernel_rfl)) ?_
  intro W base args ds gs before hval hW _ hk _
  exact contract H enc W base args ds gs before hval hW hk
theorem over : Rows.usageSwapsUptoRow.holds Tryz.pinned (Rows.OpenSpec.upto Rows.usageSwapsSpec) :=
  OpenClaim.holds_of_cond 6 Tryz.f6 rfl rfl rfl rfl rfl rfl rfl ⟨rfl, rfl, rfl, rfl, rfl⟩ rfl rfl rfl rfl rfl (by kernel_rfl) Tryz.func6 (by kernel_rfl)
    (of_decide_eq_true (by kernel_rfl)) (by unfold Func.isWrapper; first | (rw [if_pos (by decide +kernel)]; kernel_rfl) | (rw [if_neg (by decide +kernel)]; exact ⟨rfl, rfl⟩))
    (fun os started H enc _ F => lifted os started H enc F)
theorem proved : Rows.UsageSwapsUptoSaid := over
#print axioms proved
end Go.Proofs.YtmnbfgeljmhekaaGreat.usageSwaps
