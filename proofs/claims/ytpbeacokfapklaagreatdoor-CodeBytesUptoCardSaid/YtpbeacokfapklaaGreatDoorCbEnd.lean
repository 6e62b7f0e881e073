/- 'CodeBytes' returns true, for arguments of bulk at most 1048576: the bytes of any code, and the code of any bytes, or the errors, are as the document states. -/
import Derived.Test.YtpbeacokfapklaaGreatDoorCb6
import Derived.Test.YtpbeacokfapklaaGreatDoorCards
import Derived.Test.YtpbeacokfapklaaGreatDoorTie
import Derived.WalkKit
import Derived.ProofKit
import Derived.OpenShut
import Derived.JoinedCond
import Derived.KernelRfl
import Derived.Deep.DeepHandedRow
namespace Go.Proofs.YtpbeacokfapklaaGreatDoor.codeBytes
open Go.ChangeShapes Go.WideShapes Go.ChangeAt Go.RowKit Go.SX Go.SW Go.Dt
set_option linter.unusedVariables false
set_option maxRecDepth 100000
theorem own : ownKnob Tryz.prog.godebug = none := by kernel_rfl
theorem full : ∀ t e, t < Tryz.prog.types.size -> Tryz.prog.underlying t = some (.slice e) -> 0 < Tryz.prog.cellsOf e := slices_full_of _ (by kernel_rfl)
theorem contract (H : Type) (enc : TypeId × Value -> H) (W : World) (base : Nat) (args : Array Value) (ds gs : List (DataW H)) (before : List MemPlace)
    (hval : ∀ (j : Nat) t v, Tryz.f3.params[j]? = some t -> args[j]? = some v -> Value.okWide Tryz.prog W .any base t v)
    (hW : DataW.Whole enc Tryz.prog Tryz.f3.params.toList Rows.codeBytesSpec.vars false W args.toList ds gs before) (hk : Rows.uptoSmall H (ds ++ gs) = true) :
    Calls Tryz.prog 3 args W fun e W' => ∃ v, e = .returned v /\ Rows.codeBytesSpec.post enc Tryz.prog Tryz.f3 false true false false W args v W' := by
  have hW' := hW
  obtain ⟨p, q, hA0, hV, rfl, hfz, hnd⟩ := hW
  have hA : DataW.TrodAll enc Tryz.prog W 0 (fun _ => true) true Tryz.f3.params.toList args.toList ds p := hA0
  rw [Tryz.params3] at hA hval
  obtain ⟨v0, vs0, d0, ds0, p0, q0, hargs, rfl, rfl, h0, r0⟩ := trodAll_cons hA
  obtain ⟨v1, vs1, d1, ds1, p1, q1, rfl, rfl, rfl, h1, r1⟩ := trodAll_cons r0
  obtain ⟨rfl, rfl, rfl⟩ := trodAll_nil r1
  obtain rfl : args = #[v0, v1] := by cases args; simp_all
  obtain ⟨rfl, rfl⟩ := trodVars_none hV
  have hb := of_decide_eq_true hk
  simp only [List.cons_append, List.nil_append, Rows.uptoBulkAll] at hb
  obtain ⟨a0, e0, s0⟩ := arg_st aIj Tryz.underlying25 (hval 0 _ v0 rfl rfl) h0 (by omega)
  obtain ⟨a1, e1, s1⟩ := arg_sl (fun n => rd_bytes n Tryz.underlying26 Tryz.underlying5 (by kernel_rfl)) Tryz.underlying26 (hval 1 _ v1 rfl rfl) h1 (by omega)
  refine ((aGU 4000000 a0 a1 true (aHk (Nat.le_refl _) s0.2.2.1 s0.2.2.2 s1)).calls (W := W) (vs := [v0, v1]) ⟨_, _, rfl, e0, _, _, rfl, e1, rfl⟩).mono fun e W' ⟨m', v, he, hv, hS⟩ => ?_
  have hg : W.keptBut W' (fun _ => False) := aGc hS rfl _
  refine ⟨v, he, _, _, _, [], _, [], hW', ?_, aFd (by kernel_rfl) (by kernel_rfl) full hg (by rw [Tryz.params3]; decide +kernel) hA0, rfl, World.keptBut_mono (fun _ h => h.elim) hg, fun h => by cases h⟩
  cases hv
  exact trodAll_cons_mk (shut_bool Tryz.underlying4 _) trodAll_mk0
def litV {H : Type} : DataW H -> Value
  | .lit (.int k n) => .int k n
  | _ => .bool false
def cellsD : DataW Unit -> Array Value
  | .agg l => (l.map litV).toArray
  | _ => #[]
/-- A world that holds the tables. -/
noncomputable def laidWorld (os : Os) : World := { World.holding Tryz.prog os ⟨#[], #[], []⟩ with heap := ((((World.holding Tryz.prog os ⟨#[], #[], []⟩).heap.modify 0 fun | .cells _ t fr => .cells (cellsD Rows.laid_internal_strconv_uint64pow10) t fr | o => o).modify 6 fun | .cells _ t fr => .cells (cellsD Rows.laid_math_bits_deBruijn32tab) t fr | o => o).modify 7 fun | .cells _ t fr => .cells (cellsD Rows.laid_math_bits_deBruijn64tab) t fr | o => o) }
theorem laid_met (os : Os) : laidMet Tryz.prog Rows.codeBytesUptoRow.laid ((laidWorld os).forCall (fun _ _ => 0) ⟨#[], #[.agg #[.int .i64 0, .slice none 0 0, .slice none 0 0, .int .i64 0], .slice none 0 0], []⟩).memory := laidMet_of_run' 8 (by kernel_rfl) (by kernel_rfl)
theorem reads (os : Os) {H : Type} (enc : TypeId × Value -> H) : ∃ places, DataW.whole enc Tryz.prog ((laidWorld os).forCall (fun _ _ => 0) ⟨#[], #[.agg #[.int .i64 0, .slice none 0 0, .slice none 0 0, .int .i64 0], .slice none 0 0], []⟩).memory Tryz.f3.params.toList Rows.codeBytesSpec.vars false (#[.agg #[.int .i64 0, .slice none 0 0, .slice none 0 0, .int .i64 0], .slice none 0 0] : Array Value).toList 8 = some ([.agg [.lit (.int .i64 0), .nil, .nil, .lit (.int .i64 0)], .nil], [], places) := ⟨[], by kernel_rfl⟩
theorem lifted (os : Os) (started : os.Started) (H : Type) (enc : TypeId × Value -> H) (F : Stop.Interp) :
    ReturnsInHanded {} Tryz.checked os 3 .any ((Rows.OpenSpec.upto Rows.codeBytesSpec).preRow enc Tryz.prog Tryz.f3 Rows.codeBytesUptoRow.domain false Rows.codeBytesUptoRow.laid) (((Rows.OpenSpec.upto Rows.codeBytesSpec).at F).post enc Tryz.prog Tryz.f3 false true false false) := by
  obtain ⟨places, hx⟩ := reads os enc
  refine returnsInHanded_of_row (C := Tryz.checked) (s := Rows.OpenSpec.upto Rows.codeBytesSpec) own started (by kernel_rfl) Tryz.func3
    (witness_row_at (enc := enc) (C := Tryz.checked) false (laidWorld os) #[.agg #[.int .i64 0, .slice none 0 0, .slice none 0 0, .int .i64 0], .slice none 0 0] rfl (by kernel_rfl) (by kernel_rfl) (by kernel_rfl)
      (OpenSpec.preRow_of_cond 8 hx (by kernel_rfl) (fun k hk => by cases hk; kernel_rfl) (by kernel_rfl) (laid_met os))) ?_
  intro W base args ds gs before hval hW _ hc _ _ _ _
  exact contract H enc W base args ds gs before hval hW (hc _ rfl)
theorem j0 : (Rows.codeBytesUptoRow.wf (OpenSpec.ofChange (Rows.OpenSpec.upto Rows.codeBytesSpec).bare)) = true := by kernel_rfl
theorem j1 : (laidOutB Tryz.pinned.checked.prog) = true := by kernel_rfl
theorem j2 : (mapsRowed Tryz.pinned.checked.prog) = true := by kernel_rfl
theorem j9 : (Rows.codeBytesUptoRow.inPlace == Program.inPlace Tryz.pinned.checked.prog 3) = true := by kernel_rfl
theorem j10 : (Rows.codeBytesUptoRow.unfollowed == Program.unfollowed Tryz.pinned.checked.prog 3) = true := by kernel_rfl
theorem j11 : (Rows.codeBytesUptoRow.recurses == Program.recurses Tryz.pinned.checked.prog 3) = true := by kernel_rfl
theorem j12 : (Rows.codeBytesUptoRow.named == Program.varsNamed Tryz.pinned.checked.prog 3) = true := by kernel_rfl
theorem j22 : (Rows.codeBytesUptoRow.plainKeys == Program.plainKeys Tryz.pinned.checked.prog) = true := by kernel_rfl
theorem j24 : (Program.stopsHeard Tryz.pinned.checked.prog) = true := by kernel_rfl
theorem j25 : (Program.mayEnter Tryz.pinned.checked.prog) = true := by kernel_rfl
theorem j26 : (Rows.codeBytesUptoRow.lifted == Program.liftsFinal Tryz.pinned.checked.prog) = true := by kernel_rfl
theorem j27 : (Program.make Tryz.pinned.checked.prog == some Rows.codeBytesUptoRow.make) = true := by kernel_rfl
theorem jn : Program.funcNamed Tryz.pinned.checked.prog Rows.codeBytesUptoRow.func = some 3 := by kernel_rfl
theorem jand {a b : Bool} (h : a = true) (k : b = true) : (a && b) = true := by subst h; subst k; rfl
theorem closed : joinedFacts Tryz.pinned.checked.prog 3 Tryz.f3 (Rows.OpenSpec.upto Rows.codeBytesSpec).bare Rows.codeBytesUptoRow = true := by
  unfold joinedFacts
  refine jand (jand (jand (jand (jand (jand (jand (jand (jand (jand (jand (jand (jand (jand (jand (jand (jand (jand (jand (jand (jand (jand (jand (jand (jand (jand (jand (jand (jand (jand (jand j0 j1) j2) ?_) ?_) ?_) ?_) ?_) ?_) j9) j10) j11) j12) ?_) ?_) ?_) ?_) ?_) ?_) ?_) ?_) ?_) j22) ?_) j24) j25) j26) j27) ?_) ?_) ?_) ?_ <;> kernel_rfl
theorem inst : (Tryz.f3).isInstance Tryz.pinned.checked.prog Rows.codeBytesUptoRow.origin Rows.codeBytesUptoRow.targs := of_decide_eq_true (by kernel_rfl)
theorem wrap : (Tryz.f3).isWrapper Tryz.pinned.checked.prog Rows.codeBytesUptoRow.wrapper Rows.codeBytesUptoRow.mainSum := by
  unfold Func.isWrapper; first | (rw [if_pos (by decide +kernel)]; kernel_rfl) | (rw [if_neg (by decide +kernel)]; exact ⟨rfl, rfl⟩)
theorem over : Rows.codeBytesUptoRow.holds Tryz.pinned (Rows.OpenSpec.upto Rows.codeBytesSpec) :=
  OpenClaim.holds_of_cond 3 Tryz.f3 rfl rfl rfl rfl rfl rfl rfl ⟨rfl, rfl, rfl, rfl, rfl⟩ rfl rfl rfl rfl rfl jn Tryz.func3 closed inst wrap
    (fun os started H enc _ F => by rw [OpenClaim.pre_eq_preRow]; exact lifted os started H enc F)
theorem plain (f : FuncId) (fn : Func) (hf : Tryz.pinned.checked.prog.funcNamed "cabotage/cabotagelaw09.CodeBytes" = some f) (hfn : Tryz.pinned.checked.prog.funcs[f]? = some fn) :
    true = Tryz.pinned.checked.prog.looks [] /\ ∀ (j : Nat) t, fn.params[j]? = some t -> Tryz.pinned.checked.prog.wantsStandIn t = false := by
  obtain rfl : f = 3 := Option.some.inj ((show Tryz.prog.funcNamed "cabotage/cabotagelaw09.CodeBytes" = some 3 by kernel_rfl).symm.trans hf) |>.symm
  obtain rfl : fn = Tryz.f3 := (Option.some.inj (Tryz.func3.symm.trans hfn)).symm
  refine ⟨by kernel_rfl, fun j t ht => ?_⟩
  rw [Tryz.params3] at ht
  obtain rfl | rfl : t = 25 \/ t = 26 := by simpa using Array.mem_of_getElem? ht
  · exact (show Tryz.prog.wantsStandIn 25 = false by kernel_rfl)
  · exact (show Tryz.prog.wantsStandIn 26 = false by kernel_rfl)
theorem proved : Rows.CodeBytesUptoCardSaid :=
  Claim7.holds_tied_plain_at .later [] _ _ _ _ over (fun _ h => by cases h) (by kernel_rfl) (fun _ h => by cases h) codeBytesUpto_row_tie rfl ⟨rfl, rfl⟩ (by kernel_rfl) rfl plain (by kernel_rfl)
#print axioms proved
end Go.Proofs.YtpbeacokfapklaaGreatDoor.codeBytes
