/- Parts of the proof: lemmas, and the steps through the program. -/
import Derived.Test.YtmnbfgeljmhekaaKl2
set_option linter.unusedVariables false
set_option linter.unusedSimpArgs false
set_option maxRecDepth 100000
set_option maxHeartbeats 2000000
namespace Go.Proofs.Ytmnbfgeljmhekaa
open Go.SX Go.SW Go.Dt
attribute [local irreducible] Code.wpIn wpListIn Exit.then Exit.inBlock
def lP (a1 : List UsageDef) (a3 : Int) (y1 : ScopeNode) (y2 : aQ Int Usage_channel) : Nat → Int → Int → Option (Int)
| 0, _, _ => none
| k + 1, x5, x6 =>
 if x6 < (y1.Args.length : Int) then
  ((idx y1.Args x6).bind fun y4 =>
  if y4.Op ≠ 2 then
   some x5
  else
   if y4.N ≠ a3 then
    some x5
   else
    bif (y2.get y1.N).isSome then
     (idx a1 (((y2.get y1.N).getD (⟨0, 0⟩ : Usage_channel)).def_)).bind fun y5 =>
     (idx y5.Args (((y2.get y1.N).getD (⟨0, 0⟩ : Usage_channel)).index)).bind fun y6 =>
     (idx y6 x6).bind fun y7 =>
     (mM y7).bind fun y8 =>
     (pO x5 y8).bind fun y9 =>
     some y9
    else
     some 2).bind fun x7 =>
  (chk (x6 + 1)).bind fun z1 =>
  lP a1 a3 y1 y2 k x7 z1
 else
  some x5
def yE (fuel : Nat) (a0 : Usage_text) (a1 : List UsageDef) (a2 : Int) (a3 : Int) : Option (Int) :=
 (idx a0.ScopeProg.Nodes a2).bind fun y1 =>
 (idx a0.denotes a2).bind fun y2 =>
 (bif (y2.get y1.N).isSome then
  (pU a0 (⟨((y2.get y1.N).getD (⟨0, 0⟩ : Usage_channel)).def_, ((y2.get y1.N).getD (⟨0, 0⟩ : Usage_channel)).index⟩ : Usage_channel) a2).bind fun y3 =>
  bif y3 then
   some (Sum.inl ())
  else
   (some 0).bind fun r => some (Sum.inr r)
 else
  some (Sum.inl ())).bind fun o => match o with
 | Sum.inr r => some r
 | Sum.inl _ =>
 (if y1.N = a3 then
  some 1
 else
  some 0).bind fun x1 =>
 (lP a1 a3 y1 y2 fuel x1 0).bind fun x2 =>
 some x2
theorem aH0 (fuel : Nat)  (a0 : Usage_text) (a1 : List UsageDef) (a2 : Int) (a3 : Int) (r : Int) (H : yE fuel a0 a1 a2 a3 = some r) : FnS Try.prog 66 [aF bG a0, fSl aZ a1, aA .i64 a2, aA .i64 a3] [] (aA .i64 r) (fun _ => []) := by
 unfold yE at H
 refine bF Try.func66 rfl Try.ntmps66 rfl (fun β => ?_)
 revert H; refine B10 fun y1 h1 H => ?_
 refine Z2 ?_
 refine aT trivial rfl rfl (cN rfl qE rfl) (fun b1 => ?_)
 refine dP (φs' := [aA .i64 y1.Op, aA .i64 y1.N, fSl bD y1.Args, fSl (aB .i64) y1.Kids]) trivial rfl rfl (has rfl) (has rfl) (aO (aD trivial) (aO (aD trivial) (aO (bC) (aO (bC) bY)))) (sz rfl) rfl rfl rfl ?_
 refine Z1 ?_
 refine aH ?_
 revert H; refine bs fun y2 h2 H => ?_
 apply bI (ods := [_, _, _, _, _, _, _, _, _, _, _, _, _, _, _, _]) 16 1 2 bH rfl rfl rfl
 refine ND ?_
 refine M8 ?_
 intros
 refine M1 ?_
 intros
 refine My (aDs (zα := (⟨0, 0⟩ : Usage_channel)) (k := y1.N) rfl hh hh rfl wT (sJ [(.int .i64 0), (.int .i64 0)])) fun _ => ?_
 refine M3 ?_
 intros
 refine Mn 1 (fun b2 => ptr b2) (fun b2 => aC b2 129 [aA .i64 0, aA .i64 0]) rfl (cN rfl aBr rfl) (fun b2 u1 => ?_)
 refine wF (od := od1 13 [1] true (fun b2 _ => fAny) (fun b2 _ => [aC b2 129 [aA .i64 (((y2.get y1.N).getD (⟨0, 0⟩ : Usage_channel)).def_), aA .i64 (((y2.get y1.N).getD (⟨0, 0⟩ : Usage_channel)).index)]])) (p := 1) (φs' := [aA .i64 (((y2.get y1.N).getD (⟨0, 0⟩ : Usage_channel)).def_), aA .i64 (((y2.get y1.N).getD (⟨0, 0⟩ : Usage_channel)).index)]) rfl (fun _ => rfl) (fun _ => rfl) trivial rfl rfl rfl (has rfl) (has rfl) (aO (aD trivial) (aO (aD trivial) bY)) (sz rfl) rfl rfl rfl (fun _ => ?_)
 refine M1 ?_
 intros
 revert H; refine B2 fun o1 H Hr1 => ?_
 refine aX (ι := Unit) (fun i => o1 = Sum.inl ()) (fun i => [(1, fSl aZ a1), (3, aA .i64 a3), (9, fEq (ptr b1)), (10, fEq (ptr b2)), (11, aG ((y2.get y1.N).isSome))]) (fun i => [aC b1 56 [aA .i64 y1.Op, aA .i64 y1.N, fSl bD y1.Args, fSl (aB .i64) y1.Kids], aC b2 129 [aA .i64 (((y2.get y1.N).getD (⟨0, 0⟩ : Usage_channel)).def_), aA .i64 (((y2.get y1.N).getD (⟨0, 0⟩ : Usage_channel)).index)]]) ?_ ?_
 refine Z3 ?_
 revert H; refine cs (fun c1 H => ?_) fun c1 H => ?_
 revert H; refine B3 fun y3 h3 H => ?_
 refine Tc (aFi _ _ _ _ h3) ?_
 refine Z3 ?_
 revert H; refine cs (fun c2 H => ?_) fun c2 H => ?_
 refine Z3 ?_
 exact Tm (()) (ij H)
 revert H; refine B5 fun r1 H e1 => ?_
 cases e1; cases Hr1
 cases H
 refine aI [] (by decide) ?_
 exact To
 refine Z10 ?_
 exact Tm (()) (ij H)
 clear H; intro i hi; subst o1; have H := Hr1; clear Hr1; try dsimp only at H
 try dsimp only
 revert H; refine B3 fun o2 H Hr2 => ?_
 refine aX (ι := Int) (fun i => o2 = i) (fun i => [(1, fSl aZ a1), (3, aA .i64 a3), (9, fEq (ptr b1)), (10, fEq (ptr b2)), (11, aG ((y2.get y1.N).isSome)), (12, aA .i64 i)]) (fun i => [aC b1 56 [aA .i64 y1.Op, aA .i64 y1.N, fSl bD y1.Args, fSl (aB .i64) y1.Kids], aC b2 129 [aA .i64 (((y2.get y1.N).getD (⟨0, 0⟩ : Usage_channel)).def_), aA .i64 (((y2.get y1.N).getD (⟨0, 0⟩ : Usage_channel)).index)]]) ?_ ?_
 revert H; refine I6 (fun c3 H => ?_) fun c3 H => ?_
 refine Z4 ?_
 exact Tm (1) (ij H)
 refine Z3 ?_
 exact Tm (0) (ij H)
 clear H; intro x1 hi; subst o2; have H := Hr2; clear Hr2; try dsimp only at H
 try dsimp only
 revert H; refine bs fun o3 H Hr3 => ?_
 refine aX (ι := Int) (fun i => o3 = i) (fun i => [(12, aA .i64 i)]) (fun i => [aC b1 56 [aA .i64 y1.Op, aA .i64 y1.N, fSl bD y1.Args, fSl (aB .i64) y1.Kids], aC b2 129 [aA .i64 (((y2.get y1.N).getD (⟨0, 0⟩ : Usage_channel)).def_), aA .i64 (((y2.get y1.N).getD (⟨0, 0⟩ : Usage_channel)).index)]]) ?_ ?_
 refine Z7 ?_
 refine Tl (ι := Nat × Int × Int) (fun i => lP a1 a3 y1 y2 i.1 i.2.1 i.2.2 = _) (fun i => i.1) (fun i => [(1, fSl aZ a1), (3, aA .i64 a3), (10, fEq (ptr b2)), (11, aG ((y2.get y1.N).isSome)), (12, aA .i64 i.2.1), (49, fSl bD y1.Args), (50, aA .i64 (y1.Args.length : Int)), (51, aA .i64 i.2.2)]) (fun i => [aC b1 56 [aA .i64 y1.Op, aA .i64 y1.N, fSl bD y1.Args, fSl (aB .i64) y1.Kids], aC b2 129 [aA .i64 (((y2.get y1.N).getD (⟨0, 0⟩ : Usage_channel)).def_), aA .i64 (((y2.get y1.N).getD (⟨0, 0⟩ : Usage_channel)).index)]]) (fuel, x1, 0) H ?_
 clear H; rintro ⟨k1, x5, x6⟩ H
 replace H : lP a1 a3 y1 y2 k1 x5 x6 = _ := H
 try dsimp only
 obtain _ | k1 := k1
 rw [lP] at H; cases H
 rw [lP] at H
 refine Z3 ?_
 refine aH ?_
 revert H; refine is (fun c4 H => ?_) fun c4 H => ?_
 revert H; refine B3 fun o4 H Hr4 => ?_
 refine aX (ι := Int) (fun i => o4 = i) (fun i => [(1, fSl aZ a1), (3, aA .i64 a3), (10, fEq (ptr b2)), (11, aG ((y2.get y1.N).isSome)), (12, aA .i64 i), (49, fSl bD y1.Args), (50, aA .i64 (y1.Args.length : Int)), (51, aA .i64 x6)]) (fun i => [aC b1 56 [aA .i64 y1.Op, aA .i64 y1.N, fSl bD y1.Args, fSl (aB .i64) y1.Kids], aC b2 129 [aA .i64 (((y2.get y1.N).getD (⟨0, 0⟩ : Usage_channel)).def_), aA .i64 (((y2.get y1.N).getD (⟨0, 0⟩ : Usage_channel)).index)]]) ?_ ?_
 revert H; refine B3 fun y4 h4 H => ?_
 refine Z2 ?_
 refine aT trivial rfl rfl (cN rfl aCw rfl) (fun b3 => ?_)
 refine Z1 ?_
 refine dP (φs' := [aA .i64 y4.Op, aA .i64 y4.N, fZ y4.Kids]) trivial rfl rfl (has rfl) (has rfl) (aO (aD trivial) (aO (aD trivial) (aO (aAe) bY))) (sz rfl) rfl rfl rfl ?_
 revert H; refine I7 (fun c5 H => ?_) fun c5 H => ?_
 refine Z12 ?_
 refine aI [1, 2] (by decide) ?_
 exact Tm (x5) (ij H)
 revert H; refine I7 (fun c6 H => ?_) fun c6 H => ?_
 refine Z5 ?_
 refine aI [1, 2] (by decide) ?_
 exact Tm (x5) (ij H)
 refine Z5 ?_
 revert H; refine cs (fun c7 H => ?_) fun c7 H => ?_
 revert H; refine B1 fun y5 h5 H => ?_
 revert H; refine bs fun y6 h6 H => ?_
 revert H; refine bs fun y7 h7 H => ?_
 revert H; refine bs fun y8 h8 H => ?_
 revert H; refine bs fun y9 h9 H => ?_
 apply bI (ods := [_, _, _, _, _, _, _, _, _, _, _, _, _, _, _, _, _]) 17 0 3 bH rfl rfl rfl
 refine ND ?_
 refine M8 ?_
 intros
 refine M6 ?_
 intros
 refine Nc (uZ _ _ h8) fun _ => ?_
 refine Nc (zI _ _ _ h9) fun _ => ?_
 refine M1 ?_
 intros
 refine Z5 ?_
 refine aI [1, 2] (by decide) ?_
 exact Tm (y9) (ij H)
 exact fk
 kernel_rfl
 refine Z7 ?_
 refine aI [1, 2] (by decide) ?_
 exact Tm (2) (ij H)
 clear H; intro x7 hi; subst o4; have H := Hr4; clear Hr4; try dsimp only at H
 try dsimp only
 revert H; refine B1 fun z1 h10 H => ?_
 refine Z3 ?_
 exact Tm ((k1, x7, z1)) ⟨H, ls⟩
 refine Z6 ?_
 exact Tm (x5) (ij H)
 clear H; intro x2 hi; subst o3; have H := Hr3; clear Hr3; try dsimp only at H
 try dsimp only
 refine Z5 ?_
 cases H
 refine aI [] (by decide) ?_
 exact To
 exact fk
 kernel_rfl
def oX (a0 : Int) (a1 : Int) : Option (Int) :=
 if a0 < a1 then
  some a1
 else
  some a0
theorem aFH  (a0 : Int) (a1 : Int) (r : Int) (H : oX a0 a1 = some r) : FnS Try.prog 69 [aA .i64 a0, aA .i64 a1] [] (aA .i64 r) (fun _ => []) := by
 unfold oX at H
 refine bF Try.func69 rfl Try.ntmps69 rfl (fun β => ?_)
 refine Z3 ?_
 refine aH ?_
 revert H; refine I5 (fun c1 H => ?_) fun c1 H => ?_
 refine Z6 ?_
 cases H
 exact To
 refine Z8 ?_
 cases H
 exact To
def xN (a0 : Int) (a1 : Int) : Option (Int) :=
 (chk (a0 * a1)).bind fun z1 =>
 some (min z1 2)
theorem aH4  (a0 : Int) (a1 : Int) (r : Int) (H : xN a0 a1 = some r) : FnS Try.prog 83 [aA .i64 a0, aA .i64 a1] [] (aA .i64 r) (fun _ => []) := by
 unfold xN at H
 refine bF Try.func83 rfl Try.ntmps83 rfl (fun β => ?_)
 revert H; refine B6 fun z1 h1 H => ?_
 refine Z5 ?_
 cases H
 exact To
def rC (rec_usage_text_sends : Usage_text → (List UsageDef) → Int → Int → Option (Int)) (a0 : Usage_text) (a1 : List UsageDef) (a3 : Int) (x1 : Int) (x3 : Int) : Option (Int) :=
 (rec_usage_text_sends a0 a1 x1 a3).bind fun y6 =>
 (pO x3 y6).bind fun y7 =>
 some y7
def oP (rec_usage_text_sends : Usage_text → (List UsageDef) → Int → Int → Option (Int)) (a0 : Usage_text) (a1 : List UsageDef) (a3 : Int) (y1 : ScopeNode) (y8 : ScopeDef) : Nat → Int → Int → Option (Int)
| 0, _, _ => none
| k + 1, x8, x9 =>
 if x8 < (y8.Rules.length : Int) then
  (idx y8.Rules x8).bind fun y9 =>
  (idx a1 y1.N).bind fun y10 =>
  (idx y10.Rules x8).bind fun y11 =>
  (mM y11).bind fun y12 =>
  (rec_usage_text_sends a0 a1 y9.Node a3).bind fun y13 =>
  (xN y12 y13).bind fun y14 =>
  (pO x9 y14).bind fun y15 =>
  (chk (x8 + 1)).bind fun z1 =>
  oP rec_usage_text_sends a0 a1 a3 y1 y8 k z1 y15
 else
  some x9
mutual
def fF : Nat → Usage_text → (List UsageDef) → Int → Int → Option (Int)
| 0, _, _, _, _ => none
| fuel + 1, a0, a1, a2, a3 =>
 (idx a0.ScopeProg.Nodes a2).bind fun y1 =>
 if y1.Op = 2 then
  (yE fuel a0 a1 a2 a3).bind fun y2 =>
  some y2
 else
  if y1.Op = 3 then
   ((qU fuel) a0 a1 a2 a3 (fun x => pO x.1 x.2)).bind fun y3 =>
   some y3
  else
   if y1.Op = 5 then
    ((qU fuel) a0 a1 a2 a3 (fun x => oX x.1 x.2)).bind fun y4 =>
    some y4
   else
    (if y1.Op = 6 then
     some (decide (y1.Op = 6))
    else
     some (decide (y1.Op = 8))).bind fun x1 =>
    bif x1 then
     (idx a0.ScopeProg.Nodes a2).bind fun y5 =>
     (idx y5.Kids 0).bind fun y6 =>
     ((fF fuel) a0 a1 y6 a3).bind fun y7 =>
     some y7
    else
     if y1.Op = 4 then
      ((oL fuel) a0 a1 a2 a3).bind fun y8 =>
      some y8
     else
      some 0
def qU : Nat → Usage_text → (List UsageDef) → Int → Int → (Int × Int → Option Int) → Option (Int)
| 0, _, _, _, _, _ => none
| fuel + 1, a0, a1, a2, a3, a4 =>
 (idx a0.ScopeProg.Nodes a2).bind fun y1 =>
 (idx y1.Kids 0).bind fun y2 =>
 ((fF fuel) a0 a1 y2 a3).bind fun y3 =>
 (idx y1.Kids 1).bind fun y4 =>
 ((fF fuel) a0 a1 y4 a3).bind fun y5 =>
 (a4 (y3, y5)).bind fun y6 =>
 some y6
def oL : Nat → Usage_text → (List UsageDef) → Int → Int → Option (Int)
| 0, _, _, _, _ => none
| fuel + 1, a0, a1, a2, a3 =>
 (idx a0.ScopeProg.Nodes a2).bind fun y1 =>
 (idx y1.Kids 0).bind fun y2 =>
 ((fF fuel) a0 a1 y2 a3).bind fun y3 =>
 (qM a0 y1.N).bind fun y4 =>
 (rW fuel (fun (x : Int) (t : Int) => rC (fF fuel) a0 a1 a3 x t) y3 y4.1 y4.2).bind fun y5 =>
 ((idx a0.ScopeProg.Defs y1.N).bind fun y8 =>
 oP (fF fuel) a0 a1 a3 y1 y8 fuel 0 y5).bind fun x5 =>
 some x5
end
theorem aC5 : ∀ (fuel : Nat), (∀  (a0 : Usage_text) (a1 : List UsageDef) (a2 : Int) (a3 : Int) (r : Int) (H : fF fuel a0 a1 a2 a3 = some r), FnS Try.prog 45 [aF bG a0, fSl aZ a1, aA .i64 a2, aA .i64 a3] [] (aA .i64 r) (fun _ => [])) ∧ (∀  (a0 : Usage_text) (a1 : List UsageDef) (a2 : Int) (a3 : Int) (a4 : Int × Int → Option Int) (r : Int) (H : qU fuel a0 a1 a2 a3 a4 = some r), FnS Try.prog 67 [aF bG a0, fSl aZ a1, aA .i64 a2, aA .i64 a3, fFn Try.prog (fun (x : Int × Int) => [aA .i64 x.1, aA .i64 x.2]) (fun (r : Int) => aA .i64 r) a4] [] (aA .i64 r) (fun _ => [])) ∧ (∀  (a0 : Usage_text) (a1 : List UsageDef) (a2 : Int) (a3 : Int) (r : Int) (H : oL fuel a0 a1 a2 a3 = some r), FnS Try.prog 70 [aF bG a0, fSl aZ a1, aA .i64 a2, aA .i64 a3] [] (aA .i64 r) (fun _ => [])) := by
 intro fuel
 induction fuel with
 | zero => exact ⟨fun a0 a1 a2 a3 r H => (by rw [fF] at H; cases H), fun a0 a1 a2 a3 a4 r H => (by rw [qU] at H; cases H), fun a0 a1 a2 a3 r H => (by rw [oL] at H; cases H)⟩
 | succ fuel ih =>
 obtain ⟨ih_usage_text_sends, ih_usage_text_both, ih_usage_text_inner⟩ := ih
 refine ⟨?_, ?_, ?_⟩
 intro a0 a1 a2 a3 r H
 rw [fF] at H
 refine bF Try.func45 rfl Try.ntmps45 rfl (fun β => ?_)
 refine Z3 ?_
 refine aH ?_
 revert H; refine B7 fun y1 h1 H => ?_
 revert H; refine I9 (fun c1 H => ?_) fun c1 H => ?_
 revert H; refine B6 fun y2 h2 H => ?_
 refine Tc (aH0 _ _ _ _ _ _ h2) ?_
 refine Z5 ?_
 cases H
 exact To
 revert H; refine I5 (fun c2 H => ?_) fun c2 H => ?_
 revert H; refine B6 fun y3 h3 H => ?_
 refine gU trivial rfl rfl rfl (has rfl) (aJ.cons (has rfl) (aJ.cons (has rfl) (aJ.cons (has rfl) (aJ.cons (has rfl) (aJ.cons (dA rfl (mT (cb rfl) (fun x r hx => zI x.1 x.2 r hx))) aJ.nil))))) rfl (cb rfl) (ih_usage_text_both a0 a1 a2 a3 (fun x => pO x.1 x.2) y3 h3) rfl ?_
 refine Z5 ?_
 cases H
 exact To
 revert H; refine I5 (fun c3 H => ?_) fun c3 H => ?_
 revert H; refine B6 fun y4 h4 H => ?_
 refine gU trivial rfl rfl rfl (has rfl) (aJ.cons (has rfl) (aJ.cons (has rfl) (aJ.cons (has rfl) (aJ.cons (has rfl) (aJ.cons (dA rfl (mT (cb rfl) (fun x r hx => aFH x.1 x.2 r hx))) aJ.nil))))) rfl (cb rfl) (ih_usage_text_both a0 a1 a2 a3 (fun x => oX x.1 x.2) y4 h4) rfl ?_
 refine Z5 ?_
 cases H
 exact To
 revert H; refine B1 fun o1 H Hr1 => ?_
 refine aX (ι := Bool) (fun i => o1 = i) (fun i => [(0, aF bG a0), (1, fSl aZ a1), (2, aA .i64 a2), (3, aA .i64 a3), (17, aA .i64 y1.Op), (39, aG i)]) (fun i => []) ?_ ?_
 revert H; refine I4 (fun c4 H => ?_) fun c4 H => ?_
 refine Z3 ?_
 exact Tm (decide (y1.Op = 6)) (ij H)
 refine Z5 ?_
 exact Tm (decide (y1.Op = 8)) (ij H)
 clear H; intro x1 hi; subst o1; have H := Hr1; clear Hr1; try dsimp only at H
 try dsimp only
 revert H; refine cs (fun c5 H => ?_) fun c5 H => ?_
 revert H; refine B10 fun y5 h5 H => ?_
 revert H; refine B3 fun y6 h6 H => ?_
 revert H; refine B3 fun y7 h7 H => ?_
 refine Tc (ih_usage_text_sends _ _ _ _ _ h7) ?_
 refine Z5 ?_
 cases H
 exact To
 revert H; refine I5 (fun c6 H => ?_) fun c6 H => ?_
 revert H; refine B6 fun y8 h8 H => ?_
 refine Tc (ih_usage_text_inner _ _ _ _ _ h8) ?_
 refine Z5 ?_
 cases H
 exact To
 refine Z8 ?_
 cases H
 exact To
 intro a0 a1 a2 a3 a4 r H
 rw [qU] at H
 refine bF Try.func67 rfl Try.ntmps67 rfl (fun β => ?_)
 revert H; refine B10 fun y1 h1 H => ?_
 refine Z5 ?_
 refine aH ?_
 revert H; refine bs fun y2 h2 H => ?_
 revert H; refine bs fun y3 h3 H => ?_
 revert H; refine bs fun y4 h4 H => ?_
 revert H; refine bs fun y5 h5 H => ?_
 revert H; refine bs fun y6 h6 H => ?_
 apply bI (ods := [_, _, _, _, _, _, _, _, _, _, _, _, _, _, _, _, _]) 17 0 0 bH rfl rfl rfl
 refine ND ?_
 refine M7 ?_
 intros
 refine Nc (ih_usage_text_sends _ _ _ _ _ h3) fun _ => ?_
 refine M6 ?_
 intros
 refine Nc (ih_usage_text_sends _ _ _ _ _ h5) fun _ => ?_
 refine aDz (od := odC [] true (aA .i64 y6) []) (Φ := aA .i64 y6) (y3, y5) rfl (fun _ => rfl) trivial rfl rfl (has rfl) (aJ.cons (has rfl) (aJ.cons (has rfl) aJ.nil)) h6 rfl (fun _ => ?_)
 refine M1 ?_
 intros
 refine Z3 ?_
 cases H
 exact To
 exact fk
 kernel_rfl
 intro a0 a1 a2 a3 r H
 rw [oL] at H
 refine vS Try.func70 rfl Try.ntmps70 rfl (fun β => ?_)
 refine Z1 ?_
 refine aT trivial rfl rfl (cG rfl (has rfl) (aS (tD))) (fun b1 => ?_)
 refine aT trivial rfl rfl (cG rfl (has rfl) (aS (bC))) (fun b2 => ?_)
 refine aT trivial rfl rfl (cG rfl (has rfl) (aS (aD trivial))) (fun b3 => ?_)
 revert H; refine B9 fun y1 h1 H => ?_
 refine Z2 ?_
 refine aT trivial rfl rfl (cN rfl qE rfl) (fun b4 => ?_)
 refine dP (φs' := [aA .i64 y1.Op, aA .i64 y1.N, fSl bD y1.Args, fSl (aB .i64) y1.Kids]) trivial rfl rfl (has rfl) (has rfl) (aO (aD trivial) (aO (aD trivial) (aO (bC) (aO (bC) bY)))) (sz rfl) rfl rfl rfl ?_
 refine Z1 ?_
 refine aH ?_
 revert H; refine bs fun y2 h2 H => ?_
 revert H; refine bs fun y3 h3 H => ?_
 apply bI (ods := [_, _, _, _, _, _, _, _, _, _]) 10 1 5 bH rfl rfl rfl
 refine ND ?_
 refine M7 ?_
 intros
 refine Nc (ih_usage_text_sends _ _ _ _ _ h3) fun _ => ?_
 refine Mn 4 (fun b5 => ptr b5) (fun b5 => aC b5 80 [aA .i64 0]) rfl (cN rfl aFr rfl) (fun b5 u1 => ?_)
 refine kM (od := od1 8 [4] true (fun b5 _ => fAny) (fun b5 _ => [aC b5 80 [aA .i64 y3]])) (p := 4) (φs' := [aA .i64 y3]) rfl (fun _ => rfl) (fun _ => rfl) trivial rfl rfl rfl (has rfl) (has rfl) (aD trivial) (sz rfl) rfl rfl (fun _ => ?_)
 refine Z2 ?_
 refine aH ?_
 revert H; refine B4 fun y4 h4 H => ?_
 refine gU trivial rfl rfl rfl (has rfl) (aJ.cons (dA rfl aEI) (aJ.cons (has rfl) aJ.nil)) rfl (cb rfl) (aBa a0 y1.N y4 h4) rfl ?_
 refine Z2 ?_
 refine T_sub [(0, aF bG a0), (1, fSl aZ a1), (2, aA .i64 a2), (3, aA .i64 a3), (4, fEq (ptr b1)), (5, fEq (ptr b2)), (7, fEq (ptr b3)), (8, aA .i64 0), (14, aF bG a0), (15, aF bG a0), (16, aF dM a0.ScopeProg), (17, aF (tSl aM) a0.ScopeProg.Nodes), (18, fSl aM a0.ScopeProg.Nodes), (19, aA .i64 a2), (20, aF aM y1), (21, fSt aM y1), (9, fEq (ptr b4)), (22, aF bG a0), (23, fSl aZ a1), (24, fEq (.pointer (some ⟨b4, 3, none⟩))), (25, fSl (aB .i64) y1.Kids), (26, aF (aB .i64) y2), (27, aA .i64 y2), (28, aA .i64 a3), (29, aA .i64 y3), (10, fEq (ptr b5)), (30, aF bG a0), (31, fEq (.pointer (some ⟨b4, 1, none⟩))), (32, aA .i64 y1.N), (33, cX 78 [aF (fK eE) y4.1, aF (aB .i64) y4.2])] (Sc (Sc (Sc (Sc (Sc (Sc (Sc (Sc (Sc (Sc (Sc (Sc (Sc (Sc (Sc (Sc (Sc (Sc (Sc (Sc (Sc (Sc (Sc (Sc (Sc (Sc (Sc (Sc (Sc (Sc fY.nil)))))))))))))))))))))))))))))) ?_
 revert H; refine bs fun y5 h5 H => ?_
 refine yU (s := y3) (s' := y5) (fun (x : Int) => [aA .i64 x]) (fun (x : Int) (t : Int) => rC (fF fuel) a0 a1 a3 x t) (fun (t : Int) => [aC b4 56 [aA .i64 y1.Op, aA .i64 y1.N, fSl bD y1.Args, fSl (aB .i64) y1.Kids], aC b3 3 [aA .i64 a3], aC b2 27 [fSl aZ a1], aC b1 71 [aF bG a0], aC b5 80 [aA .i64 t]]) (has rfl) (cb rfl) rfl (fun _ => rfl) rfl (fun J => aBJ fuel J (fun (x : Int) (t : Int) => rC (fF fuel) a0 a1 a3 x t) y3 y4.1 y4.2 y5 h5) (fun β' l rec x1 t t' hs hp hY => ?_) (fun rb => ?_)
 generalize t = x3 at *
 have H : rC (fF fuel) a0 a1 a3 x1 x3 = some t' := hY; clear hY; unfold rC at H; try dsimp only at H
 show T β' _ _ (qV [34] ((fun (x : Int) => [aA .i64 x]) x1) [(0, aF bG a0), (1, fSl aZ a1), (2, aA .i64 a2), (3, aA .i64 a3), (4, fEq (ptr b1)), (5, fEq (ptr b2)), (7, fEq (ptr b3)), (8, aA .i64 0), (14, aF bG a0), (15, aF bG a0), (16, aF dM a0.ScopeProg), (17, aF (tSl aM) a0.ScopeProg.Nodes), (18, fSl aM a0.ScopeProg.Nodes), (19, aA .i64 a2), (20, aF aM y1), (21, fSt aM y1), (9, fEq (ptr b4)), (22, aF bG a0), (23, fSl aZ a1), (24, fEq (.pointer (some ⟨b4, 3, none⟩))), (25, fSl (aB .i64) y1.Kids), (26, aF (aB .i64) y2), (27, aA .i64 y2), (28, aA .i64 a3), (29, aA .i64 y3), (10, fEq (ptr b5)), (30, aF bG a0), (31, fEq (.pointer (some ⟨b4, 1, none⟩))), (32, aA .i64 y1.N), (33, cX 78 [aF (fK eE) y4.1, aF (aB .i64) y4.2])]) (tObj l (.loop rec) :: [aC b4 56 [aA .i64 y1.Op, aA .i64 y1.N, fSl bD y1.Args, fSl (aB .i64) y1.Kids], aC b3 3 [aA .i64 a3], aC b2 27 [fSl aZ a1], aC b1 71 [aF bG a0], aC b5 80 [aA .i64 x3]]) _
 refine Z3 ?_
 refine aAQ hs ?_
 revert H; refine B1 fun y6 h6 H => ?_
 revert H; refine bs fun y7 h7 H => ?_
 apply bI (ods := [_, _, _, _, _, _, _, _]) 8 0 6 bH rfl rfl rfl
 refine ND ?_
 refine M5 ?_
 intros
 refine Nc (ih_usage_text_sends _ _ _ _ _ h6) fun _ => ?_
 refine Nc (zI _ _ _ h7) fun _ => ?_
 refine kM (od := odC [5] true (fAny) [aC b5 80 [aA .i64 y7]]) (p := 5) (φs' := [aA .i64 y7]) rfl (fun _ => rfl) (fun _ => rfl) trivial rfl rfl rfl (has rfl) (has rfl) (aD trivial) (sz rfl) rfl rfl (fun _ => ?_)
 refine Z3 ?_
 refine aI [1, 2, 3, 4, 5, 0] (by decide) ?_
 cases H
 refine aI [5, 0, 1, 2, 3, 4] (by decide) ?_
 exact aAh hs hp rfl
 exact fk
 kernel_rfl
 generalize rb = rb1
 show T β _ _ [(0, aF bG a0), (1, fSl aZ a1), (2, aA .i64 a2), (3, aA .i64 a3), (4, fEq (ptr b1)), (5, fEq (ptr b2)), (7, fEq (ptr b3)), (8, aA .i64 0), (14, aF bG a0), (15, aF bG a0), (16, aF dM a0.ScopeProg), (17, aF (tSl aM) a0.ScopeProg.Nodes), (18, fSl aM a0.ScopeProg.Nodes), (19, aA .i64 a2), (20, aF aM y1), (21, fSt aM y1), (9, fEq (ptr b4)), (22, aF bG a0), (23, fSl aZ a1), (24, fEq (.pointer (some ⟨b4, 3, none⟩))), (25, fSl (aB .i64) y1.Kids), (26, aF (aB .i64) y2), (27, aA .i64 y2), (28, aA .i64 a3), (29, aA .i64 y3), (10, fEq (ptr b5)), (30, aF bG a0), (31, fEq (.pointer (some ⟨b4, 1, none⟩))), (32, aA .i64 y1.N), (33, cX 78 [aF (fK eE) y4.1, aF (aB .i64) y4.2])] ([jM rb1] ++ [aC b4 56 [aA .i64 y1.Op, aA .i64 y1.N, fSl bD y1.Args, fSl (aB .i64) y1.Kids], aC b3 3 [aA .i64 a3], aC b2 27 [fSl aZ a1], aC b1 71 [aF bG a0], aC b5 80 [aA .i64 y5]]) _
 dsimp only [List.append, List.cons_append, List.nil_append]
 revert H; refine B2 fun o1 H Hr1 => ?_
 refine aX (ι := Int) (fun i => o1 = i) (fun i => [(10, fEq (ptr b5))]) (fun i => [aC b4 56 [aA .i64 y1.Op, aA .i64 y1.N, fSl bD y1.Args, fSl (aB .i64) y1.Kids], aC b3 3 [aA .i64 a3], aC b2 27 [fSl aZ a1], aC b1 71 [aF bG a0], aC b5 80 [aA .i64 i], jM rb1]) ?_ ?_
 refine aH ?_
 revert H; refine bs fun y8 h8 H => ?_
 apply bI (ods := [_, _, _, _, _, _, _, _, _, _, _, _]) 12 0 6 bH rfl rfl rfl
 refine ND ?_
 refine M8 ?_
 intros
 refine M4 ?_
 intros
 refine Z3 ?_
 refine aI [1, 2, 3, 4, 5, 0] (by decide) ?_
 refine Tl (ι := Nat × Int × Int) (fun i => oP (fF fuel) a0 a1 a3 y1 y8 i.1 i.2.1 i.2.2 = _) (fun i => i.1) (fun i => [(4, fEq (ptr b1)), (5, fEq (ptr b2)), (7, fEq (ptr b3)), (9, fEq (ptr b4)), (10, fEq (ptr b5)), (51, fSl bK y8.Rules), (52, aA .i64 (y8.Rules.length : Int)), (53, aA .i64 i.2.1)]) (fun i => [aC b4 56 [aA .i64 y1.Op, aA .i64 y1.N, fSl bD y1.Args, fSl (aB .i64) y1.Kids], aC b3 3 [aA .i64 a3], aC b2 27 [fSl aZ a1], aC b1 71 [aF bG a0], aC b5 80 [aA .i64 i.2.2], jM rb1]) (fuel, 0, y5) H ?_
 clear H; rintro ⟨k1, x8, x9⟩ H
 replace H : oP (fF fuel) a0 a1 a3 y1 y8 k1 x8 x9 = _ := H
 try dsimp only
 obtain _ | k1 := k1
 rw [oP] at H; cases H
 rw [oP] at H
 refine Z3 ?_
 refine aH ?_
 revert H; refine is (fun c1 H => ?_) fun c1 H => ?_
 refine Z3 ?_
 refine aH ?_
 revert H; refine B3 fun y9 h9 H => ?_
 refine Z2 ?_
 refine aT trivial rfl rfl (cN rfl sU rfl) (fun b6 => ?_)
 refine Z1 ?_
 refine dP (φs' := [aA .i64 y9.At, fSl (aB .i64) y9.Joins, aA .i64 y9.Node]) trivial rfl rfl (has rfl) (has rfl) (aO (aD trivial) (aO (bC) (aO (aD trivial) bY))) (sz rfl) rfl rfl rfl ?_
 revert H; refine B1 fun y10 h10 H => ?_
 revert H; refine bs fun y11 h11 H => ?_
 revert H; refine bs fun y12 h12 H => ?_
 revert H; refine bs fun y13 h13 H => ?_
 revert H; refine bs fun y14 h14 H => ?_
 revert H; refine bs fun y15 h15 H => ?_
 apply bI (ods := [_, _, _, _, _, _, _, _, _, _, _, _, _, _, _, _, _, _, _, _]) 20 0 7 bH rfl rfl rfl
 refine ND ?_
 refine M8 ?_
 intros
 refine M2 ?_
 intros
 refine Nc (uZ _ _ h12) fun _ => ?_
 refine M5 ?_
 intros
 refine Nc (ih_usage_text_sends _ _ _ _ _ h13) fun _ => ?_
 refine Nc (aH4 _ _ _ h14) fun _ => ?_
 refine Nc (zI _ _ _ h15) fun _ => ?_
 refine kM (od := odC [5] true (fAny) [aC b5 80 [aA .i64 y15]]) (p := 5) (φs' := [aA .i64 y15]) rfl (fun _ => rfl) (fun _ => rfl) trivial rfl rfl rfl (has rfl) (has rfl) (aD trivial) (sz rfl) rfl rfl (fun _ => ?_)
 revert H; refine B5 fun z1 h16 H => ?_
 refine Z3 ?_
 refine aI [1, 2, 3, 4, 5, 6] (by decide) ?_
 exact Tm ((k1, z1, y15)) ⟨H, ls⟩
 exact fk
 kernel_rfl
 refine Z6 ?_
 exact Tm (x9) (ij H)
 exact fk
 kernel_rfl
 clear H; intro x5 hi; subst o1; have H := Hr1; clear Hr1; try dsimp only at H
 try dsimp only
 refine Z5 ?_
 cases H
 refine aI [5] (by decide) ?_
 exact aE9 [rb1] rfl (bQ rfl) rfl rfl
 exact fk
 kernel_rfl
theorem aDY (fuel : Nat)  (a0 : Usage_text) (a1 : List UsageDef) (a2 : Int) (a3 : Int) (r : Int) (H : fF fuel a0 a1 a2 a3 = some r) : FnS Try.prog 45 [aF bG a0, fSl aZ a1, aA .i64 a2, aA .i64 a3] [] (aA .i64 r) (fun _ => []) := (aC5 fuel).1 a0 a1 a2 a3 r H
theorem aHt (fuel : Nat)  (a0 : Usage_text) (a1 : List UsageDef) (a2 : Int) (a3 : Int) (r : Int) (H : oL fuel a0 a1 a2 a3 = some r) : FnS Try.prog 70 [aF bG a0, fSl aZ a1, aA .i64 a2, aA .i64 a3] [] (aA .i64 r) (fun _ => []) := (aC5 fuel).2.2 a0 a1 a2 a3 r H
def pV (a0 : Int) : Option (Int) :=
 if a0 = 0 then
  some 1
 else
  if a0 = 1 then
   some 3
  else
   some 4
theorem aAw  (a0 : Int) (r : Int) (H : pV a0 = some r) : FnS Try.prog 46 [aA .i64 a0] [] (aA .i64 r) (fun _ => []) := by
 unfold pV at H
 refine bF Try.func46 rfl Try.ntmps46 rfl (fun β => ?_)
 refine Z3 ?_
 refine aH ?_
 revert H; refine I8 (fun c1 H => ?_) fun c1 H => ?_
 refine Z7 ?_
 cases H
 exact To
 revert H; refine I5 (fun c2 H => ?_) fun c2 H => ?_
 refine Z7 ?_
 cases H
 exact To
 refine Z8 ?_
 cases H
 exact To
end Go.Proofs.Ytmnbfgeljmhekaa
set_option maxRecDepth 100000
set_option maxHeartbeats 2000000
namespace Go.Proofs.Ytmnbfgeljmhekaa
open Go.SX Go.SW Go.Dt
attribute [local irreducible] Code.wpIn wpListIn Exit.then Exit.inBlock
def mN (fuel : Nat) (a0 : Usage_text) (a1 : List UsageDef) (a2 : Int) (y1 : ScopeDef) : Nat → (List (List Int)) → Int → (List Int) → Option (List (List Int) × List Int)
| 0, _, _, _ => none
| k + 1, x6, x7, x8 =>
 if x7 < (y1.Chans.length : Int) then
  (idx y1.Chans x7).bind fun y3 =>
  (idx a0.heads a2).bind fun y4 =>
  (qK a0 a2 x7).bind fun y5 =>
  (oL fuel a0 a1 y4 y5).bind fun y6 =>
  (pV y6).bind fun y7 =>
  (dU (x8 ++ [y7])).bind fun z1 =>
  (mk 0 y3.Many).bind fun y8 =>
  (idx x6 x7).bind fun y9 =>
  (chk (x7 + 1)).bind fun z2 =>
  mN fuel a0 a1 a2 y1 k (x6.set x7.toNat y8) z2 z1
 else
  some (x6, x8)
def mP (a1 : List UsageDef) (a2 : Int) (y10 : ScopeRule) : Nat → Int → Int → Option (Int)
| 0, _, _ => none
| k + 1, x22, x23 =>
 if x23 < (y10.Joins.length : Int) then
  (idx y10.Joins x23).bind fun y11 =>
  (idx a1 a2).bind fun y12 =>
  (idx y12.Chans y11).bind fun y13 =>
  (mM y13).bind fun y14 =>
  (chk (x23 + 1)).bind fun z3 =>
  mP a1 a2 y10 k (min x22 y14) z3
 else
  some x22
def mO (fuel : Nat) (a0 : Usage_text) (a1 : List UsageDef) (y10 : ScopeRule) (x27 : List (List Int)) (y20 : Int) (y21 : List Int) : Nat → Int → Int → (List Int) → Option (List (List Int) × Int)
| 0, _, _, _ => none
| k + 1, x35, x36, x37 =>
 if x36 < (y21.length : Int) then
  (idx x27 y20).bind fun y22 =>
  (idx x27 y20).bind fun y23 =>
  (idx x37 x36).bind fun y24 =>
  (fF fuel a0 a1 y10.Node x35).bind fun y25 =>
  (oX y24 y25).bind fun y26 =>
  (idx x37 x36).bind fun y27 =>
  (chk (x35 + 1)).bind fun z6 =>
  (chk (x36 + 1)).bind fun z7 =>
  mO fuel a0 a1 y10 x27 y20 y21 k z6 z7 (x37.set x36.toNat y26)
 else
  some (x27.set y20.toNat x37, x35)
def mD (fuel : Nat) (a0 : Usage_text) (a1 : List UsageDef) (y10 : ScopeRule) (z4 : List Int) : Nat → (List (List Int)) → Int → Int → Option (List (List Int) × List Int)
| 0, _, _, _ => none
| k + 1, x27, x28, x29 =>
 if x29 < (y10.Joins.length : Int) then
  ((idx y10.Joins x29).bind fun y20 =>
  (idx x27 y20).bind fun y21 =>
  mO fuel a0 a1 y10 x27 y20 y21 fuel x28 0 y21).bind fun (x30, x31) =>
  (chk (x29 + 1)).bind fun z8 =>
  mD fuel a0 a1 y10 z4 k x30 x31 z8
 else
  some (x27, z4)
def lL (fuel : Nat) (a0 : Usage_text) (a1 : List UsageDef) (a2 : Int) (y1 : ScopeDef) : Nat → (List (List Int)) → Int → (List Int) → Option (List (List Int) × List Int)
| 0, _, _, _ => none
| k + 1, x14, x15, x16 =>
 if x15 < (y1.Rules.length : Int) then
  ((idx y1.Rules x15).bind fun y10 =>
  (mP a1 a2 y10 fuel 2 0).bind fun x19 =>
  (pV x19).bind fun y15 =>
  (dU (x16 ++ [y15])).bind fun z4 =>
  (idx a1 a2).bind fun y16 =>
  (idx y16.Rules x15).bind fun y17 =>
  (mM y17).bind fun y18 =>
  if y18 = 0 then
   some (x14, z4)
  else
   (qK a0 a2 (y1.Chans.length : Int)).bind fun y19 =>
   (chk (y19 + (y1.Spots.length : Int))).bind fun z5 =>
   mD fuel a0 a1 y10 z4 fuel x14 z5 0).bind fun (x17, x18) =>
  (chk (x15 + 1)).bind fun z9 =>
  lL fuel a0 a1 a2 y1 k x17 z9 x18
 else
  some (x14, x16)
def nS (y28 : List Int) : Nat → (List Int) → Int → Option (List Int)
| 0, _, _ => none
| k + 1, x50, x51 =>
 if x51 < (y28.length : Int) then
  (idx y28 x51).bind fun y29 =>
  (pV y29).bind fun y30 =>
  (dU (x50 ++ [y30])).bind fun z10 =>
  (chk (x51 + 1)).bind fun z11 =>
  nS y28 k z10 z11
 else
  some x50
def nD (fuel : Nat) (x9 : List (List Int)) : Nat → (List (List Int)) → Int → (List (List Int)) → Option (List (List Int))
| 0, _, _, _ => none
| k + 1, x42, x43, x44 =>
 if x43 < (x9.length : Int) then
  ((idx x42 x43).bind fun y28 =>
  (nS y28 fuel [] 0).bind fun x47 =>
  (dU (x44 ++ ([x47] : List (List Int)))).bind fun z12 =>
  some (x42.set x43.toNat y28, z12)).bind fun (x45, x46) =>
  (chk (x43 + 1)).bind fun z13 =>
  nD fuel x9 k x45 z13 x46
 else
  some x44
def vK (fuel : Nat) (a0 : Usage_text) (a1 : List UsageDef) (a2 : Int) : Option (UsageDef) :=
 (idx a0.ScopeProg.Defs a2).bind fun y1 =>
 (mk ([] : List Int) (y1.Chans.length : Int)).bind fun y2 =>
 (mN fuel a0 a1 a2 y1 fuel y2 0 []).bind fun (x1, x2) =>
 (lL fuel a0 a1 a2 y1 fuel x1 0 []).bind fun (x9, x10) =>
 (nD fuel x9 fuel x9 0 []).bind fun x38 =>
 some (⟨x2, x10, x38⟩ : UsageDef)
theorem aH9 (fuel : Nat)  (a0 : Usage_text) (a1 : List UsageDef) (a2 : Int) (r : UsageDef) (H : vK fuel a0 a1 a2 = some r) : FnS Try.prog 54 [aF bG a0, fSl aZ a1, aA .i64 a2] [] fAny (fun v => [vP .agg [.own (fun v => aE v 41 (aB .i64) r.Chans) (fun _ => eB), .own (fun v => aE v 41 (aB .i64) r.Rules) (fun _ => eB), .own (fun v => bU v 37 (cL 41 (aB .i64)) r.Args) (fun _ => lQ)] v]) := by
 unfold vK at H
 refine bF Try.func54 rfl Try.ntmps54 rfl (fun β => ?_)
 refine Z1 ?_
 refine aT trivial rfl rfl (cN rfl tR rfl) (fun b1 => ?_)
 revert H; refine B8 fun y1 h1 H => ?_
 refine Z2 ?_
 refine aT trivial rfl rfl (cN rfl tJ rfl) (fun b2 => ?_)
 refine dP (φs' := [fSl bE y1.Chans, fSl cB y1.Spots, fSl bK y1.Rules]) trivial rfl rfl (has rfl) (has rfl) (aO (bC) (aO (bC) (aO (bC) bY))) (sz rfl) rfl rfl rfl ?_
 refine Z2 ?_
 refine aT trivial rfl rfl (cN rfl tR rfl) (fun b3 => ?_)
 revert H; refine B5 fun y2 h2 H => ?_
 obtain ⟨h3, h4⟩ := mk_rep (z' := ([⟨fEq (.slice none 0 0), aD trivial⟩] : List LF)) h2
 refine aT trivial rfl rfl (lW (t := tF 1) (z := [⟨fEq (.slice none 0 0), aD trivial⟩]) rfl (has rfl) (et rfl) rfl aF4 rfl h4) (fun b4 => ?_)
 generalize hv_v1 : (Value.slice (some ⟨b4, 0, none⟩) _ _) = v1; clear hv_v1
 refine T_nilsD2 (o := (cL 80 (aB .i64))) (ys := y2) h3 rfl nil_tk ?_
 refine eA 0 rfl (fun hc_v1 => ?_)
 revert H; refine B2 fun o1 H Hr1 => ?_
 refine aX (ι := List (List Int) × List Int × Value) (fun i => o1 = (i.1, i.2.1)) (fun i => [(0, aF bG a0), (1, fSl aZ a1), (2, aA .i64 a2), (6, fEq (ptr b1)), (7, fEq (ptr b2)), (8, fEq (ptr b3)), (9, fEq v1)]) (fun i => [aC b3 40 [fEq i.2.2, fEq (.slice none 0 0), fEq (.slice none 0 0)], aC b2 52 [fSl bE y1.Chans, fSl cB y1.Spots, fSl bK y1.Rules], aC b1 40 [fEq (.slice none 0 0), fEq (.slice none 0 0), fEq (.slice none 0 0)], bU v1 143 (cL 80 (aB .i64)) i.1, aE i.2.2 41 (aB .i64) i.2.1]) ?_ ?_
 refine Z7 ?_
 refine xS (aB .i64) 41 ?_
 refine aI [2, 3, 4, 1, 0] (by decide) ?_
 refine Tl (ι := Nat × List (List Int) × Int × List Int × Value) (fun i => mN fuel a0 a1 a2 y1 i.1 i.2.1 i.2.2.1 i.2.2.2.1 = _) (fun i => i.1) (fun i => [(0, aF bG a0), (1, fSl aZ a1), (2, aA .i64 a2), (6, fEq (ptr b1)), (7, fEq (ptr b2)), (8, fEq (ptr b3)), (9, fEq v1), (39, fSl bE y1.Chans), (40, aA .i64 (y1.Chans.length : Int)), (41, aA .i64 i.2.2.1)]) (fun i => [aC b3 40 [fEq i.2.2.2.2, fEq (.slice none 0 0), fEq (.slice none 0 0)], aC b2 52 [fSl bE y1.Chans, fSl cB y1.Spots, fSl bK y1.Rules], aC b1 40 [fEq (.slice none 0 0), fEq (.slice none 0 0), fEq (.slice none 0 0)], bU v1 143 (cL 80 (aB .i64)) i.2.1, aE i.2.2.2.2 41 (aB .i64) i.2.2.2.1]) (fuel, y2, 0, [], (.slice none 0 0)) H ?_
 clear H; rintro ⟨k1, x6, x7, x8, v4⟩ H
 replace H : mN fuel a0 a1 a2 y1 k1 x6 x7 x8 = _ := H
 try dsimp only
 obtain _ | k1 := k1
 rw [mN] at H; cases H
 rw [mN] at H
 refine aW 4 rfl (fun hc_v4 => ?_)
 refine Z3 ?_
 refine aH ?_
 revert H; refine is (fun c1 H => ?_) fun c1 H => ?_
 refine Z3 ?_
 refine aH ?_
 revert H; refine B3 fun y3 h5 H => ?_
 refine Z2 ?_
 refine aT trivial rfl rfl (cN rfl aBV rfl) (fun b5 => ?_)
 refine Z1 ?_
 refine dP (φs' := [aA .i64 y3.At, aA .i64 y3.Many]) trivial rfl rfl (has rfl) (has rfl) (aO (aD trivial) (aO (aD trivial) bY)) (sz rfl) rfl rfl rfl ?_
 refine Z1 ?_
 refine aH ?_
 revert H; refine bs fun y4 h6 H => ?_
 revert H; refine bs fun y5 h7 H => ?_
 revert H; refine bs fun y6 h8 H => ?_
 revert H; refine bs fun y7 h9 H => ?_
 apply bI (ods := [_, _, _, _, _, _, _, _, _, _, _, _, _, _, _, _, _, _]) 18 0 6 bH rfl rfl rfl
 refine ND ?_
 refine M8 ?_
 intros
 refine M6 ?_
 intros
 refine Nc (aAn _ _ _ _ h7) fun _ => ?_
 refine Nc (aHt _ _ _ _ _ _ h8) fun _ => ?_
 refine Nc (aAw _ _ h9) fun _ => ?_
 refine Mf (φ := fSl (aB .i64) [y7]) (cS (t := (aB .i64)) (xs := [y7]) rfl (et rfl) (aR.cons rfl (has rfl) (aS (aD trivial)) aR.nil) rfl rfl rfl) (fun b => cT) fun _ => ?_
 revert H; refine B1 fun z1 h10 H => ?_
 refine mY ?_
 refine aFx (ys := [y7]) trivial rfl rfl rfl (has rfl) (has rfl) (et rfl) rfl h10 (fun v6 => ?_)
 refine aW 0 rfl (fun hc_v6 => ?_)
 refine Z1 ?_
 refine eI ?_
 refine dI (φs' := [fEq v6, fEq (.slice none 0 0), fEq (.slice none 0 0)]) trivial rfl rfl (has rfl) (has rfl) (aD hc_v6) (sz rfl) rfl rfl ?_
 revert H; refine B6 fun y8 h11 H => ?_
 refine aT trivial rfl rfl (lW (t := (aB .i64)) (z := 0) rfl (has rfl) (et rfl) rfl aFr rfl h11) (fun b7 => ?_)
 generalize hv_v7 : (Value.slice (some ⟨b7, 0, none⟩) _ _) = v7; clear hv_v7
 refine aW 0 rfl (fun hc_v7 => ?_)
 revert H; refine bs fun y9 h12 H => ?_
 refine Yo 6 rfl (lV rfl hh hh (el rfl) h12) ?_
 refine mQ ?_
 refine dN ?_
 refine aHj (z' := y8) (f := (fun v => aE v 80 (aB .i64) y8)) (hf := (fun _ => eB)) trivial rfl rfl rfl (has rfl) (has rfl) hc_v7 (sz rfl) (bN h12) rfl rfl ?_
 revert H; refine B4 fun z2 h13 H => ?_
 refine Z3 ?_
 refine aI [1, 4, 5, 0, 2] (by decide) ?_
 exact Tm ((k1, x6.set x7.toNat y8, z2, z1, v6)) ⟨H, ls⟩
 exact fk
 kernel_rfl
 refine Z6 ?_
 exact Tm ((x6, x8, v4)) (ij H)
 clear H; intro i hi; obtain ⟨x1, x2, v2⟩ := i; subst o1; have H := Hr1; clear Hr1; try dsimp only at H
 try dsimp only
 refine aW 4 rfl (fun hc_v2 => ?_)
 revert H; refine bs fun o2 H Hr2 => ?_
 refine aX (ι := List (List Int) × List Int × Value) (fun i => o2 = (i.1, i.2.1)) (fun i => [(6, fEq (ptr b1)), (8, fEq (ptr b3)), (9, fEq v1)]) (fun i => [aC b3 40 [fEq v2, fEq i.2.2, fEq (.slice none 0 0)], aC b2 52 [fSl bE y1.Chans, fSl cB y1.Spots, fSl bK y1.Rules], aC b1 40 [fEq (.slice none 0 0), fEq (.slice none 0 0), fEq (.slice none 0 0)], bU v1 143 (cL 80 (aB .i64)) i.1, aE v2 41 (aB .i64) x2, aE i.2.2 41 (aB .i64) i.2.1]) ?_ ?_
 refine Z7 ?_
 refine xS (aB .i64) 41 ?_
 refine aI [1, 2, 3, 4, 5, 0] (by decide) ?_
 refine Tl (ι := Nat × List (List Int) × Int × List Int × Value) (fun i => lL fuel a0 a1 a2 y1 i.1 i.2.1 i.2.2.1 i.2.2.2.1 = _) (fun i => i.1) (fun i => [(0, aF bG a0), (1, fSl aZ a1), (2, aA .i64 a2), (6, fEq (ptr b1)), (7, fEq (ptr b2)), (8, fEq (ptr b3)), (9, fEq v1), (74, fSl bK y1.Rules), (75, aA .i64 (y1.Rules.length : Int)), (76, aA .i64 i.2.2.1)]) (fun i => [aC b3 40 [fEq v2, fEq i.2.2.2.2, fEq (.slice none 0 0)], aC b2 52 [fSl bE y1.Chans, fSl cB y1.Spots, fSl bK y1.Rules], aC b1 40 [fEq (.slice none 0 0), fEq (.slice none 0 0), fEq (.slice none 0 0)], bU v1 143 (cL 80 (aB .i64)) i.2.1, aE v2 41 (aB .i64) x2, aE i.2.2.2.2 41 (aB .i64) i.2.2.2.1]) (fuel, x1, 0, [], (.slice none 0 0)) H ?_
 clear H; rintro ⟨k2, x14, x15, x16, v10⟩ H
 replace H : lL fuel a0 a1 a2 y1 k2 x14 x15 x16 = _ := H
 try dsimp only
 obtain _ | k2 := k2
 rw [lL] at H; cases H
 rw [lL] at H
 refine aW 5 rfl (fun hc_v10 => ?_)
 refine Z3 ?_
 refine aH ?_
 revert H; refine is (fun c2 H => ?_) fun c2 H => ?_
 revert H; refine B3 fun o3 H Hr3 => ?_
 refine aX (ι := List (List Int) × List Int × Value) (fun i => o3 = (i.1, i.2.1)) (fun i => [(0, aF bG a0), (1, fSl aZ a1), (2, aA .i64 a2), (6, fEq (ptr b1)), (7, fEq (ptr b2)), (8, fEq (ptr b3)), (9, fEq v1), (74, fSl bK y1.Rules), (75, aA .i64 (y1.Rules.length : Int)), (76, aA .i64 x15)]) (fun i => [aC b3 40 [fEq v2, fEq i.2.2, fEq (.slice none 0 0)], aC b2 52 [fSl bE y1.Chans, fSl cB y1.Spots, fSl bK y1.Rules], aC b1 40 [fEq (.slice none 0 0), fEq (.slice none 0 0), fEq (.slice none 0 0)], bU v1 143 (cL 80 (aB .i64)) i.1, aE v2 41 (aB .i64) x2, aE i.2.2 41 (aB .i64) i.2.1]) ?_ ?_
 revert H; refine B3 fun y10 h14 H => ?_
 refine Z2 ?_
 refine aT trivial rfl rfl (cN rfl sU rfl) (fun b8 => ?_)
 refine Z1 ?_
 refine dP (φs' := [aA .i64 y10.At, fSl (aB .i64) y10.Joins, aA .i64 y10.Node]) trivial rfl rfl (has rfl) (has rfl) (aO (aD trivial) (aO (bC) (aO (aD trivial) bY))) (sz rfl) rfl rfl rfl ?_
 revert H; refine B4 fun o4 H Hr4 => ?_
 refine aX (ι := Int) (fun i => o4 = i) (fun i => [(0, aF bG a0), (1, fSl aZ a1), (2, aA .i64 a2), (6, fEq (ptr b1)), (7, fEq (ptr b2)), (8, fEq (ptr b3)), (9, fEq v1), (74, fSl bK y1.Rules), (75, aA .i64 (y1.Rules.length : Int)), (76, aA .i64 x15), (13, fEq (ptr b8)), (12, aA .i64 x15), (14, aA .i64 i)]) (fun i => [aC b8 48 [aA .i64 y10.At, fSl (aB .i64) y10.Joins, aA .i64 y10.Node], aC b3 40 [fEq v2, fEq v10, fEq (.slice none 0 0)], aC b2 52 [fSl bE y1.Chans, fSl cB y1.Spots, fSl bK y1.Rules], aC b1 40 [fEq (.slice none 0 0), fEq (.slice none 0 0), fEq (.slice none 0 0)], bU v1 143 (cL 80 (aB .i64)) x14, aE v2 41 (aB .i64) x2, aE v10 41 (aB .i64) x16]) ?_ ?_
 refine Z7 ?_
 refine Tl (ι := Nat × Int × Int) (fun i => mP a1 a2 y10 i.1 i.2.1 i.2.2 = _) (fun i => i.1) (fun i => [(0, aF bG a0), (1, fSl aZ a1), (2, aA .i64 a2), (6, fEq (ptr b1)), (7, fEq (ptr b2)), (8, fEq (ptr b3)), (9, fEq v1), (74, fSl bK y1.Rules), (75, aA .i64 (y1.Rules.length : Int)), (76, aA .i64 x15), (13, fEq (ptr b8)), (12, aA .i64 x15), (14, aA .i64 i.2.1), (82, fSl (aB .i64) y10.Joins), (83, aA .i64 (y10.Joins.length : Int)), (84, aA .i64 i.2.2)]) (fun i => [aC b8 48 [aA .i64 y10.At, fSl (aB .i64) y10.Joins, aA .i64 y10.Node], aC b3 40 [fEq v2, fEq v10, fEq (.slice none 0 0)], aC b2 52 [fSl bE y1.Chans, fSl cB y1.Spots, fSl bK y1.Rules], aC b1 40 [fEq (.slice none 0 0), fEq (.slice none 0 0), fEq (.slice none 0 0)], bU v1 143 (cL 80 (aB .i64)) x14, aE v2 41 (aB .i64) x2, aE v10 41 (aB .i64) x16]) (fuel, 2, 0) H ?_
 clear H; rintro ⟨k3, x22, x23⟩ H
 replace H : mP a1 a2 y10 k3 x22 x23 = _ := H
 try dsimp only
 obtain _ | k3 := k3
 rw [mP] at H; cases H
 rw [mP] at H
 refine Z3 ?_
 refine aH ?_
 revert H; refine is (fun c3 H => ?_) fun c3 H => ?_
 refine Z3 ?_
 refine aH ?_
 revert H; refine B2 fun y11 h15 H => ?_
 revert H; refine B8 fun y12 h16 H => ?_
 revert H; refine B4 fun y13 h17 H => ?_
 revert H; refine B2 fun y14 h18 H => ?_
 refine Tc (uZ _ _ h18) ?_
 revert H; refine B6 fun z3 h19 H => ?_
 refine Z3 ?_
 exact Tm ((k3, min x22 y14, z3)) ⟨H, ls⟩
 refine Z6 ?_
 exact Tm (x22) (ij H)
 clear H; intro x19 hi; subst o4; have H := Hr4; clear Hr4; try dsimp only at H
 try dsimp only
 refine aH ?_
 revert H; refine bs fun y15 h20 H => ?_
 apply bI (ods := [_, _, _, _, _]) 5 0 7 bH rfl rfl rfl
 refine ND ?_
 refine M3 ?_
 intros
 refine Nc (aAw _ _ h20) fun _ => ?_
 refine Mf (φ := fSl (aB .i64) [y15]) (cS (t := (aB .i64)) (xs := [y15]) rfl (et rfl) (aR.cons rfl (has rfl) (aS (aD trivial)) aR.nil) rfl rfl rfl) (fun b => cT) fun _ => ?_
 revert H; refine B1 fun z4 h21 H => ?_
 refine mQ ?_
 refine aFx (ys := [y15]) trivial rfl rfl rfl (has rfl) (has rfl) (et rfl) rfl h21 (fun v13 => ?_)
 refine aW 0 rfl (fun hc_v13 => ?_)
 refine Z1 ?_
 refine eI ?_
 refine dI (φs' := [fEq v2, fEq v13, fEq (.slice none 0 0)]) trivial rfl rfl (has rfl) (has rfl) (aD hc_v13) (sz rfl) rfl rfl ?_
 refine Z1 ?_
 refine aH ?_
 revert H; refine B3 fun y16 h22 H => ?_
 revert H; refine B4 fun y17 h23 H => ?_
 revert H; refine B2 fun y18 h24 H => ?_
 refine Tc (uZ _ _ h24) ?_
 revert H; refine I2 (fun c4 H => ?_) fun c4 H => ?_
 refine Z5 ?_
 refine aI [0, 3, 4, 5, 6, 1] (by decide) ?_
 exact Tm ((x14, z4, v13)) (ij H)
 refine Z3 ?_
 refine aH ?_
 revert H; refine bs fun y19 h25 H => ?_
 revert H; refine bs fun z5 h26 H => ?_
 apply bI (ods := [_, _, _, _, _, _, _, _, _, _, _]) 11 0 7 bH rfl rfl rfl
 refine ND ?_
 refine M5 ?_
 intros
 refine Nc (aAn _ _ _ _ h25) fun _ => ?_
 refine M5 ?_
 intros
 refine Z9 ?_
 refine aI [0, 2, 3, 4, 5, 6, 1] (by decide) ?_
 refine Tl (ι := Nat × List (List Int) × Int × Int) (fun i => mD fuel a0 a1 y10 z4 i.1 i.2.1 i.2.2.1 i.2.2.2 = _) (fun i => i.1) (fun i => [(0, aF bG a0), (1, fSl aZ a1), (2, aA .i64 a2), (6, fEq (ptr b1)), (7, fEq (ptr b2)), (8, fEq (ptr b3)), (9, fEq v1), (74, fSl bK y1.Rules), (75, aA .i64 (y1.Rules.length : Int)), (76, aA .i64 x15), (13, fEq (ptr b8)), (17, aA .i64 i.2.2.1), (128, fSl (aB .i64) y10.Joins), (129, aA .i64 (y10.Joins.length : Int)), (130, aA .i64 i.2.2.2)]) (fun i => [aC b3 40 [fEq v2, fEq v13, fEq (.slice none 0 0)], aC b8 48 [aA .i64 y10.At, fSl (aB .i64) y10.Joins, aA .i64 y10.Node], aC b2 52 [fSl bE y1.Chans, fSl cB y1.Spots, fSl bK y1.Rules], aC b1 40 [fEq (.slice none 0 0), fEq (.slice none 0 0), fEq (.slice none 0 0)], bU v1 143 (cL 80 (aB .i64)) i.2.1, aE v2 41 (aB .i64) x2, aE v13 41 (aB .i64) z4]) (fuel, x14, z5, 0) H ?_
 clear H; rintro ⟨k4, x27, x28, x29⟩ H
 replace H : mD fuel a0 a1 y10 z4 k4 x27 x28 x29 = _ := H
 try dsimp only
 obtain _ | k4 := k4
 rw [mD] at H; cases H
 rw [mD] at H
 refine Z3 ?_
 refine aH ?_
 revert H; refine is (fun c5 H => ?_) fun c5 H => ?_
 revert H; refine B3 fun o5 H Hr5 => ?_
 refine aX (ι := List (List Int) × Int) (fun i => o5 = (i.1, i.2)) (fun i => [(0, aF bG a0), (1, fSl aZ a1), (2, aA .i64 a2), (6, fEq (ptr b1)), (7, fEq (ptr b2)), (8, fEq (ptr b3)), (9, fEq v1), (74, fSl bK y1.Rules), (75, aA .i64 (y1.Rules.length : Int)), (76, aA .i64 x15), (13, fEq (ptr b8)), (17, aA .i64 i.2), (128, fSl (aB .i64) y10.Joins), (129, aA .i64 (y10.Joins.length : Int)), (130, aA .i64 x29)]) (fun i => [aC b3 40 [fEq v2, fEq v13, fEq (.slice none 0 0)], aC b8 48 [aA .i64 y10.At, fSl (aB .i64) y10.Joins, aA .i64 y10.Node], aC b2 52 [fSl bE y1.Chans, fSl cB y1.Spots, fSl bK y1.Rules], aC b1 40 [fEq (.slice none 0 0), fEq (.slice none 0 0), fEq (.slice none 0 0)], bU v1 143 (cL 80 (aB .i64)) i.1, aE v2 41 (aB .i64) x2, aE v13 41 (aB .i64) z4]) ?_ ?_
 revert H; refine B2 fun y20 h27 H => ?_
 revert H; refine B7 fun y21 h28 H => ?_
 refine Yo 4 rfl (lV rfl hh hh (el rfl) h28) ?_
 refine bJ ?_
 refine rK (i := y20.toNat) (k := 0) (y := y21) (f := (fun v => aE v 80 (aB .i64) y21)) (bN h28) rfl (fun v14 => ?_)
 refine aW 0 rfl (fun hc_v14 => ?_)
 refine Yo 1 rfl (lY rfl rfl hh (sc rfl) (bN h28) rfl) ?_
 refine Z4 ?_
 refine aI [2, 3, 4, 5, 1, 6, 7, 0] (by decide) ?_
 refine Tl (ι := Nat × Int × Int × List Int) (fun i => mO fuel a0 a1 y10 x27 y20 y21 i.1 i.2.1 i.2.2.1 i.2.2.2 = _) (fun i => i.1) (fun i => [(0, aF bG a0), (1, fSl aZ a1), (2, aA .i64 a2), (6, fEq (ptr b1)), (7, fEq (ptr b2)), (8, fEq (ptr b3)), (9, fEq v1), (74, fSl bK y1.Rules), (75, aA .i64 (y1.Rules.length : Int)), (76, aA .i64 x15), (13, fEq (ptr b8)), (17, aA .i64 i.2.1), (128, fSl (aB .i64) y10.Joins), (129, aA .i64 (y10.Joins.length : Int)), (130, aA .i64 x29), (19, aA .i64 y20), (138, aA .i64 (y21.length : Int)), (139, aA .i64 i.2.2.1)]) (fun i => [aC b3 40 [fEq v2, fEq v13, fEq (.slice none 0 0)], aC b8 48 [aA .i64 y10.At, fSl (aB .i64) y10.Joins, aA .i64 y10.Node], aC b2 52 [fSl bE y1.Chans, fSl cB y1.Spots, fSl bK y1.Rules], aC b1 40 [fEq (.slice none 0 0), fEq (.slice none 0 0), fEq (.slice none 0 0)], pS v1 143 (cL 80 (aB .i64)) x27 (y20.toNat * OTy.sz (cL 80 (aB .i64)) + 0) v14, aE v2 41 (aB .i64) x2, aE v13 41 (aB .i64) z4, aE v14 80 (aB .i64) i.2.2.2]) (fuel, x28, 0, y21) H ?_
 clear H; rintro ⟨k5, x35, x36, x37⟩ H
 replace H : mO fuel a0 a1 y10 x27 y20 y21 k5 x35 x36 x37 = _ := H
 try dsimp only
 obtain _ | k5 := k5
 rw [mO] at H; cases H
 rw [mO] at H
 refine Z3 ?_
 refine aH ?_
 revert H; refine is (fun c6 H => ?_) fun c6 H => ?_
 refine Z3 ?_
 refine aH ?_
 refine Z5 ?_
 refine aH ?_
 revert H; refine bs fun y22 h29 H => ?_
 revert H; refine bs fun y23 h30 H => ?_
 revert H; refine bs fun y24 h31 H => ?_
 revert H; refine bs fun y25 h32 H => ?_
 revert H; refine bs fun y26 h33 H => ?_
 revert H; refine bs fun y27 h34 H => ?_
 apply bI (ods := [_, _, _, _, _, _, _, _, _, _, _, _, _, _, _, _, _, _, _, _, _]) 21 0 8 bH rfl rfl rfl
 refine ND ?_
 refine M2 ?_
 intros
 refine Mo 4 rfl (lV rfl hh hh (el rfl) h29) fun _ => ?_
 refine Mo 4 rfl (lY rfl rfl hh (sc rfl) (bN h29) rfl) fun _ => ?_
 refine M3 ?_
 intros
 refine Mo 4 rfl (lV rfl hh hh (el rfl) h30) fun _ => ?_
 refine Mo 4 rfl (lY rfl rfl hh (sc rfl) (bN h30) rfl) fun _ => ?_
 refine M2 ?_
 intros
 refine Mo 7 rfl (jV rfl rfl hh (sc rfl) (bN h31) rfl) fun _ => ?_
 refine M5 ?_
 intros
 refine Nc (aDY _ _ _ _ _ _ h32) fun _ => ?_
 refine Nc (aFH _ _ _ h33) fun _ => ?_
 refine M1 ?_
 intros
 refine rJ (od := odC [7] true (fAny) [aE v14 80 (aB .i64) (x37.set x36.toNat y26)]) (p := 7) (z' := y26) rfl (fun _ => rfl) (fun _ => rfl) trivial rfl rfl rfl rfl (has rfl) (has rfl) (aD trivial) (sz rfl) (bN h34) rfl rfl (fun _ => ?_)
 revert H; refine B4 fun z6 h35 H => ?_
 revert H; refine B6 fun z7 h36 H => ?_
 refine Z3 ?_
 exact Tm ((k5, z6, z7, x37.set x36.toNat y26)) ⟨H, ls⟩
 exact fk
 kernel_rfl
 refine Z7 ?_
 refine bJ ?_
 refine T_fr7 ?_
 refine qG (o := (cL 80 (aB .i64))) (i := y20.toNat) (k := 0) (y := y21) (y' := x37) (f := (fun v => aE v 80 (aB .i64) x37)) (hf := (fun _ => eB)) (bN h28) rfl rfl ?_
 refine aI [1, 2, 3, 4, 0, 5, 6] (by decide) ?_
 exact Tm ((x27.set y20.toNat x37, x35)) (ij H)
 clear H; intro i hi; obtain ⟨x30, x31⟩ := i; subst o5; have H := Hr5; clear Hr5; try dsimp only at H
 try dsimp only
 revert H; refine B1 fun z8 h37 H => ?_
 refine Z3 ?_
 exact Tm ((k4, x30, x31, z8)) ⟨H, ls⟩
 refine Z7 ?_
 refine aI [0, 2, 3, 4, 5, 6] (by decide) ?_
 exact Tm ((x27, z4, v13)) (ij H)
 exact fk
 kernel_rfl
 exact fk
 kernel_rfl
 clear H; intro i hi; obtain ⟨x17, x18, v11⟩ := i; subst o3; have H := Hr3; clear Hr3; try dsimp only at H
 try dsimp only
 refine aW 5 rfl (fun hc_v11 => ?_)
 revert H; refine B1 fun z9 h38 H => ?_
 refine Z3 ?_
 exact Tm ((k2, x17, z9, x18, v11)) ⟨H, ls⟩
 refine Z6 ?_
 exact Tm ((x14, x16, v10)) (ij H)
 clear H; intro i hi; obtain ⟨x9, x10, v8⟩ := i; subst o2; have H := Hr2; clear Hr2; try dsimp only at H
 try dsimp only
 refine aW 5 rfl (fun hc_v8 => ?_)
 revert H; refine bs fun o6 H Hr6 => ?_
 refine aX (ι := List (List Int) × Value) (fun i => o6 = i.1) (fun i => [(6, fEq (ptr b1)), (8, fEq (ptr b3))]) (fun i => [aC b3 40 [fEq v2, fEq v8, fEq i.2], aC b2 52 [fSl bE y1.Chans, fSl cB y1.Spots, fSl bK y1.Rules], aC b1 40 [fEq (.slice none 0 0), fEq (.slice none 0 0), fEq (.slice none 0 0)], aE v2 41 (aB .i64) x2, aE v8 41 (aB .i64) x10, bU i.2 37 (cL 41 (aB .i64)) i.1]) ?_ ?_
 refine Z2 ?_
 refine Yo 3 rfl (o_lenG rfl hh (us rfl)) ?_
 refine Z3 ?_
 refine yA (cL 41 (aB .i64)) 37 ?_
 refine aI [1, 2, 3, 4, 5, 6, 0] (by decide) ?_
 refine Tl (ι := Nat × List (List Int) × Int × List (List Int) × Value) (fun i => nD fuel x9 i.1 i.2.1 i.2.2.1 i.2.2.2.1 = _) (fun i => i.1) (fun i => [(6, fEq (ptr b1)), (8, fEq (ptr b3)), (167, fEq v1), (168, aA .i64 (x9.length : Int)), (169, aA .i64 i.2.2.1)]) (fun i => [aC b3 40 [fEq v2, fEq v8, fEq i.2.2.2.2], aC b2 52 [fSl bE y1.Chans, fSl cB y1.Spots, fSl bK y1.Rules], aC b1 40 [fEq (.slice none 0 0), fEq (.slice none 0 0), fEq (.slice none 0 0)], bU v1 143 (cL 80 (aB .i64)) i.2.1, aE v2 41 (aB .i64) x2, aE v8 41 (aB .i64) x10, bU i.2.2.2.2 37 (cL 41 (aB .i64)) i.2.2.2.1]) (fuel, x9, 0, [], (.slice none 0 0)) H ?_
 clear H; rintro ⟨k6, x42, x43, x44, v17⟩ H
 replace H : nD fuel x9 k6 x42 x43 x44 = _ := H
 try dsimp only
 obtain _ | k6 := k6
 rw [nD] at H; cases H
 rw [nD] at H
 refine eA 6 rfl (fun hc_v17 => ?_)
 refine Z3 ?_
 refine aH ?_
 revert H; refine is (fun c7 H => ?_) fun c7 H => ?_
 revert H; refine B3 fun o7 H Hr7 => ?_
 refine aX (ι := List (List Int) × List (List Int) × Value) (fun i => o7 = (i.1, i.2.1)) (fun i => [(6, fEq (ptr b1)), (8, fEq (ptr b3)), (167, fEq v1), (168, aA .i64 (x9.length : Int)), (169, aA .i64 x43)]) (fun i => [aC b3 40 [fEq v2, fEq v8, fEq i.2.2], aC b2 52 [fSl bE y1.Chans, fSl cB y1.Spots, fSl bK y1.Rules], aC b1 40 [fEq (.slice none 0 0), fEq (.slice none 0 0), fEq (.slice none 0 0)], bU v1 143 (cL 80 (aB .i64)) i.1, aE v2 41 (aB .i64) x2, aE v8 41 (aB .i64) x10, bU i.2.2 37 (cL 41 (aB .i64)) i.2.1]) ?_ ?_
 revert H; refine B2 fun y28 h39 H => ?_
 refine Yo 3 rfl (lV rfl hh hh (el rfl) h39) ?_
 refine eD ?_
 refine rK (i := x43.toNat) (k := 0) (y := y28) (f := (fun v => aE v 80 (aB .i64) y28)) (bN h39) rfl (fun v19 => ?_)
 refine aW 0 rfl (fun hc_v19 => ?_)
 refine Yo 1 rfl (lY rfl rfl hh (sc rfl) (bN h39) rfl) ?_
 revert H; refine B5 fun o8 H Hr8 => ?_
 refine aX (ι := List Int × Value) (fun i => o8 = i.1) (fun i => [(6, fEq (ptr b1)), (8, fEq (ptr b3)), (167, fEq v1), (168, aA .i64 (x9.length : Int)), (169, aA .i64 x43), (23, fEq i.2)]) (fun i => [aC b3 40 [fEq v2, fEq v8, fEq v17], aC b2 52 [fSl bE y1.Chans, fSl cB y1.Spots, fSl bK y1.Rules], aC b1 40 [fEq (.slice none 0 0), fEq (.slice none 0 0), fEq (.slice none 0 0)], pS v1 143 (cL 80 (aB .i64)) x42 (x43.toNat * OTy.sz (cL 80 (aB .i64)) + 0) v19, aE i.2 41 (aB .i64) i.1, aE v2 41 (aB .i64) x2, aE v8 41 (aB .i64) x10, bU v17 37 (cL 41 (aB .i64)) x44, aE v19 80 (aB .i64) y28]) ?_ ?_
 refine Z6 ?_
 refine xS (aB .i64) 41 ?_
 refine aI [3, 4, 5, 2, 0, 1, 6, 7, 8] (by decide) ?_
 refine Tl (ι := Nat × List Int × Int × Value) (fun i => nS y28 i.1 i.2.1 i.2.2.1 = _) (fun i => i.1) (fun i => [(6, fEq (ptr b1)), (8, fEq (ptr b3)), (167, fEq v1), (168, aA .i64 (x9.length : Int)), (169, aA .i64 x43), (23, fEq i.2.2.2), (173, fEq v19), (174, aA .i64 (y28.length : Int)), (175, aA .i64 i.2.2.1)]) (fun i => [aC b3 40 [fEq v2, fEq v8, fEq v17], aC b2 52 [fSl bE y1.Chans, fSl cB y1.Spots, fSl bK y1.Rules], aC b1 40 [fEq (.slice none 0 0), fEq (.slice none 0 0), fEq (.slice none 0 0)], pS v1 143 (cL 80 (aB .i64)) x42 (x43.toNat * OTy.sz (cL 80 (aB .i64)) + 0) v19, aE i.2.2.2 41 (aB .i64) i.2.1, aE v19 80 (aB .i64) y28, aE v2 41 (aB .i64) x2, aE v8 41 (aB .i64) x10, bU v17 37 (cL 41 (aB .i64)) x44]) (fuel, [], 0, (.slice none 0 0)) H ?_
 clear H; rintro ⟨k7, x50, x51, v22⟩ H
 replace H : nS y28 k7 x50 x51 = _ := H
 try dsimp only
 obtain _ | k7 := k7
 rw [nS] at H; cases H
 rw [nS] at H
 refine aW 4 rfl (fun hc_v22 => ?_)
 refine Z3 ?_
 refine aH ?_
 revert H; refine is (fun c8 H => ?_) fun c8 H => ?_
 refine Z3 ?_
 refine aH ?_
 revert H; refine B2 fun y29 h40 H => ?_
 refine Z1 ?_
 refine Yo 5 rfl (jV rfl rfl hh (sc rfl) (bN h40) rfl) ?_
 revert H; refine B5 fun y30 h41 H => ?_
 refine Tc (aAw _ _ h41) ?_
 refine aT trivial rfl rfl (cS (t := (aB .i64)) (xs := [y30]) rfl (et rfl) (aR.cons rfl (has rfl) (aS (aD trivial)) aR.nil) rfl rfl rfl) (fun b10 => ?_)
 generalize hv_v23 : (Value.slice (some ⟨b10, 0, none⟩) _ _) = v23; clear hv_v23
 refine aW 0 rfl (fun hc_v23 => ?_)
 revert H; refine bs fun z10 h42 H => ?_
 refine mY ?_
 refine dN ?_
 refine aCE trivial rfl rfl rfl (has rfl) (has rfl) (et rfl) rfl h42 (fun v24 => ?_)
 refine aW 0 rfl (fun hc_v24 => ?_)
 revert H; refine B5 fun z11 h43 H => ?_
 refine Z3 ?_
 refine aI [1, 2, 3, 4, 0, 5, 6, 7, 8] (by decide) ?_
 exact Tm ((k7, z10, z11, v24)) ⟨H, ls⟩
 refine Z6 ?_
 refine aI [0, 1, 2, 3, 4, 6, 7, 8, 5] (by decide) ?_
 exact Tm ((x50, v22)) (ij H)
 clear H; intro i hi; obtain ⟨x47, v20⟩ := i; subst o8; have H := Hr8; clear Hr8; try dsimp only at H
 try dsimp only
 refine aW 4 rfl (fun hc_v20 => ?_)
 refine Z4 ?_
 refine aT trivial rfl rfl (cS (t := tF 1) (xs := [[⟨fEq v20, aD hc_v20⟩]]) rfl (et rfl) (aR.cons rfl (has rfl) (aS (aD hc_v20)) aR.nil) rfl rfl rfl) (fun b11 => ?_)
 generalize hv_v25 : (Value.slice (some ⟨b11, 0, none⟩) _ _) = v25; clear hv_v25
 refine sC ?_
 refine mY ?_
 refine gL (p := 0) (f := (fun v => aE v 41 (aB .i64) x47)) (hf := (fun _ => eB)) rfl Ent.rfl ?_
 refine sL (o := (cL 41 (aB .i64))) (xs := ([x47] : List (List Int))) rfl rfl rfl ?_
 refine eA 0 rfl (fun hc_v25 => ?_)
 revert H; refine bs fun z12 h44 H => ?_
 refine T_fr7 ?_
 refine dN ?_
 refine aAS (q := (cL 41 (aB .i64))) trivial rfl rfl rfl (has rfl) (has rfl) (et rfl) rfl h44 (fun v26 => ?_)
 refine eA 0 rfl (fun hc_v26 => ?_)
 refine Z1 ?_
 refine dN ?_
 refine dI (φs' := [fEq v2, fEq v8, fEq v26]) trivial rfl rfl (has rfl) (has rfl) (aD hc_v26) (sz rfl) rfl rfl ?_
 refine Z3 ?_
 refine bJ ?_
 refine T_fr7 ?_
 refine qG (o := (cL 80 (aB .i64))) (i := x43.toNat) (k := 0) (y := y28) (y' := y28) (f := (fun v => aE v 80 (aB .i64) y28)) (hf := (fun _ => eB)) (bN h39) rfl rfl ?_
 refine aI [1, 3, 4, 0, 5, 6, 2] (by decide) ?_
 exact Tm ((x42.set x43.toNat y28, z12, v26)) (ij H)
 clear H; intro i hi; obtain ⟨x45, x46, v18⟩ := i; subst o7; have H := Hr7; clear Hr7; try dsimp only at H
 try dsimp only
 refine eA 6 rfl (fun hc_v18 => ?_)
 revert H; refine B1 fun z13 h45 H => ?_
 refine Z3 ?_
 exact Tm ((k6, x45, z13, x46, v18)) ⟨H, ls⟩
 refine Z6 ?_
 refine aI [0, 1, 2, 4, 5, 6] (by decide) ?_
 exact Tm ((x44, v17)) (ij H)
 clear H; intro i hi; obtain ⟨x38, v15⟩ := i; subst o6; have H := Hr6; clear Hr6; try dsimp only at H
 try dsimp only
 refine eA 5 rfl (fun hc_v15 => ?_)
 refine Z2 ?_
 refine eI ?_
 refine dP (φs' := [fEq v2, fEq v8, fEq v15]) trivial rfl rfl (has rfl) (has rfl) (aO (aD hc_v2) (aO (aD hc_v8) (aO (aD hc_v15) bY))) (sz rfl) rfl rfl rfl ?_
 refine Z2 ?_
 cases H
 refine aI [0, 3, 4, 5] (by decide) ?_
 exact T_outWC rfl (ag rfl) (bQ rfl) (fB.own (fB.own (fB.own fB.nil))) rfl rfl
def nT (fuel : Nat) (a0 : Usage_text) (a1 : List UsageDef) : Nat → (List UsageDef) → Int → Option (List UsageDef)
| 0, _, _ => none
| k + 1, x4, x5 =>
 if x5 < (a0.ScopeProg.Defs.length : Int) then
  (vK fuel a0 a1 x5).bind fun y1 =>
  (dU (x4 ++ ([(⟨y1.Chans, y1.Rules, y1.Args⟩ : UsageDef)] : List UsageDef))).bind fun z1 =>
  (chk (x5 + 1)).bind fun z2 =>
  nT fuel a0 a1 k z1 z2
 else
  some x4
def rD (fuel : Nat) (a0 : Usage_text) (a1 : List UsageDef) : Option (List UsageDef) :=
 (nT fuel a0 a1 fuel [] 0).bind fun x1 =>
 some x1
theorem aDW (fuel : Nat)  (a0 : Usage_text) (a1 : List UsageDef) (r : List UsageDef) (H : rD fuel a0 a1 = some r) : FnS Try.prog 24 [aF bG a0, fSl aZ a1] [] fAny (fun v => [(fun v => bU v 40 dJ r) v]) := by
 unfold rD at H
 refine bF Try.func24 rfl Try.ntmps24 rfl (fun β => ?_)
 revert H; refine B6 fun o1 H Hr1 => ?_
 refine aX (ι := List UsageDef × Value) (fun i => o1 = i.1) (fun i => [(5, fEq i.2)]) (fun i => [bU i.2 40 dJ i.1]) ?_ ?_
 refine Z10 ?_
 refine yA dJ 40 ?_
 refine Tl (ι := Nat × List UsageDef × Int × Value) (fun i => nT fuel a0 a1 i.1 i.2.1 i.2.2.1 = _) (fun i => i.1) (fun i => [(0, aF bG a0), (1, fSl aZ a1), (5, fEq i.2.2.2), (12, aA .i64 (a0.ScopeProg.Defs.length : Int)), (13, aA .i64 i.2.2.1)]) (fun i => [bU i.2.2.2 40 dJ i.2.1]) (fuel, [], 0, (.slice none 0 0)) H ?_
 clear H; rintro ⟨k1, x4, x5, v3⟩ H
 replace H : nT fuel a0 a1 k1 x4 x5 = _ := H
 try dsimp only
 obtain _ | k1 := k1
 rw [nT] at H; cases H
 rw [nT] at H
 refine eA 0 rfl (fun hc_v3 => ?_)
 refine Z3 ?_
 refine aH ?_
 revert H; refine is (fun c1 H => ?_) fun c1 H => ?_
 refine Z3 ?_
 refine aH ?_
 revert H; refine B10 fun y1 h1 H => ?_
 refine yX trivial rfl rfl rfl (has rfl) (aJ.cons (has rfl) (aJ.cons (has rfl) (aJ.cons (has rfl) aJ.nil))) rfl (cb rfl) (aH9 fuel a0 a1 x5 y1 h1) (Δi := []) rfl (fun v4 => ?_)
 dsimp only [List.append, List.cons_append, List.nil_append]
 refine T_openW (c := .agg) (fs := [.own (fun v => aE v 41 (aB .i64) y1.Chans) (fun _ => eB), .own (fun v => aE v 41 (aB .i64) y1.Rules) (fun _ => eB), .own (fun v => bU v 37 (cL 41 (aB .i64)) y1.Args) (fun _ => lQ)]) (fun v5 v6 v7 => ?_)
 dsimp only [List.append, List.cons_append, List.nil_append]
 refine aW 0 rfl (fun hc_v5 => ?_)
 refine aW 1 rfl (fun hc_v6 => ?_)
 refine eA 2 rfl (fun hc_v7 => ?_)
 refine aT trivial rfl rfl (cS (t := tF 3) (xs := [[⟨fEq v5, aD hc_v5⟩, ⟨fEq v6, aD hc_v6⟩, ⟨fEq v7, aD hc_v7⟩]]) rfl (et rfl) (aR.cons rfl (has rfl) bO aR.nil) rfl rfl rfl) (fun b1 => ?_)
 generalize hv_v8 : (Value.slice (some ⟨b1, 0, none⟩) _ _) = v8; clear hv_v8
 refine sC ?_
 refine dN ?_
 refine gL (p := 0) (f := (fun v => aE v 41 (aB .i64) y1.Chans)) (hf := (fun _ => eB)) rfl Ent.rfl ?_
 refine dN ?_
 refine gL (p := 1) (f := (fun v => aE v 41 (aB .i64) y1.Rules)) (hf := (fun _ => eB)) rfl Ent.rfl ?_
 refine dN ?_
 refine gL (p := 2) (f := (fun v => bU v 37 (cL 41 (aB .i64)) y1.Args)) (hf := (fun _ => lQ)) rfl Ent.rfl ?_
 refine sL (o := dJ) (xs := ([(⟨y1.Chans, y1.Rules, y1.Args⟩ : UsageDef)] : List UsageDef)) rfl rfl rfl ?_
 refine eA 0 rfl (fun hc_v8 => ?_)
 revert H; refine bs fun z1 h2 H => ?_
 refine aAS (q := dJ) trivial rfl rfl rfl (has rfl) (has rfl) (et rfl) rfl h2 (fun v9 => ?_)
 refine eA 0 rfl (fun hc_v9 => ?_)
 revert H; refine B5 fun z2 h3 H => ?_
 refine Z3 ?_
 exact Tm ((k1, z1, z2, v9)) ⟨H, ls⟩
 refine Z6 ?_
 exact Tm ((x4, v3)) (ij H)
 clear H; intro i hi; obtain ⟨x1, v1⟩ := i; subst o1; have H := Hr1; clear Hr1; try dsimp only at H
 try dsimp only
 refine eA 0 rfl (fun hc_v1 => ?_)
 refine Z5 ?_
 cases H
 exact yP rfl (bQ rfl) (fun _ _ _ => trivial) rfl
theorem aGh (fuel : Nat)  (a0 : Usage_text) (a1 : List UsageDef) (r : List UsageDef) (H : rD fuel a0 a1 = some r) : FnS Try.prog 24 [aF bG a0, fSl aZ a1] [] (fSl aZ r) (fun _ => []) := (aDW fuel a0 a1 r H).frz (fun v => (nR rfl pE))
end Go.Proofs.Ytmnbfgeljmhekaa
set_option maxRecDepth 100000
set_option maxHeartbeats 2000000
namespace Go.Proofs.Ytmnbfgeljmhekaa
open Go.SX Go.SW Go.Dt
attribute [local irreducible] Code.wpIn wpListIn Exit.then Exit.inBlock
def nV (a0 : List Int) (a1 : List Int) (a2 : Bool) (w0 : Int × Int × Bool → Option Bool) : Nat → Int → Option ((Unit) ⊕ (Bool))
| 0, _ => none
| k + 1, x2 =>
 if x2 < (a0.length : Int) then
  (idx a0 x2).bind fun y1 =>
  (idx a1 x2).bind fun y2 =>
  (w0 (y1, y2, a2)).bind fun y3 =>
  bif y3 then
   (chk (x2 + 1)).bind fun z1 =>
   nV a0 a1 a2 w0 k z1
  else
   (some false).bind fun r => some (Sum.inr r)
 else
  some (Sum.inl ())
def rX (fuel : Nat) (a0 : List Int) (a1 : List Int) (a2 : Bool) (w0 : Int × Int × Bool → Option Bool) : Option (Bool) :=
 (nV a0 a1 a2 w0 fuel 0).bind fun o => match o with
 | Sum.inr r => some r
 | Sum.inl _ =>
 some true
theorem aAx (fuel : Nat)  (a0 : List Int) (a1 : List Int) (a2 : Bool) (w0 : Int × Int × Bool → Option Bool) (r : Bool) (H : rX fuel a0 a1 a2 w0 = some r) : FnS Try.prog 55 [fSl (aB .i64) a0, fSl (aB .i64) a1, aG a2, aF (tFn Try.prog (fun (x : Int × Int × Bool) => [aA .i64 x.1, aA .i64 x.2.1, aG x.2.2]) (fun (r : Bool) => aG r)) w0] [] (aG r) (fun _ => []) := by
 unfold rX at H
 refine bF Try.func55 rfl Try.ntmps55 rfl (fun β => ?_)
 revert H; refine B3 fun o1 H Hr1 => ?_
 refine aX (ι := Unit) (fun i => o1 = Sum.inl ()) (fun i => []) (fun i => []) ?_ ?_
 refine Z6 ?_
 refine Tl (ι := Nat × Int) (fun i => nV a0 a1 a2 w0 i.1 i.2 = _) (fun i => i.1) (fun i => [(0, fSl (aB .i64) a0), (1, fSl (aB .i64) a1), (2, aG a2), (3, aF (tFn Try.prog (fun (x : Int × Int × Bool) => [aA .i64 x.1, aA .i64 x.2.1, aG x.2.2]) (fun (r : Bool) => aG r)) w0), (10, aA .i64 (a0.length : Int)), (11, aA .i64 i.2)]) (fun i => []) (fuel, 0) H ?_
 clear H; rintro ⟨k1, x2⟩ H
 replace H : nV a0 a1 a2 w0 k1 x2 = _ := H
 try dsimp only
 obtain _ | k1 := k1
 rw [nV] at H; cases H
 rw [nV] at H
 refine Z3 ?_
 refine aH ?_
 revert H; refine is (fun c1 H => ?_) fun c1 H => ?_
 refine Z3 ?_
 refine aH ?_
 refine Z5 ?_
 refine aH ?_
 revert H; refine bs fun y1 h1 H => ?_
 revert H; refine bs fun y2 h2 H => ?_
 revert H; refine bs fun y3 h3 H => ?_
 apply bI (ods := [_, _, _, _, _, _, _, _, _, _, _, _]) 12 0 0 bH rfl rfl rfl
 refine ND ?_
 refine M8 ?_
 intros
 refine M2 ?_
 intros
 refine aDz (od := odC [] true (aG y3) []) (Φ := aG y3) (y1, y2, a2) rfl (fun _ => rfl) trivial rfl rfl (has rfl) (aJ.cons (has rfl) (aJ.cons (has rfl) (aJ.cons (has rfl) aJ.nil))) h3 rfl (fun _ => ?_)
 refine M1 ?_
 intros
 refine Z2 ?_
 revert H; refine cs (fun c2 H => ?_) fun c2 H => ?_
 revert H; refine B5 fun z1 h4 H => ?_
 refine Z3 ?_
 exact Tm ((k1, z1)) ⟨H, ls⟩
 revert H; refine B10 fun r1 H e1 => ?_
 cases e1; cases Hr1
 cases H
 exact To
 exact fk
 kernel_rfl
 refine Z6 ?_
 exact Tm (()) (ij H)
 clear H; intro i hi; subst o1; have H := Hr1; clear Hr1; try dsimp only at H
 try dsimp only
 refine Z4 ?_
 cases H
 exact To
def nJ (fuel : Nat) (a0 : List UsageDef) (a1 : List UsageDef) (a2 : Int × Int × Bool → Option Bool) (x2 : Int) (y7 : UsageDef) : Nat → Int → Option ((Unit) ⊕ ((Unit) ⊕ (Bool)))
| 0, _ => none
| k + 1, x4 =>
 if x4 < (y7.Args.length : Int) then
  (idx a0 x2).bind fun y8 =>
  (idx y8.Args x4).bind fun y9 =>
  (idx a1 x2).bind fun y10 =>
  (idx y10.Args x4).bind fun y11 =>
  (rX fuel y9 y11 false a2).bind fun y12 =>
  bif y12 then
   (chk (x4 + 1)).bind fun z1 =>
   nJ fuel a0 a1 a2 x2 y7 k z1
  else
   ((some false).bind fun r => some (Sum.inr r)).bind fun r => some (Sum.inr r)
 else
  some (Sum.inl ())
def lZ (fuel : Nat) (a0 : List UsageDef) (a1 : List UsageDef) (a2 : Int × Int × Bool → Option Bool) : Nat → Int → Option ((Unit) ⊕ (Bool))
| 0, _ => none
| k + 1, x2 =>
 if x2 < (a0.length : Int) then
  ((idx a0 x2).bind fun y1 =>
  (idx a1 x2).bind fun y2 =>
  (rX fuel y1.Chans y2.Chans true a2).bind fun y3 =>
  bif !y3 then
   ((some false).bind fun r => some (Sum.inr r)).bind fun r => some (Sum.inr r)
  else
   (idx a0 x2).bind fun y4 =>
   (idx a1 x2).bind fun y5 =>
   (rX fuel y4.Rules y5.Rules false a2).bind fun y6 =>
   bif y6 then
    (idx a0 x2).bind fun y7 =>
    nJ fuel a0 a1 a2 x2 y7 fuel 0
   else
    ((some false).bind fun r => some (Sum.inr r)).bind fun r => some (Sum.inr r)).bind fun o => match o with
  | Sum.inr r => some r
  | Sum.inl _ =>
  (chk (x2 + 1)).bind fun z2 =>
  lZ fuel a0 a1 a2 k z2
 else
  some (Sum.inl ())
def oK (fuel : Nat) (a0 : List UsageDef) (a1 : List UsageDef) (a2 : Int × Int × Bool → Option Bool) : Option (Bool) :=
 (lZ fuel a0 a1 a2 fuel 0).bind fun o => match o with
 | Sum.inr r => some r
 | Sum.inl _ =>
 some true
theorem aCF (fuel : Nat)  (a0 : List UsageDef) (a1 : List UsageDef) (a2 : Int × Int × Bool → Option Bool) (r : Bool) (H : oK fuel a0 a1 a2 = some r) : FnS Try.prog 25 [fSl aZ a0, fSl aZ a1, fFn Try.prog (fun (x : Int × Int × Bool) => [aA .i64 x.1, aA .i64 x.2.1, aG x.2.2]) (fun (r : Bool) => aG r) a2] [] (aG r) (fun _ => []) := by
 unfold oK at H
 refine bF Try.func25 rfl Try.ntmps25 rfl (fun β => ?_)
 refine Z1 ?_
 refine aT trivial rfl rfl (cG rfl (has rfl) (aS (aBd))) (fun b1 => ?_)
 refine Z3 ?_
 refine cW (φ := aF (tFn Try.prog (fun (x : Int × Int × Bool) => [aA .i64 x.1, aA .i64 x.2.1, aG x.2.2]) (fun (r : Bool) => aG r)) a2) (v := ptr b1) [5] (hZ aL.rfl) (by intro s hs; simp only [List.mem_cons, List.not_mem_nil, or_false] at hs; rcases hs with rfl <;> rfl) ?_
 refine cY ?_
 refine Yy (uG rfl (aJ.cons hh aJ.nil)) ?_
 revert H; refine B2 fun o1 H Hr1 => ?_
 refine aX (ι := Unit) (fun i => o1 = Sum.inl ()) (fun i => []) (fun i => []) ?_ ?_
 refine Z6 ?_
 refine Tl (ι := Nat × Int) (fun i => lZ fuel a0 a1 a2 i.1 i.2 = _) (fun i => i.1) (fun i => [(0, fSl aZ a0), (1, fSl aZ a1), (7, cX 55 [aF (tFn Try.prog (fun (x : Int × Int × Bool) => [aA .i64 x.1, aA .i64 x.2.1, aG x.2.2]) (fun (r : Bool) => aG r)) a2]), (12, aA .i64 (a0.length : Int)), (13, aA .i64 i.2)]) (fun i => []) (fuel, 0) H ?_
 clear H; rintro ⟨k1, x2⟩ H
 replace H : lZ fuel a0 a1 a2 k1 x2 = _ := H
 try dsimp only
 obtain _ | k1 := k1
 rw [lZ] at H; cases H
 rw [lZ] at H
 refine Z3 ?_
 refine aH ?_
 revert H; refine is (fun c1 H => ?_) fun c1 H => ?_
 refine dC (has rfl) c1 ?_
 revert H; refine B2 fun o2 H Hr2 => ?_
 refine aX (ι := Unit) (fun i => o2 = Sum.inl ()) (fun i => [(0, fSl aZ a0), (1, fSl aZ a1), (7, cX 55 [aF (tFn Try.prog (fun (x : Int × Int × Bool) => [aA .i64 x.1, aA .i64 x.2.1, aG x.2.2]) (fun (r : Bool) => aG r)) a2]), (12, aA .i64 (a0.length : Int)), (13, aA .i64 x2)]) (fun i => []) ?_ ?_
 refine Z5 ?_
 refine aH ?_
 refine aH ?_
 revert H; refine bs fun y1 h1 H => ?_
 revert H; refine bs fun y2 h2 H => ?_
 revert H; refine bs fun y3 h3 H => ?_
 revert H; refine cs (fun c2 H => ?_) fun c2 H => ?_
 apply bI (ods := [_, _, _, _, _, _, _, _, _, _, _, _, _, _, _, _, _, _, _, _, _, _, _, _, _, _, _, _]) 28 0 0 bH rfl rfl rfl
 refine ND ?_
 refine M3 ?_
 intros
 refine My (cD rfl hh hh (el rfl) h1) fun _ => ?_
 refine M4 ?_
 intros
 refine My (cD rfl hh hh (el rfl) h2) fun _ => ?_
 refine M2 ?_
 intros
 refine aAE (od := odC [] true (aG y3) []) (Φ := aG y3) rfl (fun _ => rfl) trivial rfl rfl (has rfl) (aJ.cons (has rfl) (aJ.cons (has rfl) (aJ.cons (has rfl) aJ.nil))) rfl (cb rfl) (aAx fuel y1.Chans y2.Chans true a2 y3 h3) (fun _ => ?_)
 refine M2 ?_
 intros
 refine Mt c2 fun _ => ?_
 refine Mt c2 fun _ => ?_
 refine Mt c2 fun _ => ?_
 refine Mt c2 fun _ => ?_
 refine Mt c2 fun _ => ?_
 refine Mt c2 fun _ => ?_
 refine Mt c2 fun _ => ?_
 refine Mt c2 fun _ => ?_
 refine Mt c2 fun _ => ?_
 refine Mt c2 fun _ => ?_
 refine Mt c2 fun _ => ?_
 refine Mt c2 fun _ => ?_
 refine Mt c2 fun _ => ?_
 refine My (dF rfl hh c2 hh) fun _ => ?_
 revert H; refine B9 fun r1 H e1 => ?_
 cases e1; cases Hr2
 revert H; refine B3 fun r2 H e2 => ?_
 cases e2; cases Hr1
 cases H
 exact To
 exact fk
 kernel_rfl
 revert H; refine bs fun y4 h4 H => ?_
 revert H; refine bs fun y5 h5 H => ?_
 revert H; refine bs fun y6 h6 H => ?_
 apply bI (ods := [_, _, _, _, _, _, _, _, _, _, _, _, _, _, _, _, _, _, _, _, _, _, _, _, _, _, _, _]) 28 0 0 bH rfl rfl rfl
 refine ND ?_
 refine M3 ?_
 intros
 refine My (cD rfl hh hh (el rfl) h1) fun _ => ?_
 refine M4 ?_
 intros
 refine My (cD rfl hh hh (el rfl) h2) fun _ => ?_
 refine M2 ?_
 intros
 refine aAE (od := odC [] true (aG y3) []) (Φ := aG y3) rfl (fun _ => rfl) trivial rfl rfl (has rfl) (aJ.cons (has rfl) (aJ.cons (has rfl) (aJ.cons (has rfl) aJ.nil))) rfl (cb rfl) (aAx fuel y1.Chans y2.Chans true a2 y3 h3) (fun _ => ?_)
 refine M2 ?_
 intros
 refine Mg c2 (bV rfl hh) fun _ => ?_
 refine Mg c2 (bV rfl hh) fun _ => ?_
 refine Mg c2 (bV rfl hh) fun _ => ?_
 refine Mg c2 (cD rfl hh hh (el rfl) h4) fun _ => ?_
 refine Mg c2 (fU (t' := (tSl (aB .i64))) (z := y4.Rules) rfl hh (fa rfl) rfl) fun _ => ?_
 refine Mg c2 (fP rfl hh (sc rfl) rfl) fun _ => ?_
 refine Mg c2 (bV rfl hh) fun _ => ?_
 refine Mg c2 (bV rfl hh) fun _ => ?_
 refine Mg c2 (cD rfl hh hh (el rfl) h5) fun _ => ?_
 refine Mg c2 (fU (t' := (tSl (aB .i64))) (z := y5.Rules) rfl hh (fa rfl) rfl) fun _ => ?_
 refine Mg c2 (fP rfl hh (sc rfl) rfl) fun _ => ?_
 refine aAE (od := odC [] true (aG y6) []) (Φ := aG y6) rfl (fun _ => rfl) ⟨_, _, rfl, rfl, c2⟩ rfl rfl (has rfl) (aJ.cons (has rfl) (aJ.cons (has rfl) (aJ.cons (has rfl) aJ.nil))) rfl (cb rfl) (aAx fuel y4.Rules y5.Rules false a2 y6 h6) (fun _ => ?_)
 refine Mg c2 (jP rfl hh) fun _ => ?_
 refine My (cJ rfl hh c2 hh) fun _ => ?_
 refine Z2 ?_
 revert H; refine cs (fun c3 H => ?_) fun c3 H => ?_
 refine dB (has rfl) (oT c3) ?_
 revert H; refine B5 fun y7 h7 H => ?_
 refine Yy (cD rfl hh hh (el rfl) h7) ?_
 refine Z6 ?_
 refine Tl (ι := Nat × Int) (fun i => nJ fuel a0 a1 a2 x2 y7 i.1 i.2 = _) (fun i => i.1) (fun i => [(0, fSl aZ a0), (1, fSl aZ a1), (7, cX 55 [aF (tFn Try.prog (fun (x : Int × Int × Bool) => [aA .i64 x.1, aA .i64 x.2.1, aG x.2.2]) (fun (r : Bool) => aG r)) a2]), (12, aA .i64 (a0.length : Int)), (13, aA .i64 x2), (8, aA .i64 x2), (49, aA .i64 (y7.Args.length : Int)), (50, aA .i64 i.2)]) (fun i => []) (fuel, 0) H ?_
 clear H; rintro ⟨k2, x4⟩ H
 replace H : nJ fuel a0 a1 a2 x2 y7 k2 x4 = _ := H
 try dsimp only
 obtain _ | k2 := k2
 rw [nJ] at H; cases H
 rw [nJ] at H
 refine Z3 ?_
 refine aH ?_
 revert H; refine is (fun c4 H => ?_) fun c4 H => ?_
 refine dC (has rfl) c4 ?_
 refine Z2 ?_
 refine aH ?_
 refine Z5 ?_
 refine aH ?_
 revert H; refine bs fun y8 h8 H => ?_
 revert H; refine bs fun y9 h9 H => ?_
 revert H; refine bs fun y10 h10 H => ?_
 revert H; refine bs fun y11 h11 H => ?_
 revert H; refine bs fun y12 h12 H => ?_
 apply bI (ods := [_, _, _, _, _, _, _, _, _, _, _, _, _, _, _, _, _, _, _]) 19 0 0 bH rfl rfl rfl
 refine ND ?_
 refine M3 ?_
 intros
 refine My (cD rfl hh hh (el rfl) h8) fun _ => ?_
 refine M3 ?_
 intros
 refine My (cD rfl hh hh (el rfl) h9) fun _ => ?_
 refine M3 ?_
 intros
 refine My (cD rfl hh hh (el rfl) h10) fun _ => ?_
 refine M3 ?_
 intros
 refine My (cD rfl hh hh (el rfl) h11) fun _ => ?_
 refine M1 ?_
 intros
 refine aAE (od := odC [] true (aG y12) []) (Φ := aG y12) rfl (fun _ => rfl) trivial rfl rfl (has rfl) (aJ.cons (has rfl) (aJ.cons (has rfl) (aJ.cons (has rfl) aJ.nil))) rfl (cb rfl) (aAx fuel y9 y11 false a2 y12 h12) (fun _ => ?_)
 refine M1 ?_
 intros
 refine Z2 ?_
 revert H; refine cs (fun c5 H => ?_) fun c5 H => ?_
 refine dB (has rfl) (oT c5) ?_
 revert H; refine B4 fun z1 h13 H => ?_
 refine Yy (fO rfl hh hh h13) ?_
 refine Z2 ?_
 exact Tm ((k2, z1)) ⟨H, ls⟩
 refine dC (has rfl) (pC c5) ?_
 revert H; refine B10 fun r3 H e3 => ?_
 cases e3; cases Hr2
 revert H; refine B3 fun r4 H e4 => ?_
 cases e4; cases Hr1
 cases H
 exact To
 exact fk
 kernel_rfl
 refine dB (has rfl) c4 ?_
 refine Z6 ?_
 exact Tm (()) (ij H)
 refine dC (has rfl) (pC c3) ?_
 revert H; refine B6 fun r5 H e5 => ?_
 cases e5; cases Hr2
 revert H; refine B3 fun r6 H e6 => ?_
 cases e6; cases Hr1
 cases H
 exact To
 exact fk
 kernel_rfl
 clear H; intro i hi; subst o2; have H := Hr2; clear Hr2; try dsimp only at H
 try dsimp only
 revert H; refine B1 fun z2 h14 H => ?_
 refine Yy (fO rfl hh hh h14) ?_
 refine Z2 ?_
 exact Tm ((k1, z2)) ⟨H, ls⟩
 refine dB (has rfl) c1 ?_
 refine Z5 ?_
 exact Tm (()) (ij H)
 clear H; intro i hi; subst o1; have H := Hr1; clear Hr1; try dsimp only at H
 try dsimp only
 refine Z4 ?_
 cases H
 exact To
def wP (a0 : Int) (a1 : Int) (a2 : Bool) : Option (Bool) :=
 some (decide (a0 = a1))
theorem aGJ  (a0 : Int) (a1 : Int) (a2 : Bool) (r : Bool) (H : wP a0 a1 a2 = some r) : FnS Try.prog 26 [aA .i64 a0, aA .i64 a1, aG a2] [] (aG r) (fun _ => []) := by
 unfold wP at H
 refine bF Try.func26 rfl Try.ntmps26 rfl (fun β => ?_)
 refine Z10 ?_
 cases H
 exact To
def rV (rec_usage_text_sure : Usage_text → Int → Int → Option (Int)) (a0 : Usage_text) (a2 : Int) (x1 : Int) (x3 : Int) : Option (Int) :=
 (rec_usage_text_sure a0 x1 a2).bind fun y6 =>
 (chk (x3 + y6)).bind fun z1 =>
 some z1
mutual
def lG : Nat → Usage_text → Int → Int → Option (Int)
| 0, _, _, _ => none
| fuel + 1, a0, a1, a2 =>
 (idx a0.ScopeProg.Nodes a1).bind fun y1 =>
 (idx y1.Kids 0).bind fun y2 =>
 ((gV fuel) a0 y2 a2).bind fun y3 =>
 (qM a0 y1.N).bind fun y4 =>
 (rW fuel (fun (x : Int) (t : Int) => rV (gV fuel) a0 a2 x t) y3 y4.1 y4.2).bind fun y5 =>
 some y5
def gV : Nat → Usage_text → Int → Int → Option (Int)
| 0, _, _, _ => none
| fuel + 1, a0, a1, a2 =>
 (idx a0.ScopeProg.Nodes a1).bind fun y1 =>
 (if y1.Op = 2 then
  (idx a0.denotes a1).bind fun y2 =>
  bif (y2.get a2).isSome then
   if y1.N = a2 then
    (pU a0 (⟨((y2.get a2).getD (⟨0, 0⟩ : Usage_channel)).def_, ((y2.get a2).getD (⟨0, 0⟩ : Usage_channel)).index⟩ : Usage_channel) a1).bind fun y3 =>
    bif y3 then
     (some 1).bind fun r => some (Sum.inr r)
    else
     some (Sum.inl ())
   else
    some (Sum.inl ())
  else
   some (Sum.inl ())
 else
  if y1.Op = 3 then
   (idx y1.Kids 0).bind fun y4 =>
   ((gV fuel) a0 y4 a2).bind fun y5 =>
   (idx y1.Kids 1).bind fun y6 =>
   ((gV fuel) a0 y6 a2).bind fun y7 =>
   (chk (y5 + y7)).bind fun z1 =>
   (some z1).bind fun r => some (Sum.inr r)
  else
   if y1.Op = 5 then
    (idx y1.Kids 0).bind fun y8 =>
    ((gV fuel) a0 y8 a2).bind fun y9 =>
    (idx y1.Kids 1).bind fun y10 =>
    ((gV fuel) a0 y10 a2).bind fun y11 =>
    (some (min y9 y11)).bind fun r => some (Sum.inr r)
   else
    if y1.Op = 4 then
     ((lG fuel) a0 a1 a2).bind fun y12 =>
     (some y12).bind fun r => some (Sum.inr r)
    else
     some (Sum.inl ())).bind fun o => match o with
 | Sum.inr r => some r
 | Sum.inl _ =>
 some 0
end
theorem aE0 : ∀ (fuel : Nat), (∀  (a0 : Usage_text) (a1 : Int) (a2 : Int) (r : Int) (H : lG fuel a0 a1 a2 = some r), FnS Try.prog 27 [aF bG a0, aA .i64 a1, aA .i64 a2] [] (aA .i64 r) (fun _ => [])) ∧ (∀  (a0 : Usage_text) (a1 : Int) (a2 : Int) (r : Int) (H : gV fuel a0 a1 a2 = some r), FnS Try.prog 47 [aF bG a0, aA .i64 a1, aA .i64 a2] [] (aA .i64 r) (fun _ => [])) := by
 intro fuel
 induction fuel with
 | zero => exact ⟨fun a0 a1 a2 r H => (by rw [lG] at H; cases H), fun a0 a1 a2 r H => (by rw [gV] at H; cases H)⟩
 | succ fuel ih =>
 obtain ⟨ih_usage_text_begun, ih_usage_text_sure⟩ := ih
 refine ⟨?_, ?_⟩
 intro a0 a1 a2 r H
 rw [lG] at H
 refine vS Try.func27 rfl Try.ntmps27 rfl (fun β => ?_)
 refine Z1 ?_
 refine aT trivial rfl rfl (cG rfl (has rfl) (aS (tD))) (fun b1 => ?_)
 refine aT trivial rfl rfl (cG rfl (has rfl) (aS (aD trivial))) (fun b2 => ?_)
 revert H; refine B9 fun y1 h1 H => ?_
 refine Z2 ?_
 refine aT trivial rfl rfl (cN rfl qE rfl) (fun b3 => ?_)
 refine dP (φs' := [aA .i64 y1.Op, aA .i64 y1.N, fSl bD y1.Args, fSl (aB .i64) y1.Kids]) trivial rfl rfl (has rfl) (has rfl) (aO (aD trivial) (aO (aD trivial) (aO (bC) (aO (bC) bY)))) (sz rfl) rfl rfl rfl ?_
 refine Z1 ?_
 refine aH ?_
 revert H; refine bs fun y2 h2 H => ?_
 revert H; refine bs fun y3 h3 H => ?_
 apply bI (ods := [_, _, _, _, _, _, _, _, _]) 9 1 4 bH rfl rfl rfl
 refine ND ?_
 refine M6 ?_
 intros
 refine Nc (ih_usage_text_sure _ _ _ _ h3) fun _ => ?_
 refine Mn 3 (fun b4 => ptr b4) (fun b4 => aC b4 3 [aA .i64 0]) rfl (cN rfl sH rfl) (fun b4 u1 => ?_)
 refine kM (od := od1 7 [3] true (fun b4 _ => fAny) (fun b4 _ => [aC b4 3 [aA .i64 y3]])) (p := 3) (φs' := [aA .i64 y3]) rfl (fun _ => rfl) (fun _ => rfl) trivial rfl rfl rfl (has rfl) (has rfl) (aD trivial) (sz rfl) rfl rfl (fun _ => ?_)
 refine Z2 ?_
 refine aH ?_
 revert H; refine B4 fun y4 h4 H => ?_
 refine gU trivial rfl rfl rfl (has rfl) (aJ.cons (dA rfl aEI) (aJ.cons (has rfl) aJ.nil)) rfl (cb rfl) (aBa a0 y1.N y4 h4) rfl ?_
 refine Z2 ?_
 refine T_sub [(0, aF bG a0), (1, aA .i64 a1), (2, aA .i64 a2), (3, fEq (ptr b1)), (5, fEq (ptr b2)), (6, aA .i64 0), (10, aF bG a0), (11, aF bG a0), (12, aF dM a0.ScopeProg), (13, aF (tSl aM) a0.ScopeProg.Nodes), (14, fSl aM a0.ScopeProg.Nodes), (15, aA .i64 a1), (16, aF aM y1), (17, fSt aM y1), (7, fEq (ptr b3)), (18, aF bG a0), (19, fEq (.pointer (some ⟨b3, 3, none⟩))), (20, fSl (aB .i64) y1.Kids), (21, aF (aB .i64) y2), (22, aA .i64 y2), (23, aA .i64 a2), (24, aA .i64 y3), (8, fEq (ptr b4)), (25, aF bG a0), (26, fEq (.pointer (some ⟨b3, 1, none⟩))), (27, aA .i64 y1.N), (28, cX 78 [aF (fK eE) y4.1, aF (aB .i64) y4.2])] (Sc (Sc (Sc (Sc (Sc (Sc (Sc (Sc (Sc (Sc (Sc (Sc (Sc (Sc (Sc (Sc (Sc (Sc (Sc (Sc (Sc (Sc (Sc (Sc (Sc (Sc (Sc fY.nil))))))))))))))))))))))))))) ?_
 revert H; refine bs fun y5 h5 H => ?_
 refine yU (s := y3) (s' := y5) (fun (x : Int) => [aA .i64 x]) (fun (x : Int) (t : Int) => rV (gV fuel) a0 a2 x t) (fun (t : Int) => [aC b3 56 [aA .i64 y1.Op, aA .i64 y1.N, fSl bD y1.Args, fSl (aB .i64) y1.Kids], aC b2 3 [aA .i64 a2], aC b1 71 [aF bG a0], aC b4 3 [aA .i64 t]]) (has rfl) (cb rfl) rfl (fun _ => rfl) rfl (fun J => aBJ fuel J (fun (x : Int) (t : Int) => rV (gV fuel) a0 a2 x t) y3 y4.1 y4.2 y5 h5) (fun β' l rec x1 t t' hs hp hY => ?_) (fun rb => ?_)
 generalize t = x3 at *
 have H : rV (gV fuel) a0 a2 x1 x3 = some t' := hY; clear hY; unfold rV at H; try dsimp only at H
 show T β' _ _ (qV [29] ((fun (x : Int) => [aA .i64 x]) x1) [(0, aF bG a0), (1, aA .i64 a1), (2, aA .i64 a2), (3, fEq (ptr b1)), (5, fEq (ptr b2)), (6, aA .i64 0), (10, aF bG a0), (11, aF bG a0), (12, aF dM a0.ScopeProg), (13, aF (tSl aM) a0.ScopeProg.Nodes), (14, fSl aM a0.ScopeProg.Nodes), (15, aA .i64 a1), (16, aF aM y1), (17, fSt aM y1), (7, fEq (ptr b3)), (18, aF bG a0), (19, fEq (.pointer (some ⟨b3, 3, none⟩))), (20, fSl (aB .i64) y1.Kids), (21, aF (aB .i64) y2), (22, aA .i64 y2), (23, aA .i64 a2), (24, aA .i64 y3), (8, fEq (ptr b4)), (25, aF bG a0), (26, fEq (.pointer (some ⟨b3, 1, none⟩))), (27, aA .i64 y1.N), (28, cX 78 [aF (fK eE) y4.1, aF (aB .i64) y4.2])]) (tObj l (.loop rec) :: [aC b3 56 [aA .i64 y1.Op, aA .i64 y1.N, fSl bD y1.Args, fSl (aB .i64) y1.Kids], aC b2 3 [aA .i64 a2], aC b1 71 [aF bG a0], aC b4 3 [aA .i64 x3]]) _
 refine Z3 ?_
 refine aAQ hs ?_
 revert H; refine B1 fun y6 h6 H => ?_
 revert H; refine bs fun z1 h7 H => ?_
 apply bI (ods := [_, _, _, _, _, _, _]) 7 0 5 bH rfl rfl rfl
 refine ND ?_
 refine M4 ?_
 intros
 refine Nc (ih_usage_text_sure _ _ _ _ h6) fun _ => ?_
 refine M1 ?_
 intros
 refine kM (od := odC [4] true (fAny) [aC b4 3 [aA .i64 z1]]) (p := 4) (φs' := [aA .i64 z1]) rfl (fun _ => rfl) (fun _ => rfl) trivial rfl rfl rfl (has rfl) (has rfl) (aD trivial) (sz rfl) rfl rfl (fun _ => ?_)
 refine Z3 ?_
 refine aI [1, 2, 3, 4, 0] (by decide) ?_
 cases H
 refine aI [4, 0, 1, 2, 3] (by decide) ?_
 exact aAh hs hp rfl
 exact fk
 kernel_rfl
 generalize rb = rb1
 show T β _ _ [(0, aF bG a0), (1, aA .i64 a1), (2, aA .i64 a2), (3, fEq (ptr b1)), (5, fEq (ptr b2)), (6, aA .i64 0), (10, aF bG a0), (11, aF bG a0), (12, aF dM a0.ScopeProg), (13, aF (tSl aM) a0.ScopeProg.Nodes), (14, fSl aM a0.ScopeProg.Nodes), (15, aA .i64 a1), (16, aF aM y1), (17, fSt aM y1), (7, fEq (ptr b3)), (18, aF bG a0), (19, fEq (.pointer (some ⟨b3, 3, none⟩))), (20, fSl (aB .i64) y1.Kids), (21, aF (aB .i64) y2), (22, aA .i64 y2), (23, aA .i64 a2), (24, aA .i64 y3), (8, fEq (ptr b4)), (25, aF bG a0), (26, fEq (.pointer (some ⟨b3, 1, none⟩))), (27, aA .i64 y1.N), (28, cX 78 [aF (fK eE) y4.1, aF (aB .i64) y4.2])] ([jM rb1] ++ [aC b3 56 [aA .i64 y1.Op, aA .i64 y1.N, fSl bD y1.Args, fSl (aB .i64) y1.Kids], aC b2 3 [aA .i64 a2], aC b1 71 [aF bG a0], aC b4 3 [aA .i64 y5]]) _
 dsimp only [List.append, List.cons_append, List.nil_append]
 refine Z7 ?_
 cases H
 refine aI [0] (by decide) ?_
 exact aE9 [rb1] rfl (bQ rfl) rfl rfl
 exact fk
 kernel_rfl
 intro a0 a1 a2 r H
 rw [gV] at H
 refine bF Try.func47 rfl Try.ntmps47 rfl (fun β => ?_)
 revert H; refine B10 fun y1 h1 H => ?_
 refine Z2 ?_
 refine aT trivial rfl rfl (cN rfl qE rfl) (fun b1 => ?_)
 refine dP (φs' := [aA .i64 y1.Op, aA .i64 y1.N, fSl bD y1.Args, fSl (aB .i64) y1.Kids]) trivial rfl rfl (has rfl) (has rfl) (aO (aD trivial) (aO (aD trivial) (aO (bC) (aO (bC) bY)))) (sz rfl) rfl rfl rfl ?_
 revert H; refine B1 fun o1 H Hr1 => ?_
 refine aX (ι := Unit) (fun i => o1 = Sum.inl ()) (fun i => []) (fun i => [aC b1 56 [aA .i64 y1.Op, aA .i64 y1.N, fSl bD y1.Args, fSl (aB .i64) y1.Kids]]) ?_ ?_
 revert H; refine I9 (fun c1 H => ?_) fun c1 H => ?_
 revert H; refine B7 fun y2 h2 H => ?_
 refine Z3 ?_
 refine Yy (aDs (zα := (⟨0, 0⟩ : Usage_channel)) (k := a2) rfl hh hh rfl wT (sJ [(.int .i64 0), (.int .i64 0)])) ?_
 refine Z3 ?_
 refine aT trivial rfl rfl (cN rfl aBr rfl) (fun b2 => ?_)
 refine dP (φs' := [aA .i64 (((y2.get a2).getD (⟨0, 0⟩ : Usage_channel)).def_), aA .i64 (((y2.get a2).getD (⟨0, 0⟩ : Usage_channel)).index)]) trivial rfl rfl (has rfl) (has rfl) (aO (aD trivial) (aO (aD trivial) bY)) (sz rfl) rfl rfl rfl ?_
 refine Z5 ?_
 revert H; refine cs (fun c2 H => ?_) fun c2 H => ?_
 revert H; refine I6 (fun c3 H => ?_) fun c3 H => ?_
 revert H; refine B3 fun y3 h3 H => ?_
 refine Tc (aFi _ _ _ _ h3) ?_
 refine Z2 ?_
 revert H; refine cs (fun c4 H => ?_) fun c4 H => ?_
 revert H; refine B7 fun r1 H e1 => ?_
 cases e1; cases Hr1
 cases H
 refine aI [] (by decide) ?_
 exact To
 refine Z4 ?_
 refine aI [1] (by decide) ?_
 exact Tm (()) (ij H)
 refine Z10 ?_
 refine aI [1] (by decide) ?_
 exact Tm (()) (ij H)
 refine Z12 ?_
 refine Z4 ?_
 refine aI [1] (by decide) ?_
 exact Tm (()) (ij H)
 revert H; refine I5 (fun c5 H => ?_) fun c5 H => ?_
 refine Z1 ?_
 refine aH ?_
 revert H; refine bs fun y4 h4 H => ?_
 revert H; refine bs fun y5 h5 H => ?_
 revert H; refine bs fun y6 h6 H => ?_
 revert H; refine bs fun y7 h7 H => ?_
 revert H; refine bs fun z1 h8 H => ?_
 apply bI (ods := [_, _, _, _, _, _, _, _, _, _, _, _, _, _, _, _]) 16 0 1 bH rfl rfl rfl
 refine ND ?_
 refine M6 ?_
 intros
 refine Nc (ih_usage_text_sure _ _ _ _ h5) fun _ => ?_
 refine M6 ?_
 intros
 refine Nc (ih_usage_text_sure _ _ _ _ h7) fun _ => ?_
 refine M2 ?_
 intros
 revert H; refine B5 fun r2 H e2 => ?_
 cases e2; cases Hr1
 cases H
 refine aI [] (by decide) ?_
 exact To
 exact fk
 kernel_rfl
 revert H; refine I5 (fun c6 H => ?_) fun c6 H => ?_
 refine Z1 ?_
 refine aH ?_
 revert H; refine bs fun y8 h9 H => ?_
 revert H; refine bs fun y9 h10 H => ?_
 revert H; refine bs fun y10 h11 H => ?_
 revert H; refine bs fun y11 h12 H => ?_
 apply bI (ods := [_, _, _, _, _, _, _, _, _, _, _, _, _, _, _, _]) 16 0 1 bH rfl rfl rfl
 refine ND ?_
 refine M6 ?_
 intros
 refine Nc (ih_usage_text_sure _ _ _ _ h10) fun _ => ?_
 refine M6 ?_
 intros
 refine Nc (ih_usage_text_sure _ _ _ _ h12) fun _ => ?_
 refine M2 ?_
 intros
 revert H; refine B5 fun r3 H e3 => ?_
 cases e3; cases Hr1
 cases H
 refine aI [] (by decide) ?_
 exact To
 exact fk
 kernel_rfl
 revert H; refine I5 (fun c7 H => ?_) fun c7 H => ?_
 revert H; refine B5 fun y12 h13 H => ?_
 refine Tc (ih_usage_text_begun _ _ _ _ h13) ?_
 revert H; refine B5 fun r4 H e4 => ?_
 cases e4; cases Hr1
 cases H
 refine aI [] (by decide) ?_
 exact To
 refine Z4 ?_
 exact Tm (()) (ij H)
 clear H; intro i hi; subst o1; have H := Hr1; clear Hr1; try dsimp only at H
 try dsimp only
 refine Z4 ?_
 cases H
 refine aI [] (by decide) ?_
 exact To
theorem aDD (fuel : Nat)  (a0 : Usage_text) (a1 : Int) (a2 : Int) (r : Int) (H : lG fuel a0 a1 a2 = some r) : FnS Try.prog 27 [aF bG a0, aA .i64 a1, aA .i64 a2] [] (aA .i64 r) (fun _ => []) := (aE0 fuel).1 a0 a1 a2 r H
theorem aIN (fuel : Nat)  (a0 : Usage_text) (a1 : Int) (a2 : Int) (r : Int) (H : gV fuel a0 a1 a2 = some r) : FnS Try.prog 47 [aF bG a0, aA .i64 a1, aA .i64 a2] [] (aA .i64 r) (fun _ => []) := (aE0 fuel).2 a0 a1 a2 r H
def nG (fuel : Nat) (y2 : Usage_text) : Nat → (List UsageDef) → Option (List UsageDef)
| 0, _ => none
| k + 1, x3 =>
 (rD fuel y2 x3).bind fun y4 =>
 (oK fuel x3 y4 (fun x => wP x.1 x.2.1 x.2.2)).bind fun y5 =>
 bif y5 then
  some x3
 else
  nG fuel y2 k y4
def nC (fuel : Nat) (y2 : Usage_text) (x7 : List UsageDef) (x8 : Int) (y6 : UsageDef) : Nat → (List Int) → Int → Option (List UsageDef)
| 0, _, _ => none
| k + 1, x12, x13 =>
 if x13 < (y6.Chans.length : Int) then
  ((idx x12 x13).bind fun y7 =>
  if y7 = 3 then
   (idx y2.heads x8).bind fun y8 =>
   (qK y2 x8 x13).bind fun y9 =>
   (lG fuel y2 y8 y9).bind fun y10 =>
   if y10 = 1 then
    (idx x7 x8).bind fun y11 =>
    (idx x12 x13).bind fun y12 =>
    some (x12.set x13.toNat 2)
   else
    some x12
  else
   some x12).bind fun x14 =>
  (chk (x13 + 1)).bind fun z1 =>
  nC fuel y2 x7 x8 y6 k x14 z1
 else
  some (x7.set x8.toNat ({ y6 with Chans := x12 }))
def kJ (fuel : Nat) (y2 : Usage_text) (x1 : List UsageDef) : Nat → (List UsageDef) → Int → Option (List UsageDef)
| 0, _, _ => none
| k + 1, x7, x8 =>
 if x8 < (x1.length : Int) then
  ((idx x7 x8).bind fun y6 =>
  nC fuel y2 x7 x8 y6 fuel y6.Chans 0).bind fun x9 =>
  (chk (x8 + 1)).bind fun z2 =>
  kJ fuel y2 x1 k x9 z2
 else
  some x7
def qX (fuel : Nat) (a0 : ScopeProg) : Option ((List UsageDef) × Int) :=
 (rE fuel (⟨a0.Free, a0.Nodes, a0.Defs, a0.Main⟩ : ScopeProg)).bind fun y1 =>
 if y1 ≠ 0 then
  some (([] : List UsageDef), 2)
 else
  (nX fuel (⟨a0.Free, a0.Nodes, a0.Defs, a0.Main⟩ : ScopeProg)).bind fun y2 =>
  (uP fuel y2).bind fun y3 =>
  (nG fuel y2 fuel y3).bind fun x1 =>
  (kJ fuel y2 x1 fuel x1 0).bind fun x4 =>
  some (x4, 0)
theorem aHk (fuel : Nat)  (a0 : ScopeProg) (r : (List UsageDef) × Int) (H : qX fuel a0 = some r) : FnS Try.prog 8 [fSt dM a0] [] fAny (fun v => [vP .tuple [.own (fun v => bU v 40 dJ r.1) (fun _ => lQ), .pure (aA .i64 r.2)] v]) := by
 unfold qX at H
 refine bF Try.func8 rfl Try.ntmps8 rfl (fun β => ?_)
 refine Z1 ?_
 refine aT trivial rfl rfl (cG rfl (has rfl) bO) (fun b1 => ?_)
 refine Z3 ?_
 refine T_scope ?_
 refine aH ?_
 revert H; refine B2 fun y1 h1 H => ?_
 refine Tc (aBA _ _ _ h1) ?_
 revert H; refine I2 (fun c1 H => ?_) fun c1 H => ?_
 refine Z6 ?_
 refine aEv ?_
 refine yA dJ 40 ?_
 cases H
 refine aI [0] (by decide) ?_
 exact aDy rfl (bQ rfl) (bQ rfl) (fB.own (fB.pure Ent.rfl (aD trivial) fB.nil))
 revert H; refine B5 fun y2 h2 H => ?_
 refine Tc (aCa _ _ _ h2) ?_
 revert H; refine B4 fun y3 h3 H => ?_
 refine yX trivial rfl rfl rfl (has rfl) (aJ.cons (has rfl) aJ.nil) rfl (cb rfl) (aF8 fuel y2 y3 h3) (Δi := []) rfl (fun v1 => ?_)
 dsimp only [List.append, List.cons_append, List.nil_append]
 refine eA 0 rfl (fun hc_v1 => ?_)
 refine Z2 ?_
 refine aH ?_
 refine T_label ?_
 revert H; refine B1 fun o1 H Hr1 => ?_
 refine aX (ι := List UsageDef × Value) (fun i => o1 = i.1) (fun i => [(4, aF bG y2), (5, fEq i.2)]) (fun i => [aC b1 26 [fSl aN a0.Free, fSl aM a0.Nodes, fSl aK a0.Defs, aA .i64 a0.Main], bU i.2 40 dJ i.1]) ?_ ?_
 refine Z1 ?_
 refine aI [1, 0] (by decide) ?_
 refine Tl (ι := Nat × List UsageDef × Value) (fun i => nG fuel y2 i.1 i.2.1 = _) (fun i => i.1) (fun i => [(4, aF bG y2), (5, fEq i.2.2)]) (fun i => [aC b1 26 [fSl aN a0.Free, fSl aM a0.Nodes, fSl aK a0.Defs, aA .i64 a0.Main], bU i.2.2 40 dJ i.2.1]) (fuel, y3, v1) H ?_
 clear H; rintro ⟨k1, x3, v4⟩ H
 replace H : nG fuel y2 k1 x3 = _ := H
 try dsimp only
 obtain _ | k1 := k1
 rw [nG] at H; cases H
 rw [nG] at H
 refine eA 1 rfl (fun hc_v4 => ?_)
 refine Z4 ?_
 refine dN ?_
 revert H; refine bs fun y4 h4 H => ?_
 refine aGg (Δl := [bU v4 40 dJ x3]) (Δi := []) [(v4, fSl aZ x3)] trivial rfl rfl rfl (has rfl) (eH.cons rfl (wA Ent.rfl) (eH.cons rfl (uA 0 rfl) eH.nil)) (cb rfl) (aDW fuel y2 x3 y4 h4) indF_any (fun v τ h => by have : τ = _ := List.mem_singleton.1 h; subst this; exact (aDC aHU)) (gE.cons (nR rfl pE) gE.nil) rfl (fun v5 => ?_)
 dsimp only [List.append, List.cons_append, List.nil_append]
 refine eA 1 rfl (fun hc_v5 => ?_)
 refine Z2 ?_
 refine aH ?_
 revert H; refine B3 fun y5 h5 H => ?_
 refine aAi (Δl := [bU v4 40 dJ x3, bU v5 40 dJ y4]) (Δi := []) (Δo := []) [(v4, fSl aZ x3), (v5, fSl aZ y4)] trivial rfl rfl rfl (has rfl) (eH.cons rfl (uA 0 rfl) (eH.cons rfl (uA 1 rfl) (eH.cons rfl (wA (mT (cb rfl) (fun x r hx => aGJ x.1 x.2.1 x.2.2 r hx))) eH.nil))) (cb rfl) (aCF fuel x3 y4 (fun x => wP x.1 x.2.1 x.2.2) y5 h5) wR (fun _ h => nomatch h) (gE.cons (nR rfl pE) (gE.cons (nR rfl pE) gE.nil)) rfl ?_
 dsimp only [List.append, List.cons_append, List.nil_append]
 refine Z1 ?_
 revert H; refine cs (fun c2 H => ?_) fun c2 H => ?_
 refine Z7 ?_
 refine aI [2, 0] (by decide) ?_
 exact Tm ((x3, v4)) (ij H)
 refine Z9 ?_
 refine aI [2, 1] (by decide) ?_
 exact Tm ((k1, y4, v5)) ⟨H, ls⟩
 clear H; intro i hi; obtain ⟨x1, v2⟩ := i; subst o1; have H := Hr1; clear Hr1; try dsimp only at H
 try dsimp only
 refine eA 1 rfl (fun hc_v2 => ?_)
 revert H; refine bs fun o2 H Hr2 => ?_
 refine aX (ι := List UsageDef) (fun i => o2 = i) (fun i => [(5, fEq v2)]) (fun i => [aC b1 26 [fSl aN a0.Free, fSl aM a0.Nodes, fSl aK a0.Defs, aA .i64 a0.Main], bU v2 40 dJ i]) ?_ ?_
 refine Z2 ?_
 refine Yo 1 rfl (o_lenG rfl hh (us rfl)) ?_
 refine Z3 ?_
 refine Tl (ι := Nat × List UsageDef × Int) (fun i => kJ fuel y2 x1 i.1 i.2.1 i.2.2 = _) (fun i => i.1) (fun i => [(4, aF bG y2), (5, fEq v2), (25, aA .i64 (x1.length : Int)), (26, aA .i64 i.2.2)]) (fun i => [aC b1 26 [fSl aN a0.Free, fSl aM a0.Nodes, fSl aK a0.Defs, aA .i64 a0.Main], bU v2 40 dJ i.2.1]) (fuel, x1, 0) H ?_
 clear H; rintro ⟨k2, x7, x8⟩ H
 replace H : kJ fuel y2 x1 k2 x7 x8 = _ := H
 try dsimp only
 obtain _ | k2 := k2
 rw [kJ] at H; cases H
 rw [kJ] at H
 refine Z3 ?_
 refine aH ?_
 revert H; refine is (fun c3 H => ?_) fun c3 H => ?_
 revert H; refine B3 fun o3 H Hr3 => ?_
 refine aX (ι := List UsageDef) (fun i => o3 = i) (fun i => [(4, aF bG y2), (5, fEq v2), (25, aA .i64 (x1.length : Int)), (26, aA .i64 x8)]) (fun i => [aC b1 26 [fSl aN a0.Free, fSl aM a0.Nodes, fSl aK a0.Defs, aA .i64 a0.Main], bU v2 40 dJ i]) ?_ ?_
 revert H; refine B8 fun y6 h6 H => ?_
 refine Yo 1 rfl (lV rfl hh hh (el rfl) h6) ?_
 refine Yy (zX 0 rfl hh (fa rfl) rfl) ?_
 refine dN ?_
 refine rK (i := x8.toNat) (k := 0) (y := y6) (f := (fun v => aE v 41 (aB .i64) y6.Chans)) (bN h6) rfl (fun v6 => ?_)
 refine aW 0 rfl (fun hc_v6 => ?_)
 refine Yo 1 rfl (lY rfl rfl hh (sc rfl) (bN h6) rfl) ?_
 refine Z4 ?_
 refine aI [2, 1, 0] (by decide) ?_
 refine Tl (ι := Nat × List Int × Int) (fun i => nC fuel y2 x7 x8 y6 i.1 i.2.1 i.2.2 = _) (fun i => i.1) (fun i => [(4, aF bG y2), (5, fEq v2), (25, aA .i64 (x1.length : Int)), (26, aA .i64 x8), (7, aA .i64 x8), (33, fEq v6), (34, aA .i64 (y6.Chans.length : Int)), (35, aA .i64 i.2.2)]) (fun i => [aC b1 26 [fSl aN a0.Free, fSl aM a0.Nodes, fSl aK a0.Defs, aA .i64 a0.Main], pS v2 40 dJ x7 (x8.toNat * OTy.sz dJ + 0) v6, aE v6 41 (aB .i64) i.2.1]) (fuel, y6.Chans, 0) H ?_
 clear H; rintro ⟨k3, x12, x13⟩ H
 replace H : nC fuel y2 x7 x8 y6 k3 x12 x13 = _ := H
 try dsimp only
 obtain _ | k3 := k3
 rw [nC] at H; cases H
 rw [nC] at H
 refine Z3 ?_
 refine aH ?_
 revert H; refine is (fun c4 H => ?_) fun c4 H => ?_
 revert H; refine B3 fun o4 H Hr4 => ?_
 refine aX (ι := List Int) (fun i => o4 = i) (fun i => [(4, aF bG y2), (5, fEq v2), (25, aA .i64 (x1.length : Int)), (26, aA .i64 x8), (7, aA .i64 x8), (33, fEq v6), (34, aA .i64 (y6.Chans.length : Int)), (35, aA .i64 x13)]) (fun i => [aC b1 26 [fSl aN a0.Free, fSl aM a0.Nodes, fSl aK a0.Defs, aA .i64 a0.Main], pS v2 40 dJ x7 (x8.toNat * OTy.sz dJ + 0) v6, aE v6 41 (aB .i64) i]) ?_ ?_
 revert H; refine B3 fun y7 h7 H => ?_
 refine Z1 ?_
 refine Yo 2 rfl (jV rfl rfl hh (sc rfl) (bN h7) rfl) ?_
 refine Z3 ?_
 refine aH ?_
 revert H; refine is (fun c5 H => ?_) fun c5 H => ?_
 revert H; refine bs fun y8 h8 H => ?_
 revert H; refine bs fun y9 h9 H => ?_
 revert H; refine bs fun y10 h10 H => ?_
 apply bI (ods := [_, _, _, _, _, _, _, _, _, _, _, _, _, _, _, _, _, _]) 18 0 3 bH rfl rfl rfl
 refine ND ?_
 refine M8 ?_
 intros
 refine M6 ?_
 intros
 refine Nc (aAn _ _ _ _ h9) fun _ => ?_
 refine Nc (aDD _ _ _ _ _ h10) fun _ => ?_
 refine M2 ?_
 intros
 revert H; refine I2 (fun c6 H => ?_) fun c6 H => ?_
 revert H; refine B4 fun y11 h11 H => ?_
 refine Yo 1 rfl (lV rfl hh hh (el rfl) h11) ?_
 refine Yy (zX 0 rfl hh (fa rfl) rfl) ?_
 refine Yo 1 rfl (lY rfl rfl hh (sc rfl) (bN h11) rfl) ?_
 revert H; refine B1 fun y12 h12 H => ?_
 refine Z1 ?_
 refine eI ?_
 refine uB (z' := 2) trivial rfl rfl rfl (has rfl) (has rfl) (aD trivial) (sz rfl) (bN h12) rfl rfl ?_
 refine Z3 ?_
 refine aI [1, 2, 0] (by decide) ?_
 exact Tm (x12.set x13.toNat 2) (ij H)
 refine Z4 ?_
 exact Tm (x12) (ij H)
 exact fk
 kernel_rfl
 apply bI (ods := [_, _, _, _, _, _, _, _, _, _, _, _, _, _, _, _, _, _]) 18 0 3 bH rfl rfl rfl
 refine ND ?_
 refine M8 ?_
 intros
 refine M8 ?_
 intros
 refine M2 ?_
 intros
 refine Z6 ?_
 exact Tm (x12) (ij H)
 exact fk
 kernel_rfl
 clear H; intro x14 hi; subst o4; have H := Hr4; clear Hr4; try dsimp only at H
 try dsimp only
 revert H; refine B1 fun z1 h13 H => ?_
 refine Z3 ?_
 exact Tm ((k3, x14, z1)) ⟨H, ls⟩
 refine Z7 ?_
 refine dN ?_
 refine eI ?_
 refine qG (o := dJ) (i := x8.toNat) (k := 0) (y := y6) (y' := { y6 with Chans := x12 }) (f := (fun v => aE v 41 (aB .i64) x12)) (hf := (fun _ => eB)) (bN h6) rfl rfl ?_
 refine aI [1, 0] (by decide) ?_
 exact Tm (x7.set x8.toNat ({ y6 with Chans := x12 })) (ij H)
 clear H; intro x9 hi; subst o3; have H := Hr3; clear Hr3; try dsimp only at H
 try dsimp only
 revert H; refine B1 fun z2 h14 H => ?_
 refine Z3 ?_
 exact Tm ((k2, x9, z2)) ⟨H, ls⟩
 refine Z6 ?_
 exact Tm (x7) (ij H)
 clear H; intro x4 hi; subst o2; have H := Hr2; clear Hr2; try dsimp only at H
 try dsimp only
 refine Z6 ?_
 refine aEv ?_
 cases H
 refine aI [1] (by decide) ?_
 exact aDy rfl (bQ rfl) (bQ rfl) (fB.own (fB.pure Ent.rfl (aD trivial) fB.nil))
theorem aFX (fuel : Nat)  (a0 : ScopeProg) (r : (List UsageDef) × Int) (H : qX fuel a0 = some r) : FnS Try.prog 8 [fSt dM a0] [] (dH [fSl aZ r.1, aA .i64 r.2]) (fun _ => []) := (aHk fuel a0 r H).frz (fun v => frz_wrap (dZ.cons (fun v => (nR rfl pE)) (dZ.cons (fun v => frz_pure v) dZ.nil)))
def tU (a0 : Int) (a1 : Int) (a2 : Bool) : Option (Bool) :=
 (if 1 ≤ a0 then
  if a0 ≤ 4 then
   bif a2 then
    some true
   else
    some (decide (a0 ≠ 2))
  else
   some false
 else
  some false).bind fun x1 =>
 some x1
theorem aHB  (a0 : Int) (a1 : Int) (a2 : Bool) (r : Bool) (H : tU a0 a1 a2 = some r) : FnS Try.prog 57 [aA .i64 a0, aA .i64 a1, aG a2] [] (aG r) (fun _ => []) := by
 unfold tU at H
 refine bF Try.func57 rfl Try.ntmps57 rfl (fun β => ?_)
 revert H; refine B3 fun o1 H Hr1 => ?_
 refine aX (ι := Bool) (fun i => o1 = i) (fun i => [(6, aG i)]) (fun i => []) ?_ ?_
 revert H; refine I4 (fun c1 H => ?_) fun c1 H => ?_
 revert H; refine I4 (fun c2 H => ?_) fun c2 H => ?_
 refine Z2 ?_
 revert H; refine cs (fun c3 H => ?_) fun c3 H => ?_
 refine Z6 ?_
 exact Tm (true) (ij H)
 refine Z6 ?_
 exact Tm (decide (a0 ≠ 2)) (ij H)
 refine Z2 ?_
 refine dO (⟨_, _, _, _, rfl, rfl, rfl, nu⟩) rfl rfl ?_
 refine dO (⟨_, _, _, _, rfl, rfl, rfl, nu⟩) rfl rfl ?_
 refine Z4 ?_
 exact Tm (false) (ij H)
 refine Z6 ?_
 refine dO (⟨_, _, _, _, rfl, rfl, rfl, nu⟩) rfl rfl ?_
 refine dO (⟨_, _, _, _, rfl, rfl, rfl, nu⟩) rfl rfl ?_
 refine Z4 ?_
 exact Tm (false) (ij H)
 clear H; intro x1 hi; subst o1; have H := Hr1; clear Hr1; try dsimp only at H
 try dsimp only
 refine Z1 ?_
 cases H
 exact To
end Go.Proofs.Ytmnbfgeljmhekaa
set_option maxRecDepth 100000
set_option maxHeartbeats 2000000
namespace Go.Proofs.Ytmnbfgeljmhekaa
open Go.SX Go.SW Go.Dt
attribute [local irreducible] Code.wpIn wpListIn Exit.then Exit.inBlock
def mZ (y1 : ScopeDef) (y2 : UsageDef) : Nat → Int → Option ((Unit) ⊕ ((Unit) ⊕ (Bool)))
| 0, _ => none
| k + 1, x4 =>
 if x4 < (y2.Args.length : Int) then
  (idx y2.Args x4).bind fun y3 =>
  (idx y1.Chans x4).bind fun y4 =>
  if (y3.length : Int) ≠ y4.Many then
   ((some false).bind fun r => some (Sum.inr r)).bind fun r => some (Sum.inr r)
  else
   (chk (x4 + 1)).bind fun z1 =>
   mZ y1 y2 k z1
 else
  some (Sum.inl ())
def mA (fuel : Nat) (a0 : Usage_text) (a1 : List UsageDef) : Nat → Int → Option ((Unit) ⊕ (Bool))
| 0, _ => none
| k + 1, x2 =>
 if x2 < (a0.ScopeProg.Defs.length : Int) then
  ((idx a0.ScopeProg.Defs x2).bind fun y1 =>
  (idx a1 x2).bind fun y2 =>
  if (y2.Chans.length : Int) ≠ (y1.Chans.length : Int) then
   ((some false).bind fun r => some (Sum.inr r)).bind fun r => some (Sum.inr r)
  else
   if (y2.Rules.length : Int) ≠ (y1.Rules.length : Int) then
    ((some false).bind fun r => some (Sum.inr r)).bind fun r => some (Sum.inr r)
   else
    if (y2.Args.length : Int) ≠ (y1.Chans.length : Int) then
     ((some false).bind fun r => some (Sum.inr r)).bind fun r => some (Sum.inr r)
    else
     mZ y1 y2 fuel 0).bind fun o => match o with
  | Sum.inr r => some r
  | Sum.inl _ =>
  (chk (x2 + 1)).bind fun z2 =>
  mA fuel a0 a1 k z2
 else
  some (Sum.inl ())
def vN (fuel : Nat) (a0 : Usage_text) (a1 : List UsageDef) : Option (Bool) :=
 if (a1.length : Int) ≠ (a0.ScopeProg.Defs.length : Int) then
  some false
 else
  (mA fuel a0 a1 fuel 0).bind fun o => match o with
  | Sum.inr r => some r
  | Sum.inl _ =>
  (oK fuel a1 a1 (fun x => tU x.1 x.2.1 x.2.2)).bind fun y5 =>
  some y5
theorem aDh (fuel : Nat)  (a0 : Usage_text) (a1 : List UsageDef) (r : Bool) (H : vN fuel a0 a1 = some r) : FnS Try.prog 29 [aF bG a0, fSl aZ a1] [] (aG r) (fun _ => []) := by
 unfold vN at H
 refine bF Try.func29 rfl Try.ntmps29 rfl (fun β => ?_)
 refine Z3 ?_
 refine aH ?_
 revert H; refine I11 (fun c1 H => ?_) fun c1 H => ?_
 refine Z5 ?_
 cases H
 exact To
 revert H; refine B3 fun o1 H Hr1 => ?_
 refine aX (ι := Unit) (fun i => o1 = Sum.inl ()) (fun i => [(1, fSl aZ a1)]) (fun i => []) ?_ ?_
 refine Z10 ?_
 refine Tl (ι := Nat × Int) (fun i => mA fuel a0 a1 i.1 i.2 = _) (fun i => i.1) (fun i => [(1, fSl aZ a1), (23, fSl aK a0.ScopeProg.Defs), (24, aA .i64 (a0.ScopeProg.Defs.length : Int)), (25, aA .i64 i.2)]) (fun i => []) (fuel, 0) H ?_
 clear H; rintro ⟨k1, x2⟩ H
 replace H : mA fuel a0 a1 k1 x2 = _ := H
 try dsimp only
 obtain _ | k1 := k1
 rw [mA] at H; cases H
 rw [mA] at H
 refine Z3 ?_
 refine aH ?_
 revert H; refine is (fun c2 H => ?_) fun c2 H => ?_
 revert H; refine B3 fun o2 H Hr2 => ?_
 refine aX (ι := Unit) (fun i => o2 = Sum.inl ()) (fun i => [(1, fSl aZ a1), (23, fSl aK a0.ScopeProg.Defs), (24, aA .i64 (a0.ScopeProg.Defs.length : Int)), (25, aA .i64 x2)]) (fun i => []) ?_ ?_
 revert H; refine B3 fun y1 h1 H => ?_
 refine Z2 ?_
 refine aT trivial rfl rfl (cN rfl tJ rfl) (fun b1 => ?_)
 refine Z1 ?_
 refine dP (φs' := [fSl bE y1.Chans, fSl cB y1.Spots, fSl bK y1.Rules]) trivial rfl rfl (has rfl) (has rfl) (aO (bC) (aO (bC) (aO (bC) bY))) (sz rfl) rfl rfl rfl ?_
 revert H; refine B4 fun y2 h2 H => ?_
 refine Z2 ?_
 refine aT trivial rfl rfl (cN rfl tR rfl) (fun b2 => ?_)
 refine dP (φs' := [fSl (aB .i64) y2.Chans, fSl (aB .i64) y2.Rules, fSl (tSl (aB .i64)) y2.Args]) trivial rfl rfl (has rfl) (has rfl) (aO (bC) (aO (bC) (aO (bC) bY))) (sz rfl) rfl rfl rfl ?_
 refine Z1 ?_
 refine aH ?_
 revert H; refine I9 (fun c3 H => ?_) fun c3 H => ?_
 refine Z12 ?_
 refine Z12 ?_
 revert H; refine B1 fun r1 H e1 => ?_
 cases e1; cases Hr2
 revert H; refine B3 fun r2 H e2 => ?_
 cases e2; cases Hr1
 cases H
 refine aI [] (by decide) ?_
 exact To
 revert H; refine I9 (fun c4 H => ?_) fun c4 H => ?_
 refine Z12 ?_
 revert H; refine B4 fun r3 H e3 => ?_
 cases e3; cases Hr2
 revert H; refine B3 fun r4 H e4 => ?_
 cases e4; cases Hr1
 cases H
 refine aI [] (by decide) ?_
 exact To
 revert H; refine I9 (fun c5 H => ?_) fun c5 H => ?_
 revert H; refine B7 fun r5 H e5 => ?_
 cases e5; cases Hr2
 revert H; refine B3 fun r6 H e6 => ?_
 cases e6; cases Hr1
 cases H
 refine aI [] (by decide) ?_
 exact To
 refine Z10 ?_
 refine Tl (ι := Nat × Int) (fun i => mZ y1 y2 i.1 i.2 = _) (fun i => i.1) (fun i => [(1, fSl aZ a1), (23, fSl aK a0.ScopeProg.Defs), (24, aA .i64 (a0.ScopeProg.Defs.length : Int)), (25, aA .i64 x2), (6, fEq (ptr b1)), (60, fSl (tSl (aB .i64)) y2.Args), (61, aA .i64 (y2.Args.length : Int)), (62, aA .i64 i.2)]) (fun i => [aC b2 40 [fSl (aB .i64) y2.Chans, fSl (aB .i64) y2.Rules, fSl (tSl (aB .i64)) y2.Args], aC b1 52 [fSl bE y1.Chans, fSl cB y1.Spots, fSl bK y1.Rules]]) (fuel, 0) H ?_
 clear H; rintro ⟨k2, x4⟩ H
 replace H : mZ y1 y2 k2 x4 = _ := H
 try dsimp only
 obtain _ | k2 := k2
 rw [mZ] at H; cases H
 rw [mZ] at H
 refine Z3 ?_
 refine aH ?_
 revert H; refine is (fun c6 H => ?_) fun c6 H => ?_
 refine Z3 ?_
 refine aH ?_
 revert H; refine B3 fun y3 h3 H => ?_
 revert H; refine B11 fun y4 h4 H => ?_
 revert H; refine I5 (fun c7 H => ?_) fun c7 H => ?_
 revert H; refine B11 fun r7 H e7 => ?_
 cases e7; cases Hr2
 revert H; refine B3 fun r8 H e8 => ?_
 cases e8; cases Hr1
 cases H
 refine aI [] (by decide) ?_
 exact To
 revert H; refine B5 fun z1 h5 H => ?_
 refine Z3 ?_
 exact Tm ((k2, z1)) ⟨H, ls⟩
 refine Z7 ?_
 refine aI [] (by decide) ?_
 exact Tm (()) (ij H)
 clear H; intro i hi; subst o2; have H := Hr2; clear Hr2; try dsimp only at H
 try dsimp only
 revert H; refine B1 fun z2 h6 H => ?_
 refine Z3 ?_
 exact Tm ((k1, z2)) ⟨H, ls⟩
 refine Z6 ?_
 exact Tm (()) (ij H)
 clear H; intro i hi; subst o1; have H := Hr1; clear Hr1; try dsimp only at H
 try dsimp only
 revert H; refine B3 fun y5 h7 H => ?_
 refine gU trivial rfl rfl rfl (has rfl) (aJ.cons (has rfl) (aJ.cons (has rfl) (aJ.cons (dA rfl (mT (cb rfl) (fun x r hx => aHB x.1 x.2.1 x.2.2 r hx))) aJ.nil))) rfl (cb rfl) (aCF fuel a1 a1 (fun x => tU x.1 x.2.1 x.2.2) y5 h7) rfl ?_
 refine Z3 ?_
 cases H
 exact To
def sF (a0 : Int) (a1 : Int) (a2 : Bool) : Option (Bool) :=
 (mM a0).bind fun y1 =>
 (mM a1).bind fun y2 =>
 some (decide (y2 ≤ y1))
theorem aHb  (a0 : Int) (a1 : Int) (a2 : Bool) (r : Bool) (H : sF a0 a1 a2 = some r) : FnS Try.prog 30 [aA .i64 a0, aA .i64 a1, aG a2] [] (aG r) (fun _ => []) := by
 unfold sF at H
 refine bF Try.func30 rfl Try.ntmps30 rfl (fun β => ?_)
 revert H; refine B5 fun y1 h1 H => ?_
 refine Tc (uZ _ _ h1) ?_
 revert H; refine B1 fun y2 h2 H => ?_
 refine Tc (uZ _ _ h2) ?_
 refine Z4 ?_
 cases H
 exact To
def lE (fuel : Nat) (y2 : Usage_text) (x2 : Int) (y6 : UsageDef) : Nat → Int → Option ((Unit) ⊕ ((Unit) ⊕ (Bool × Int)))
| 0, _ => none
| k + 1, x4 =>
 if x4 < (y6.Chans.length : Int) then
  ((idx y6.Chans x4).bind fun y7 =>
  if y7 = 2 then
   (idx y2.heads x2).bind fun y8 =>
   (qK y2 x2 x4).bind fun y9 =>
   (lG fuel y2 y8 y9).bind fun y10 =>
   if y10 ≠ 1 then
    (((some (false, 0)).bind fun r => some (Sum.inr r)).bind fun r => some (Sum.inr r)).bind fun r => some (Sum.inr r)
   else
    some (Sum.inl ())
  else
   some (Sum.inl ())).bind fun o => match o with
  | Sum.inr r => some r
  | Sum.inl _ =>
  (chk (x4 + 1)).bind fun z1 =>
  lE fuel y2 x2 y6 k z1
 else
  some (Sum.inl ())
def jY (fuel : Nat) (a1 : List UsageDef) (y2 : Usage_text) : Nat → Int → Option ((Unit) ⊕ (Bool × Int))
| 0, _ => none
| k + 1, x2 =>
 if x2 < (a1.length : Int) then
  ((idx a1 x2).bind fun y6 =>
  lE fuel y2 x2 y6 fuel 0).bind fun o => match o with
  | Sum.inr r => some r
  | Sum.inl _ =>
  (chk (x2 + 1)).bind fun z2 =>
  jY fuel a1 y2 k z2
 else
  some (Sum.inl ())
def pK (fuel : Nat) (a0 : ScopeProg) (a1 : List UsageDef) : Option (Bool × Int) :=
 (rE fuel (⟨a0.Free, a0.Nodes, a0.Defs, a0.Main⟩ : ScopeProg)).bind fun y1 =>
 if y1 ≠ 0 then
  some (false, 2)
 else
  (nX fuel (⟨a0.Free, a0.Nodes, a0.Defs, a0.Main⟩ : ScopeProg)).bind fun y2 =>
  (vN fuel y2 a1).bind fun y3 =>
  bif y3 then
   (rD fuel y2 a1).bind fun y4 =>
   (oK fuel a1 y4 (fun x => sF x.1 x.2.1 x.2.2)).bind fun y5 =>
   bif y5 then
    (jY fuel a1 y2 fuel 0).bind fun o => match o with
    | Sum.inr r => some r
    | Sum.inl _ =>
    some (true, 0)
   else
    some (false, 0)
  else
   some (false, 2)
theorem wK (fuel : Nat)  (a0 : ScopeProg) (a1 : List UsageDef) (r : Bool × Int) (H : pK fuel a0 a1 = some r) : FnS Try.prog 9 [fSt dM a0, fSl aZ a1] [] (dH [aG r.1, aA .i64 r.2]) (fun _ => []) := by
 unfold pK at H
 refine bF Try.func9 rfl Try.ntmps9 rfl (fun β => ?_)
 refine Z1 ?_
 refine aT trivial rfl rfl (cG rfl (has rfl) bO) (fun b1 => ?_)
 refine Z3 ?_
 refine aH ?_
 revert H; refine B2 fun y1 h1 H => ?_
 refine Tc (aBA _ _ _ h1) ?_
 revert H; refine I2 (fun c1 H => ?_) fun c1 H => ?_
 refine Z6 ?_
 cases H
 refine aI [] (by decide) ?_
 exact gJ rfl (bQ rfl) (bQ rfl) rfl
 revert H; refine B5 fun y2 h2 H => ?_
 refine Tc (aCa _ _ _ h2) ?_
 refine Z2 ?_
 refine aH ?_
 revert H; refine B3 fun y3 h3 H => ?_
 refine Tc (aDh _ _ _ _ h3) ?_
 refine Z2 ?_
 revert H; refine cs (fun c2 H => ?_) fun c2 H => ?_
 refine Z3 ?_
 refine aH ?_
 revert H; refine B4 fun y4 h4 H => ?_
 refine gU trivial rfl rfl rfl (has rfl) (aJ.cons (has rfl) (aJ.cons (has rfl) aJ.nil)) rfl (cb rfl) (aGh fuel y2 a1 y4 h4) rfl ?_
 revert H; refine bs fun y5 h5 H => ?_
 refine gU trivial rfl rfl rfl (has rfl) (aJ.cons (has rfl) (aJ.cons (has rfl) (aJ.cons (dA rfl (mT (cb rfl) (fun x r hx => aHb x.1 x.2.1 x.2.2 r hx))) aJ.nil))) rfl (cb rfl) (aCF fuel a1 y4 (fun x => sF x.1 x.2.1 x.2.2) y5 h5) rfl ?_
 refine Z2 ?_
 revert H; refine cs (fun c3 H => ?_) fun c3 H => ?_
 revert H; refine B3 fun o1 H Hr1 => ?_
 refine aX (ι := Unit) (fun i => o1 = Sum.inl ()) (fun i => []) (fun i => [aC b1 26 [fSl aN a0.Free, fSl aM a0.Nodes, fSl aK a0.Defs, aA .i64 a0.Main]]) ?_ ?_
 refine Z6 ?_
 refine Tl (ι := Nat × Int) (fun i => jY fuel a1 y2 i.1 i.2 = _) (fun i => i.1) (fun i => [(1, fSl aZ a1), (6, aF bG y2), (26, aA .i64 (a1.length : Int)), (27, aA .i64 i.2)]) (fun i => [aC b1 26 [fSl aN a0.Free, fSl aM a0.Nodes, fSl aK a0.Defs, aA .i64 a0.Main]]) (fuel, 0) H ?_
 clear H; rintro ⟨k1, x2⟩ H
 replace H : jY fuel a1 y2 k1 x2 = _ := H
 try dsimp only
 obtain _ | k1 := k1
 rw [jY] at H; cases H
 rw [jY] at H
 refine Z3 ?_
 refine aH ?_
 revert H; refine is (fun c4 H => ?_) fun c4 H => ?_
 revert H; refine B3 fun o2 H Hr2 => ?_
 refine aX (ι := Unit) (fun i => o2 = Sum.inl ()) (fun i => [(1, fSl aZ a1), (6, aF bG y2), (26, aA .i64 (a1.length : Int)), (27, aA .i64 x2)]) (fun i => [aC b1 26 [fSl aN a0.Free, fSl aM a0.Nodes, fSl aK a0.Defs, aA .i64 a0.Main]]) ?_ ?_
 revert H; refine B8 fun y6 h6 H => ?_
 refine Z7 ?_
 refine Tl (ι := Nat × Int) (fun i => lE fuel y2 x2 y6 i.1 i.2 = _) (fun i => i.1) (fun i => [(1, fSl aZ a1), (6, aF bG y2), (26, aA .i64 (a1.length : Int)), (27, aA .i64 x2), (7, aA .i64 x2), (34, fSl (aB .i64) y6.Chans), (35, aA .i64 (y6.Chans.length : Int)), (36, aA .i64 i.2)]) (fun i => [aC b1 26 [fSl aN a0.Free, fSl aM a0.Nodes, fSl aK a0.Defs, aA .i64 a0.Main]]) (fuel, 0) H ?_
 clear H; rintro ⟨k2, x4⟩ H
 replace H : lE fuel y2 x2 y6 k2 x4 = _ := H
 try dsimp only
 obtain _ | k2 := k2
 rw [lE] at H; cases H
 rw [lE] at H
 refine Z3 ?_
 refine aH ?_
 revert H; refine is (fun c5 H => ?_) fun c5 H => ?_
 revert H; refine B3 fun o3 H Hr3 => ?_
 refine aX (ι := Unit) (fun i => o3 = Sum.inl ()) (fun i => [(1, fSl aZ a1), (6, aF bG y2), (26, aA .i64 (a1.length : Int)), (27, aA .i64 x2), (7, aA .i64 x2), (34, fSl (aB .i64) y6.Chans), (35, aA .i64 (y6.Chans.length : Int)), (36, aA .i64 x4)]) (fun i => [aC b1 26 [fSl aN a0.Free, fSl aM a0.Nodes, fSl aK a0.Defs, aA .i64 a0.Main]]) ?_ ?_
 revert H; refine B3 fun y7 h7 H => ?_
 refine Z5 ?_
 refine aH ?_
 revert H; refine is (fun c6 H => ?_) fun c6 H => ?_
 revert H; refine bs fun y8 h8 H => ?_
 revert H; refine bs fun y9 h9 H => ?_
 revert H; refine bs fun y10 h10 H => ?_
 apply bI (ods := [_, _, _, _, _, _, _, _, _, _, _, _, _, _, _, _, _, _]) 18 0 1 bH rfl rfl rfl
 refine ND ?_
 refine M8 ?_
 intros
 refine M6 ?_
 intros
 refine Nc (aAn _ _ _ _ h9) fun _ => ?_
 refine Nc (aDD _ _ _ _ _ h10) fun _ => ?_
 refine M2 ?_
 intros
 revert H; refine I2 (fun c7 H => ?_) fun c7 H => ?_
 revert H; refine B8 fun r1 H e1 => ?_
 cases e1; cases Hr3
 revert H; refine B4 fun r2 H e2 => ?_
 cases e2; cases Hr2
 revert H; refine B3 fun r3 H e3 => ?_
 cases e3; cases Hr1
 cases H
 refine aI [] (by decide) ?_
 exact gJ rfl (bQ rfl) (bQ rfl) rfl
 refine Z4 ?_
 exact Tm (()) (ij H)
 exact fk
 kernel_rfl
 apply bI (ods := [_, _, _, _, _, _, _, _, _, _, _, _, _, _, _, _, _, _]) 18 0 1 bH rfl rfl rfl
 refine ND ?_
 refine M8 ?_
 intros
 refine M8 ?_
 intros
 refine M2 ?_
 intros
 refine Z6 ?_
 exact Tm (()) (ij H)
 exact fk
 kernel_rfl
 clear H; intro i hi; subst o3; have H := Hr3; clear Hr3; try dsimp only at H
 try dsimp only
 revert H; refine B1 fun z1 h11 H => ?_
 refine Z3 ?_
 exact Tm ((k2, z1)) ⟨H, ls⟩
 refine Z7 ?_
 exact Tm (()) (ij H)
 clear H; intro i hi; subst o2; have H := Hr2; clear Hr2; try dsimp only at H
 try dsimp only
 revert H; refine B1 fun z2 h12 H => ?_
 refine Z3 ?_
 exact Tm ((k1, z2)) ⟨H, ls⟩
 refine Z6 ?_
 exact Tm (()) (ij H)
 clear H; intro i hi; subst o1; have H := Hr1; clear Hr1; try dsimp only at H
 try dsimp only
 refine Z5 ?_
 cases H
 refine aI [] (by decide) ?_
 exact gJ rfl (bQ rfl) (bQ rfl) rfl
 refine Z6 ?_
 cases H
 refine aI [] (by decide) ?_
 exact gJ rfl (bQ rfl) (bQ rfl) rfl
 refine Z6 ?_
 cases H
 refine aI [] (by decide) ?_
 exact gJ rfl (bQ rfl) (bQ rfl) rfl
def vJ (a0 : List Int) : Nat → (List ScopeExp) → Int → Option (List ScopeExp)
| 0, _, _ => none
| k + 1, x4, x5 =>
 if x5 < (a0.length : Int) then
  (idx a0 x5).bind fun y1 =>
  (dU (x4 ++ [(⟨2, y1, []⟩ : ScopeExp)])).bind fun z1 =>
  (chk (x5 + 1)).bind fun z2 =>
  vJ a0 k z1 z2
 else
  some x4
def sP (fuel : Nat) (a0 : List Int) : Option (List ScopeExp) :=
 (vJ a0 fuel [] 0).bind fun x1 =>
 some x1
theorem aAc (fuel : Nat)  (a0 : List Int) (r : List ScopeExp) (H : sP fuel a0 = some r) : FnS Try.prog 13 [fSl (aB .i64) a0] [] (fSl bD r) (fun _ => []) := by
 unfold sP at H
 refine bF Try.func13 rfl Try.ntmps13 rfl (fun β => ?_)
 revert H; refine B6 fun o1 H Hr1 => ?_
 refine aX (ι := List ScopeExp × Value) (fun i => o1 = i.1) (fun i => [(3, fEq i.2)]) (fun i => [aE i.2 94 bD i.1]) ?_ ?_
 refine Z4 ?_
 refine xS bD 94 ?_
 refine Tl (ι := Nat × List ScopeExp × Int × Value) (fun i => vJ a0 i.1 i.2.1 i.2.2.1 = _) (fun i => i.1) (fun i => [(0, fSl (aB .i64) a0), (3, fEq i.2.2.2), (4, aA .i64 i.2.2.1)]) (fun i => [aE i.2.2.2 94 bD i.2.1]) (fuel, [], 0, (.slice none 0 0)) H ?_
 clear H; rintro ⟨k1, x4, x5, v3⟩ H
 replace H : vJ a0 k1 x4 x5 = _ := H
 try dsimp only
 obtain _ | k1 := k1
 rw [vJ] at H; cases H
 rw [vJ] at H
 refine aW 0 rfl (fun hc_v3 => ?_)
 refine aH ?_
 revert H; refine I6 (fun c1 H => ?_) fun c1 H => ?_
 refine Z3 ?_
 refine aH ?_
 revert H; refine B5 fun y1 h1 H => ?_
 refine Z2 ?_
 refine Yy (dR (ψs := [aA .i64 2, aA .i64 y1, fEq (.slice none 0 0)]) rfl aDo rfl (aU.cons (has rfl) (aS (aD trivial)) (aU.cons (has rfl) (aS (aD trivial)) aU.nil)) rfl) ?_
 refine aT trivial rfl rfl (cS (t := bD) (xs := [(⟨2, y1, []⟩ : ScopeExp)]) rfl (et rfl) (aR.cons rfl (dA rfl (gQ (aL.cons Ent.rfl (aL.cons Ent.rfl (aL.cons (aFT eJ) aL.nil))))) bO aR.nil) rfl rfl rfl) (fun b1 => ?_)
 generalize hv_v4 : (Value.slice (some ⟨b1, 0, none⟩) _ _) = v4; clear hv_v4
 refine aW 0 rfl (fun hc_v4 => ?_)
 revert H; refine bs fun z1 h2 H => ?_
 refine aCE trivial rfl rfl rfl (has rfl) (has rfl) (et rfl) rfl h2 (fun v5 => ?_)
 refine aW 0 rfl (fun hc_v5 => ?_)
 revert H; refine B6 fun z2 h3 H => ?_
 refine Z3 ?_
 exact Tm ((k1, z1, z2, v5)) ⟨H, ls⟩
 refine Z6 ?_
 exact Tm ((x4, v3)) (ij H)
 clear H; intro i hi; obtain ⟨x1, v1⟩ := i; subst o1; have H := Hr1; clear Hr1; try dsimp only at H
 try dsimp only
 refine aW 0 rfl (fun hc_v1 => ?_)
 refine Z5 ?_
 refine cW (φ := fSl bD x1) (v := v1) [3, 19, 2] cT (by intro s hs; simp only [List.mem_cons, List.not_mem_nil, or_false] at hs; rcases hs with rfl | rfl | rfl <;> rfl) ?_
 refine cY ?_
 cases H
 exact To
def yV (a0 : Int) : Option (List ScopeExp) :=
 some [(⟨1, a0, []⟩ : ScopeExp)]
theorem aDa  (a0 : Int) (r : List ScopeExp) (H : yV a0 = some r) : FnS Try.prog 14 [aA .i64 a0] [] (fSl bD r) (fun _ => []) := by
 unfold yV at H
 refine bF Try.func14 rfl Try.ntmps14 rfl (fun β => ?_)
 refine Z5 ?_
 refine Yy (dR (ψs := [aA .i64 1, aA .i64 a0, fEq (.slice none 0 0)]) rfl aDo rfl (aU.cons (has rfl) (aS (aD trivial)) (aU.cons (has rfl) (aS (aD trivial)) aU.nil)) rfl) ?_
 refine aT trivial rfl rfl (cS (t := bD) (xs := [(⟨1, a0, []⟩ : ScopeExp)]) rfl (et rfl) (aR.cons rfl (dA rfl (gQ (aL.cons Ent.rfl (aL.cons Ent.rfl (aL.cons (aFT eJ) aL.nil))))) bO aR.nil) rfl rfl rfl) (fun b1 => ?_)
 generalize hv_v1 : (Value.slice (some ⟨b1, 0, none⟩) _ _) = v1; clear hv_v1
 refine aW 0 rfl (fun hc_v1 => ?_)
 refine Z3 ?_
 refine cW (φ := fSl bD [(⟨1, a0, []⟩ : ScopeExp)]) (v := v1) [2, 5] cT (by intro s hs; simp only [List.mem_cons, List.not_mem_nil, or_false] at hs; rcases hs with rfl | rfl <;> rfl) ?_
 refine cY ?_
 cases H
 exact To
def aBX (fuel : Nat)  : Option (ScopeProg) :=
 (yV 1).bind fun y1 =>
 (yV 2).bind fun y2 =>
 (sP fuel [5]).bind fun y3 =>
 (sP fuel [0]).bind fun y4 =>
 (sP fuel [1]).bind fun y5 =>
 (sP fuel [0]).bind fun y6 =>
 some (⟨[{ data := #[111, 117, 116] }], [(⟨4, 0, [], [5]⟩ : ScopeNode), (⟨3, 0, [], [2, 3]⟩ : ScopeNode), (⟨2, 4, y1, []⟩ : ScopeNode), (⟨2, 4, y2, []⟩ : ScopeNode), (⟨2, 4, y3, []⟩ : ScopeNode), (⟨3, 0, [], [6, 7]⟩ : ScopeNode), (⟨2, 2, y4, []⟩ : ScopeNode), (⟨3, 0, [], [8, 9]⟩ : ScopeNode), (⟨2, 3, y5, []⟩ : ScopeNode), (⟨4, 1, [], [11]⟩ : ScopeNode), (⟨2, 1, y6, []⟩ : ScopeNode), (⟨2, 4, [], []⟩ : ScopeNode)], [(⟨[(⟨0, 1⟩ : ScopeChan), (⟨0, 1⟩ : ScopeChan), (⟨0, 1⟩ : ScopeChan)], [], [(⟨0, [0], 1⟩ : ScopeRule), (⟨0, [1, 2], 4⟩ : ScopeRule)]⟩ : ScopeDef), (⟨[(⟨0, 0⟩ : ScopeChan)], [], [(⟨0, [0], 10⟩ : ScopeRule)]⟩ : ScopeDef)], 0⟩ : ScopeProg)
theorem aG6 (fuel : Nat)   (r : ScopeProg) (H : aBX fuel = some r) : FnS Try.prog 16 [] [] (fSt dM r) (fun _ => []) := by
 unfold aBX at H
 refine bF Try.func16 rfl Try.ntmps16 rfl (fun β => ?_)
 refine Z1 ?_
 refine aT trivial rfl rfl (cN rfl aFp rfl) (fun b1 => ?_)
 refine Z2 ?_
 refine Yy (dR (ψs := [aA .i64 0, aA .i64 1]) rfl aAB rfl (aU.cons (has rfl) (aS (aD trivial)) aU.nil) rfl) ?_
 refine Yy (dR (ψs := [aA .i64 0, aA .i64 1]) rfl aAB rfl (aU.cons (has rfl) (aS (aD trivial)) aU.nil) rfl) ?_
 refine Yy (dR (ψs := [aA .i64 0, aA .i64 1]) rfl aAB rfl (aU.cons (has rfl) (aS (aD trivial)) aU.nil) rfl) ?_
 refine aT trivial rfl rfl (cS (t := bE) (xs := [(⟨0, 1⟩ : ScopeChan), (⟨0, 1⟩ : ScopeChan), (⟨0, 1⟩ : ScopeChan)]) rfl (et rfl) (aR.cons rfl (has rfl) bO (aR.cons rfl (has rfl) bO (aR.cons rfl (has rfl) bO aR.nil))) rfl rfl rfl) (fun b2 => ?_)
 generalize hv_v1 : (Value.slice (some ⟨b2, 0, none⟩) _ _) = v1; clear hv_v1
 refine aW 0 rfl (fun hc_v1 => ?_)
 refine aT trivial rfl rfl (cS (t := (aB .i64)) (xs := [0]) rfl (et rfl) (aR.cons rfl (has rfl) (aS (aD trivial)) aR.nil) rfl rfl rfl) (fun b3 => ?_)
 generalize hv_v2 : (Value.slice (some ⟨b3, 0, none⟩) _ _) = v2; clear hv_v2
 refine aW 0 rfl (fun hc_v2 => ?_)
 refine Yy (dR (ψs := [aA .i64 0, fEq v2, aA .i64 1]) rfl aBs rfl (aU.cons (has rfl) (aS (aD hc_v2)) (aU.cons (has rfl) (aS (aD trivial)) aU.nil)) rfl) ?_
 refine aT trivial rfl rfl (cS (t := (aB .i64)) (xs := [1, 2]) rfl (et rfl) (aR.cons rfl (has rfl) (aS (aD trivial)) (aR.cons rfl (has rfl) (aS (aD trivial)) aR.nil)) rfl rfl rfl) (fun b4 => ?_)
 generalize hv_v3 : (Value.slice (some ⟨b4, 0, none⟩) _ _) = v3; clear hv_v3
 refine aW 0 rfl (fun hc_v3 => ?_)
 refine Yy (dR (ψs := [aA .i64 0, fEq v3, aA .i64 4]) rfl aBs rfl (aU.cons (has rfl) (aS (aD hc_v3)) (aU.cons (has rfl) (aS (aD trivial)) aU.nil)) rfl) ?_
 refine dN ?_
 refine cW (φ := fSl (aB .i64) [0]) (v := v2) [7] cT (by intro s hs; simp only [List.mem_cons, List.not_mem_nil, or_false] at hs; rcases hs with rfl <;> rfl) ?_
 refine rU 8 (ψ := fD [aA .i64 0, fEq v2, aA .i64 1]) rfl (sB (i := 1) (φs := [aA .i64 0, fEq v2, aA .i64 1]) (φs' := [aA .i64 0, fSl (aB .i64) [0], aA .i64 1]) rfl rfl) ?_
 refine cY ?_
 refine cW (φ := fSl (aB .i64) [1, 2]) (v := v3) [9] cT (by intro s hs; simp only [List.mem_cons, List.not_mem_nil, or_false] at hs; rcases hs with rfl <;> rfl) ?_
 refine rU 10 (ψ := fD [aA .i64 0, fEq v3, aA .i64 4]) rfl (sB (i := 1) (φs := [aA .i64 0, fEq v3, aA .i64 4]) (φs' := [aA .i64 0, fSl (aB .i64) [1, 2], aA .i64 4]) rfl rfl) ?_
 refine cY ?_
 refine aT trivial rfl rfl (cS (t := bK) (xs := [(⟨0, [0], 1⟩ : ScopeRule), (⟨0, [1, 2], 4⟩ : ScopeRule)]) rfl (et rfl) (aR.cons rfl (has rfl) bO (aR.cons rfl (has rfl) bO aR.nil)) rfl rfl rfl) (fun b5 => ?_)
 generalize hv_v4 : (Value.slice (some ⟨b5, 0, none⟩) _ _) = v4; clear hv_v4
 refine aW 0 rfl (fun hc_v4 => ?_)
 refine Yy (dR (ψs := [fEq v1, fEq (.slice none 0 0), fEq v4]) rfl aEQ rfl (aU.cons (has rfl) (aS (aD hc_v1)) (aU.cons (has rfl) (aS (aD hc_v4)) aU.nil)) rfl) ?_
 refine aT trivial rfl rfl (cN rfl tJ rfl) (fun b6 => ?_)
 refine dP (φs' := [fEq v1, fEq (.slice none 0 0), fEq v4]) trivial rfl rfl (has rfl) (has rfl) (aO (aD hc_v1) (aO (aD trivial) (aO (aD hc_v4) bY))) (sz rfl) rfl rfl rfl ?_
 refine Z2 ?_
 refine Yy (dR (ψs := [aA .i64 0, aA .i64 0]) rfl aAB rfl aU.nil rfl) ?_
 refine aT trivial rfl rfl (cS (t := bE) (xs := [(⟨0, 0⟩ : ScopeChan)]) rfl (et rfl) (aR.cons rfl (has rfl) bO aR.nil) rfl rfl rfl) (fun b7 => ?_)
 generalize hv_v5 : (Value.slice (some ⟨b7, 0, none⟩) _ _) = v5; clear hv_v5
 refine aW 0 rfl (fun hc_v5 => ?_)
 refine aT trivial rfl rfl (cS (t := (aB .i64)) (xs := [0]) rfl (et rfl) (aR.cons rfl (has rfl) (aS (aD trivial)) aR.nil) rfl rfl rfl) (fun b8 => ?_)
 generalize hv_v6 : (Value.slice (some ⟨b8, 0, none⟩) _ _) = v6; clear hv_v6
 refine aW 0 rfl (fun hc_v6 => ?_)
 refine Yy (dR (ψs := [aA .i64 0, fEq v6, aA .i64 10]) rfl aBs rfl (aU.cons (has rfl) (aS (aD hc_v6)) (aU.cons (has rfl) (aS (aD trivial)) aU.nil)) rfl) ?_
 refine cW (φ := fSl (aB .i64) [0]) (v := v6) [15] cT (by intro s hs; simp only [List.mem_cons, List.not_mem_nil, or_false] at hs; rcases hs with rfl <;> rfl) ?_
 refine rU 16 (ψ := fD [aA .i64 0, fEq v6, aA .i64 10]) rfl (sB (i := 1) (φs := [aA .i64 0, fEq v6, aA .i64 10]) (φs' := [aA .i64 0, fSl (aB .i64) [0], aA .i64 10]) rfl rfl) ?_
 refine cY ?_
 refine aT trivial rfl rfl (cS (t := bK) (xs := [(⟨0, [0], 10⟩ : ScopeRule)]) rfl (et rfl) (aR.cons rfl (has rfl) bO aR.nil) rfl rfl rfl) (fun b9 => ?_)
 generalize hv_v7 : (Value.slice (some ⟨b9, 0, none⟩) _ _) = v7; clear hv_v7
 refine aW 0 rfl (fun hc_v7 => ?_)
 refine Yy (dR (ψs := [fEq v5, fEq (.slice none 0 0), fEq v7]) rfl aEQ rfl (aU.cons (has rfl) (aS (aD hc_v5)) (aU.cons (has rfl) (aS (aD hc_v7)) aU.nil)) rfl) ?_
 refine aT trivial rfl rfl (cN rfl tJ rfl) (fun b10 => ?_)
 refine dP (φs' := [fEq v5, fEq (.slice none 0 0), fEq v7]) trivial rfl rfl (has rfl) (has rfl) (aO (aD hc_v5) (aO (aD trivial) (aO (aD hc_v7) bY))) (sz rfl) rfl rfl rfl ?_
 refine Z1 ?_
 refine aH ?_
 refine mY ?_
 refine cW (φ := fSl bE [(⟨0, 1⟩ : ScopeChan), (⟨0, 1⟩ : ScopeChan), (⟨0, 1⟩ : ScopeChan)]) (v := v1) [6] cT (by intro s hs; simp only [List.mem_cons, List.not_mem_nil, or_false] at hs; rcases hs with rfl <;> rfl) ?_
 refine bJ ?_
 refine dN ?_
 refine iG (φs' := [fSl bE [(⟨0, 1⟩ : ScopeChan), (⟨0, 1⟩ : ScopeChan), (⟨0, 1⟩ : ScopeChan)], fEq (.slice none 0 0), fEq v4]) (i := 0) rfl rfl ?_
 refine rU 12 (ψ := fD [fEq v1, fEq (.slice none 0 0), fEq v4]) rfl (sB (i := 0) (φs := [fEq v1, fEq (.slice none 0 0), fEq v4]) (φs' := [fSl bE [(⟨0, 1⟩ : ScopeChan), (⟨0, 1⟩ : ScopeChan), (⟨0, 1⟩ : ScopeChan)], fEq (.slice none 0 0), fEq v4]) rfl rfl) ?_
 refine cY ?_
 refine bJ ?_
 refine cW (φ := fSl bK [(⟨0, [0], 1⟩ : ScopeRule), (⟨0, [1, 2], 4⟩ : ScopeRule)]) (v := v4) [11] cT (by intro s hs; simp only [List.mem_cons, List.not_mem_nil, or_false] at hs; rcases hs with rfl <;> rfl) ?_
 refine iG (φs' := [fSl bE [(⟨0, 1⟩ : ScopeChan), (⟨0, 1⟩ : ScopeChan), (⟨0, 1⟩ : ScopeChan)], fEq (.slice none 0 0), fSl bK [(⟨0, [0], 1⟩ : ScopeRule), (⟨0, [1, 2], 4⟩ : ScopeRule)]]) (i := 2) rfl rfl ?_
 refine rU 12 (ψ := fD [fSl bE [(⟨0, 1⟩ : ScopeChan), (⟨0, 1⟩ : ScopeChan), (⟨0, 1⟩ : ScopeChan)], fEq (.slice none 0 0), fEq v4]) rfl (sB (i := 2) (φs := [fSl bE [(⟨0, 1⟩ : ScopeChan), (⟨0, 1⟩ : ScopeChan), (⟨0, 1⟩ : ScopeChan)], fEq (.slice none 0 0), fEq v4]) (φs' := [fSl bE [(⟨0, 1⟩ : ScopeChan), (⟨0, 1⟩ : ScopeChan), (⟨0, 1⟩ : ScopeChan)], fEq (.slice none 0 0), fSl bK [(⟨0, [0], 1⟩ : ScopeRule), (⟨0, [1, 2], 4⟩ : ScopeRule)]]) rfl rfl) ?_
 refine cY ?_
 refine eD ?_
 refine cW (φ := fSl bE [(⟨0, 0⟩ : ScopeChan)]) (v := v5) [14] cT (by intro s hs; simp only [List.mem_cons, List.not_mem_nil, or_false] at hs; rcases hs with rfl <;> rfl) ?_
 refine eI ?_
 refine dN ?_
 refine iG (φs' := [fSl bE [(⟨0, 0⟩ : ScopeChan)], fEq (.slice none 0 0), fEq v7]) (i := 0) rfl rfl ?_
 refine rU 18 (ψ := fD [fEq v5, fEq (.slice none 0 0), fEq v7]) rfl (sB (i := 0) (φs := [fEq v5, fEq (.slice none 0 0), fEq v7]) (φs' := [fSl bE [(⟨0, 0⟩ : ScopeChan)], fEq (.slice none 0 0), fEq v7]) rfl rfl) ?_
 refine cY ?_
 refine eI ?_
 refine cW (φ := fSl bK [(⟨0, [0], 10⟩ : ScopeRule)]) (v := v7) [17] cT (by intro s hs; simp only [List.mem_cons, List.not_mem_nil, or_false] at hs; rcases hs with rfl <;> rfl) ?_
 refine iG (φs' := [fSl bE [(⟨0, 0⟩ : ScopeChan)], fEq (.slice none 0 0), fSl bK [(⟨0, [0], 10⟩ : ScopeRule)]]) (i := 2) rfl rfl ?_
 refine rU 18 (ψ := fD [fSl bE [(⟨0, 0⟩ : ScopeChan)], fEq (.slice none 0 0), fEq v7]) rfl (sB (i := 2) (φs := [fSl bE [(⟨0, 0⟩ : ScopeChan)], fEq (.slice none 0 0), fEq v7]) (φs' := [fSl bE [(⟨0, 0⟩ : ScopeChan)], fEq (.slice none 0 0), fSl bK [(⟨0, [0], 10⟩ : ScopeRule)]]) rfl rfl) ?_
 refine cY ?_
 revert H; refine bs fun y1 h1 H => ?_
 revert H; refine bs fun y2 h2 H => ?_
 revert H; refine bs fun y3 h3 H => ?_
 revert H; refine bs fun y4 h4 H => ?_
 revert H; refine bs fun y5 h5 H => ?_
 revert H; refine bs fun y6 h6 H => ?_
 apply bI (ods := [_, _, _, _, _, _, _, _, _, _, _, _, _, _, _, _, _, _, _, _, _, _, _, _, _, _, _, _, _, _, _, _, _, _]) 34 0 3 bH rfl rfl rfl
 refine ND ?_
 refine Mf (φ := fSl aN [{ data := #[111, 117, 116] }]) (cS (t := aN) (xs := [{ data := #[111, 117, 116] }]) rfl (et rfl) (aR.cons rfl (has rfl) (aS (aD trivial)) aR.nil) rfl rfl rfl) (fun b => cT) fun _ => ?_
 refine M2 ?_
 intros
 refine Mf (φ := fSl aK [(⟨[(⟨0, 1⟩ : ScopeChan), (⟨0, 1⟩ : ScopeChan), (⟨0, 1⟩ : ScopeChan)], [], [(⟨0, [0], 1⟩ : ScopeRule), (⟨0, [1, 2], 4⟩ : ScopeRule)]⟩ : ScopeDef), (⟨[(⟨0, 0⟩ : ScopeChan)], [], [(⟨0, [0], 10⟩ : ScopeRule)]⟩ : ScopeDef)]) (cS (t := aK) (xs := [(⟨[(⟨0, 1⟩ : ScopeChan), (⟨0, 1⟩ : ScopeChan), (⟨0, 1⟩ : ScopeChan)], [], [(⟨0, [0], 1⟩ : ScopeRule), (⟨0, [1, 2], 4⟩ : ScopeRule)]⟩ : ScopeDef), (⟨[(⟨0, 0⟩ : ScopeChan)], [], [(⟨0, [0], 10⟩ : ScopeRule)]⟩ : ScopeDef)]) rfl (et rfl) (aR.cons rfl (dA rfl (gQ (aL.cons Ent.rfl (aL.cons eJ (aL.cons Ent.rfl aL.nil))))) bO (aR.cons rfl (dA rfl (gQ (aL.cons Ent.rfl (aL.cons eJ (aL.cons Ent.rfl aL.nil))))) bO aR.nil)) rfl rfl rfl) (fun b => cT) fun _ => ?_
 refine Mf (φ := fSl (aB .i64) [5]) (cS (t := (aB .i64)) (xs := [5]) rfl (et rfl) (aR.cons rfl (has rfl) (aS (aD trivial)) aR.nil) rfl rfl rfl) (fun b => cT) fun _ => ?_
 refine My (dR (ψs := [aA .i64 4, aA .i64 0, fEq (.slice none 0 0), fSl (aB .i64) [5]]) rfl jQ rfl (aU.cons (has rfl) (aS (aD trivial)) (aU.cons (has rfl) (aS (bC)) aU.nil)) rfl) fun _ => ?_
 refine Mf (φ := fSl (aB .i64) [2, 3]) (cS (t := (aB .i64)) (xs := [2, 3]) rfl (et rfl) (aR.cons rfl (has rfl) (aS (aD trivial)) (aR.cons rfl (has rfl) (aS (aD trivial)) aR.nil)) rfl rfl rfl) (fun b => cT) fun _ => ?_
 refine My (dR (ψs := [aA .i64 3, aA .i64 0, fEq (.slice none 0 0), fSl (aB .i64) [2, 3]]) rfl jQ rfl (aU.cons (has rfl) (aS (aD trivial)) (aU.cons (has rfl) (aS (bC)) aU.nil)) rfl) fun _ => ?_
 refine Nc (aDa _ _ h1) fun _ => ?_
 refine My (dR (ψs := [aA .i64 2, aA .i64 4, fSl bD y1, fEq (.slice none 0 0)]) rfl jQ rfl (aU.cons (has rfl) (aS (aD trivial)) (aU.cons (has rfl) (aS (aD trivial)) (aU.cons (has rfl) (aS (bC)) aU.nil))) rfl) fun _ => ?_
 refine Nc (aDa _ _ h2) fun _ => ?_
 refine My (dR (ψs := [aA .i64 2, aA .i64 4, fSl bD y2, fEq (.slice none 0 0)]) rfl jQ rfl (aU.cons (has rfl) (aS (aD trivial)) (aU.cons (has rfl) (aS (aD trivial)) (aU.cons (has rfl) (aS (bC)) aU.nil))) rfl) fun _ => ?_
 refine Mf (φ := fSl (aB .i64) [5]) (cS (t := (aB .i64)) (xs := [5]) rfl (et rfl) (aR.cons rfl (has rfl) (aS (aD trivial)) aR.nil) rfl rfl rfl) (fun b => cT) fun _ => ?_
 refine Nc (aAc _ _ _ h3) fun _ => ?_
 refine My (dR (ψs := [aA .i64 2, aA .i64 4, fSl bD y3, fEq (.slice none 0 0)]) rfl jQ rfl (aU.cons (has rfl) (aS (aD trivial)) (aU.cons (has rfl) (aS (aD trivial)) (aU.cons (has rfl) (aS (bC)) aU.nil))) rfl) fun _ => ?_
 refine Mf (φ := fSl (aB .i64) [6, 7]) (cS (t := (aB .i64)) (xs := [6, 7]) rfl (et rfl) (aR.cons rfl (has rfl) (aS (aD trivial)) (aR.cons rfl (has rfl) (aS (aD trivial)) aR.nil)) rfl rfl rfl) (fun b => cT) fun _ => ?_
 refine My (dR (ψs := [aA .i64 3, aA .i64 0, fEq (.slice none 0 0), fSl (aB .i64) [6, 7]]) rfl jQ rfl (aU.cons (has rfl) (aS (aD trivial)) (aU.cons (has rfl) (aS (bC)) aU.nil)) rfl) fun _ => ?_
 refine Mf (φ := fSl (aB .i64) [0]) (cS (t := (aB .i64)) (xs := [0]) rfl (et rfl) (aR.cons rfl (has rfl) (aS (aD trivial)) aR.nil) rfl rfl rfl) (fun b => cT) fun _ => ?_
 refine Nc (aAc _ _ _ h4) fun _ => ?_
 refine My (dR (ψs := [aA .i64 2, aA .i64 2, fSl bD y4, fEq (.slice none 0 0)]) rfl jQ rfl (aU.cons (has rfl) (aS (aD trivial)) (aU.cons (has rfl) (aS (aD trivial)) (aU.cons (has rfl) (aS (bC)) aU.nil))) rfl) fun _ => ?_
 refine Mf (φ := fSl (aB .i64) [8, 9]) (cS (t := (aB .i64)) (xs := [8, 9]) rfl (et rfl) (aR.cons rfl (has rfl) (aS (aD trivial)) (aR.cons rfl (has rfl) (aS (aD trivial)) aR.nil)) rfl rfl rfl) (fun b => cT) fun _ => ?_
 refine My (dR (ψs := [aA .i64 3, aA .i64 0, fEq (.slice none 0 0), fSl (aB .i64) [8, 9]]) rfl jQ rfl (aU.cons (has rfl) (aS (aD trivial)) (aU.cons (has rfl) (aS (bC)) aU.nil)) rfl) fun _ => ?_
 refine Mf (φ := fSl (aB .i64) [1]) (cS (t := (aB .i64)) (xs := [1]) rfl (et rfl) (aR.cons rfl (has rfl) (aS (aD trivial)) aR.nil) rfl rfl rfl) (fun b => cT) fun _ => ?_
 refine Nc (aAc _ _ _ h5) fun _ => ?_
 refine My (dR (ψs := [aA .i64 2, aA .i64 3, fSl bD y5, fEq (.slice none 0 0)]) rfl jQ rfl (aU.cons (has rfl) (aS (aD trivial)) (aU.cons (has rfl) (aS (aD trivial)) (aU.cons (has rfl) (aS (bC)) aU.nil))) rfl) fun _ => ?_
 refine Mf (φ := fSl (aB .i64) [11]) (cS (t := (aB .i64)) (xs := [11]) rfl (et rfl) (aR.cons rfl (has rfl) (aS (aD trivial)) aR.nil) rfl rfl rfl) (fun b => cT) fun _ => ?_
 refine My (dR (ψs := [aA .i64 4, aA .i64 1, fEq (.slice none 0 0), fSl (aB .i64) [11]]) rfl jQ rfl (aU.cons (has rfl) (aS (aD trivial)) (aU.cons (has rfl) (aS (aD trivial)) (aU.cons (has rfl) (aS (bC)) aU.nil))) rfl) fun _ => ?_
 refine Mf (φ := fSl (aB .i64) [0]) (cS (t := (aB .i64)) (xs := [0]) rfl (et rfl) (aR.cons rfl (has rfl) (aS (aD trivial)) aR.nil) rfl rfl rfl) (fun b => cT) fun _ => ?_
 refine Nc (aAc _ _ _ h6) fun _ => ?_
 refine My (dR (ψs := [aA .i64 2, aA .i64 1, fSl bD y6, fEq (.slice none 0 0)]) rfl jQ rfl (aU.cons (has rfl) (aS (aD trivial)) (aU.cons (has rfl) (aS (aD trivial)) (aU.cons (has rfl) (aS (bC)) aU.nil))) rfl) fun _ => ?_
 refine My (dR (ψs := [aA .i64 2, aA .i64 4, fEq (.slice none 0 0), fEq (.slice none 0 0)]) rfl jQ rfl (aU.cons (has rfl) (aS (aD trivial)) (aU.cons (has rfl) (aS (aD trivial)) aU.nil)) rfl) fun _ => ?_
 refine Mf (φ := fSl aM [(⟨4, 0, [], [5]⟩ : ScopeNode), (⟨3, 0, [], [2, 3]⟩ : ScopeNode), (⟨2, 4, y1, []⟩ : ScopeNode), (⟨2, 4, y2, []⟩ : ScopeNode), (⟨2, 4, y3, []⟩ : ScopeNode), (⟨3, 0, [], [6, 7]⟩ : ScopeNode), (⟨2, 2, y4, []⟩ : ScopeNode), (⟨3, 0, [], [8, 9]⟩ : ScopeNode), (⟨2, 3, y5, []⟩ : ScopeNode), (⟨4, 1, [], [11]⟩ : ScopeNode), (⟨2, 1, y6, []⟩ : ScopeNode), (⟨2, 4, [], []⟩ : ScopeNode)]) (cS (t := aM) (xs := [(⟨4, 0, [], [5]⟩ : ScopeNode), (⟨3, 0, [], [2, 3]⟩ : ScopeNode), (⟨2, 4, y1, []⟩ : ScopeNode), (⟨2, 4, y2, []⟩ : ScopeNode), (⟨2, 4, y3, []⟩ : ScopeNode), (⟨3, 0, [], [6, 7]⟩ : ScopeNode), (⟨2, 2, y4, []⟩ : ScopeNode), (⟨3, 0, [], [8, 9]⟩ : ScopeNode), (⟨2, 3, y5, []⟩ : ScopeNode), (⟨4, 1, [], [11]⟩ : ScopeNode), (⟨2, 1, y6, []⟩ : ScopeNode), (⟨2, 4, [], []⟩ : ScopeNode)]) rfl (et rfl) (aR.cons rfl (dA rfl (gQ (aL.cons Ent.rfl (aL.cons Ent.rfl (aL.cons eJ (aL.cons Ent.rfl aL.nil)))))) bO (aR.cons rfl (dA rfl (gQ (aL.cons Ent.rfl (aL.cons Ent.rfl (aL.cons eJ (aL.cons Ent.rfl aL.nil)))))) bO (aR.cons rfl (dA rfl (gQ (aL.cons Ent.rfl (aL.cons Ent.rfl (aL.cons Ent.rfl (aL.cons eJ aL.nil)))))) bO (aR.cons rfl (dA rfl (gQ (aL.cons Ent.rfl (aL.cons Ent.rfl (aL.cons Ent.rfl (aL.cons eJ aL.nil)))))) bO (aR.cons rfl (dA rfl (gQ (aL.cons Ent.rfl (aL.cons Ent.rfl (aL.cons Ent.rfl (aL.cons eJ aL.nil)))))) bO (aR.cons rfl (dA rfl (gQ (aL.cons Ent.rfl (aL.cons Ent.rfl (aL.cons eJ (aL.cons Ent.rfl aL.nil)))))) bO (aR.cons rfl (dA rfl (gQ (aL.cons Ent.rfl (aL.cons Ent.rfl (aL.cons Ent.rfl (aL.cons eJ aL.nil)))))) bO (aR.cons rfl (dA rfl (gQ (aL.cons Ent.rfl (aL.cons Ent.rfl (aL.cons eJ (aL.cons Ent.rfl aL.nil)))))) bO (aR.cons rfl (dA rfl (gQ (aL.cons Ent.rfl (aL.cons Ent.rfl (aL.cons Ent.rfl (aL.cons eJ aL.nil)))))) bO (aR.cons rfl (dA rfl (gQ (aL.cons Ent.rfl (aL.cons Ent.rfl (aL.cons eJ (aL.cons Ent.rfl aL.nil)))))) bO (aR.cons rfl (dA rfl (gQ (aL.cons Ent.rfl (aL.cons Ent.rfl (aL.cons Ent.rfl (aL.cons eJ aL.nil)))))) bO (aR.cons rfl (dA rfl (gQ (aL.cons Ent.rfl (aL.cons Ent.rfl (aL.cons eJ (aL.cons eJ aL.nil)))))) bO aR.nil)))))))))))) rfl rfl rfl) (fun b => cT) fun _ => ?_
 refine My (dR (ψs := [fSl aN [{ data := #[111, 117, 116] }], fSl aM [(⟨4, 0, [], [5]⟩ : ScopeNode), (⟨3, 0, [], [2, 3]⟩ : ScopeNode), (⟨2, 4, y1, []⟩ : ScopeNode), (⟨2, 4, y2, []⟩ : ScopeNode), (⟨2, 4, y3, []⟩ : ScopeNode), (⟨3, 0, [], [6, 7]⟩ : ScopeNode), (⟨2, 2, y4, []⟩ : ScopeNode), (⟨3, 0, [], [8, 9]⟩ : ScopeNode), (⟨2, 3, y5, []⟩ : ScopeNode), (⟨4, 1, [], [11]⟩ : ScopeNode), (⟨2, 1, y6, []⟩ : ScopeNode), (⟨2, 4, [], []⟩ : ScopeNode)], fSl aK [(⟨[(⟨0, 1⟩ : ScopeChan), (⟨0, 1⟩ : ScopeChan), (⟨0, 1⟩ : ScopeChan)], [], [(⟨0, [0], 1⟩ : ScopeRule), (⟨0, [1, 2], 4⟩ : ScopeRule)]⟩ : ScopeDef), (⟨[(⟨0, 0⟩ : ScopeChan)], [], [(⟨0, [0], 10⟩ : ScopeRule)]⟩ : ScopeDef)], aA .i64 0]) rfl ty_bu_26 rfl (aU.cons (has rfl) (aS (bC)) (aU.cons (has rfl) (aS (bC)) (aU.cons (has rfl) (aS (bC)) aU.nil))) rfl) fun _ => ?_
 refine wF (od := odC [2] true (fAny) [aC b1 26 [fSl aN [{ data := #[111, 117, 116] }], fSl aM [(⟨4, 0, [], [5]⟩ : ScopeNode), (⟨3, 0, [], [2, 3]⟩ : ScopeNode), (⟨2, 4, y1, []⟩ : ScopeNode), (⟨2, 4, y2, []⟩ : ScopeNode), (⟨2, 4, y3, []⟩ : ScopeNode), (⟨3, 0, [], [6, 7]⟩ : ScopeNode), (⟨2, 2, y4, []⟩ : ScopeNode), (⟨3, 0, [], [8, 9]⟩ : ScopeNode), (⟨2, 3, y5, []⟩ : ScopeNode), (⟨4, 1, [], [11]⟩ : ScopeNode), (⟨2, 1, y6, []⟩ : ScopeNode), (⟨2, 4, [], []⟩ : ScopeNode)], fSl aK [(⟨[(⟨0, 1⟩ : ScopeChan), (⟨0, 1⟩ : ScopeChan), (⟨0, 1⟩ : ScopeChan)], [], [(⟨0, [0], 1⟩ : ScopeRule), (⟨0, [1, 2], 4⟩ : ScopeRule)]⟩ : ScopeDef), (⟨[(⟨0, 0⟩ : ScopeChan)], [], [(⟨0, [0], 10⟩ : ScopeRule)]⟩ : ScopeDef)], aA .i64 0]]) (p := 2) (φs' := [fSl aN [{ data := #[111, 117, 116] }], fSl aM [(⟨4, 0, [], [5]⟩ : ScopeNode), (⟨3, 0, [], [2, 3]⟩ : ScopeNode), (⟨2, 4, y1, []⟩ : ScopeNode), (⟨2, 4, y2, []⟩ : ScopeNode), (⟨2, 4, y3, []⟩ : ScopeNode), (⟨3, 0, [], [6, 7]⟩ : ScopeNode), (⟨2, 2, y4, []⟩ : ScopeNode), (⟨3, 0, [], [8, 9]⟩ : ScopeNode), (⟨2, 3, y5, []⟩ : ScopeNode), (⟨4, 1, [], [11]⟩ : ScopeNode), (⟨2, 1, y6, []⟩ : ScopeNode), (⟨2, 4, [], []⟩ : ScopeNode)], fSl aK [(⟨[(⟨0, 1⟩ : ScopeChan), (⟨0, 1⟩ : ScopeChan), (⟨0, 1⟩ : ScopeChan)], [], [(⟨0, [0], 1⟩ : ScopeRule), (⟨0, [1, 2], 4⟩ : ScopeRule)]⟩ : ScopeDef), (⟨[(⟨0, 0⟩ : ScopeChan)], [], [(⟨0, [0], 10⟩ : ScopeRule)]⟩ : ScopeDef)], aA .i64 0]) rfl (fun _ => rfl) (fun _ => rfl) trivial rfl rfl rfl (has rfl) (has rfl) (aO (bC) (aO (bC) (aO (bC) (aO (aD trivial) bY)))) (sz rfl) rfl rfl rfl (fun _ => ?_)
 refine Z3 ?_
 cases H
 refine aI [2] (by decide) ?_
 exact T_outCS rfl (ag rfl) rfl (bQ rfl) Ent.rfl rfl
 exact fk
 kernel_rfl
def rR  : Option (List UsageDef) :=
 some ([(⟨[4, 2, 2], [4, 3], ([[4], [3], [4]] : List (List Int))⟩ : UsageDef), (⟨[2], [3], ([([] : List Int)] : List (List Int))⟩ : UsageDef)] : List UsageDef)
theorem aAY   (r : List UsageDef) (H : rR = some r) : FnS Try.prog 17 [] [] fAny (fun v => [(fun v => bU v 40 dJ r) v]) := by
 unfold rR at H
 refine bF Try.func17 rfl Try.ntmps17 rfl (fun β => ?_)
 refine Z12 ?_
 refine Z4 ?_
 refine aT trivial rfl rfl (cS (t := (aB .i64)) (xs := [4, 2, 2]) rfl (et rfl) (aR.cons rfl (has rfl) (aS (aD trivial)) (aR.cons rfl (has rfl) (aS (aD trivial)) (aR.cons rfl (has rfl) (aS (aD trivial)) aR.nil))) rfl rfl rfl) (fun b1 => ?_)
 generalize hv_v1 : (Value.slice (some ⟨b1, 0, none⟩) _ _) = v1; clear hv_v1
 refine aW 0 rfl (fun hc_v1 => ?_)
 refine Z2 ?_
 refine aT trivial rfl rfl (cS (t := (aB .i64)) (xs := [4, 3]) rfl (et rfl) (aR.cons rfl (has rfl) (aS (aD trivial)) (aR.cons rfl (has rfl) (aS (aD trivial)) aR.nil)) rfl rfl rfl) (fun b2 => ?_)
 generalize hv_v2 : (Value.slice (some ⟨b2, 0, none⟩) _ _) = v2; clear hv_v2
 refine aW 0 rfl (fun hc_v2 => ?_)
 refine Z1 ?_
 refine aT trivial rfl rfl (cS (t := (aB .i64)) (xs := [4]) rfl (et rfl) (aR.cons rfl (has rfl) (aS (aD trivial)) aR.nil) rfl rfl rfl) (fun b3 => ?_)
 generalize hv_v3 : (Value.slice (some ⟨b3, 0, none⟩) _ _) = v3; clear hv_v3
 refine aW 0 rfl (fun hc_v3 => ?_)
 refine Z1 ?_
 refine aT trivial rfl rfl (cS (t := (aB .i64)) (xs := [3]) rfl (et rfl) (aR.cons rfl (has rfl) (aS (aD trivial)) aR.nil) rfl rfl rfl) (fun b4 => ?_)
 generalize hv_v4 : (Value.slice (some ⟨b4, 0, none⟩) _ _) = v4; clear hv_v4
 refine aW 0 rfl (fun hc_v4 => ?_)
 refine Z1 ?_
 refine aT trivial rfl rfl (cS (t := (aB .i64)) (xs := [4]) rfl (et rfl) (aR.cons rfl (has rfl) (aS (aD trivial)) aR.nil) rfl rfl rfl) (fun b5 => ?_)
 generalize hv_v5 : (Value.slice (some ⟨b5, 0, none⟩) _ _) = v5; clear hv_v5
 refine aW 0 rfl (fun hc_v5 => ?_)
 refine aT trivial rfl rfl (cS (t := tF 1) (xs := [[⟨fEq v3, aD hc_v3⟩], [⟨fEq v4, aD hc_v4⟩], [⟨fEq v5, aD hc_v5⟩]]) rfl (et rfl) (aR.cons rfl (has rfl) (aS (aD hc_v3)) (aR.cons rfl (has rfl) (aS (aD hc_v4)) (aR.cons rfl (has rfl) (aS (aD hc_v5)) aR.nil))) rfl rfl rfl) (fun b6 => ?_)
 generalize hv_v6 : (Value.slice (some ⟨b6, 0, none⟩) _ _) = v6; clear hv_v6
 refine sC ?_
 refine eD ?_
 refine gL (p := 0) (f := (fun v => aE v 41 (aB .i64) [4])) (hf := (fun _ => eB)) rfl Ent.rfl ?_
 refine eI ?_
 refine gL (p := 1) (f := (fun v => aE v 41 (aB .i64) [3])) (hf := (fun _ => eB)) rfl Ent.rfl ?_
 refine dN ?_
 refine gL (p := 2) (f := (fun v => aE v 41 (aB .i64) [4])) (hf := (fun _ => eB)) rfl Ent.rfl ?_
 refine sL (o := (cL 41 (aB .i64))) (xs := ([[4], [3], [4]] : List (List Int))) rfl rfl rfl ?_
 refine eA 0 rfl (fun hc_v6 => ?_)
 refine Yy (dR (ψs := [fEq v1, fEq v2, fEq v6]) rfl aBu rfl (aU.cons (has rfl) (aS (aD hc_v1)) (aU.cons (has rfl) (aS (aD hc_v2)) (aU.cons (has rfl) (aS (aD hc_v6)) aU.nil))) rfl) ?_
 refine Z1 ?_
 refine aT trivial rfl rfl (cS (t := (aB .i64)) (xs := [2]) rfl (et rfl) (aR.cons rfl (has rfl) (aS (aD trivial)) aR.nil) rfl rfl rfl) (fun b7 => ?_)
 generalize hv_v7 : (Value.slice (some ⟨b7, 0, none⟩) _ _) = v7; clear hv_v7
 refine aW 0 rfl (fun hc_v7 => ?_)
 refine Z1 ?_
 refine aT trivial rfl rfl (cS (t := (aB .i64)) (xs := [3]) rfl (et rfl) (aR.cons rfl (has rfl) (aS (aD trivial)) aR.nil) rfl rfl rfl) (fun b8 => ?_)
 generalize hv_v8 : (Value.slice (some ⟨b8, 0, none⟩) _ _) = v8; clear hv_v8
 refine aW 0 rfl (fun hc_v8 => ?_)
 refine aT trivial rfl rfl (cS (t := (aB .i64)) (xs := ([] : List Int)) rfl (et rfl) aR.nil rfl rfl rfl) (fun b9 => ?_)
 generalize hv_v9 : (Value.slice (some ⟨b9, 0, none⟩) _ _) = v9; clear hv_v9
 refine aW 0 rfl (fun hc_v9 => ?_)
 refine aT trivial rfl rfl (cS (t := tF 1) (xs := [[⟨fEq v9, aD hc_v9⟩]]) rfl (et rfl) (aR.cons rfl (has rfl) (aS (aD hc_v9)) aR.nil) rfl rfl rfl) (fun b10 => ?_)
 generalize hv_v10 : (Value.slice (some ⟨b10, 0, none⟩) _ _) = v10; clear hv_v10
 refine sC ?_
 refine dN ?_
 refine gL (p := 0) (f := (fun v => aE v 41 (aB .i64) ([] : List Int))) (hf := (fun _ => eB)) rfl Ent.rfl ?_
 refine sL (o := (cL 41 (aB .i64))) (xs := ([([] : List Int)] : List (List Int))) rfl rfl rfl ?_
 refine eA 0 rfl (fun hc_v10 => ?_)
 refine Yy (dR (ψs := [fEq v7, fEq v8, fEq v10]) rfl aBu rfl (aU.cons (has rfl) (aS (aD hc_v7)) (aU.cons (has rfl) (aS (aD hc_v8)) (aU.cons (has rfl) (aS (aD hc_v10)) aU.nil))) rfl) ?_
 refine aT trivial rfl rfl (cS (t := tF 3) (xs := [[⟨fEq v1, aD hc_v1⟩, ⟨fEq v2, aD hc_v2⟩, ⟨fEq v6, aD hc_v6⟩], [⟨fEq v7, aD hc_v7⟩, ⟨fEq v8, aD hc_v8⟩, ⟨fEq v10, aD hc_v10⟩]]) rfl (et rfl) (aR.cons rfl (has rfl) bO (aR.cons rfl (has rfl) bO aR.nil)) rfl rfl rfl) (fun b11 => ?_)
 generalize hv_v11 : (Value.slice (some ⟨b11, 0, none⟩) _ _) = v11; clear hv_v11
 refine sC ?_
 refine mQ ?_
 refine gL (p := 0) (f := (fun v => aE v 41 (aB .i64) [4, 2, 2])) (hf := (fun _ => eB)) rfl Ent.rfl ?_
 refine mY ?_
 refine gL (p := 1) (f := (fun v => aE v 41 (aB .i64) [4, 3])) (hf := (fun _ => eB)) rfl Ent.rfl ?_
 refine bJ ?_
 refine gL (p := 2) (f := (fun v => bU v 37 (cL 41 (aB .i64)) ([[4], [3], [4]] : List (List Int)))) (hf := (fun _ => lQ)) rfl Ent.rfl ?_
 refine eD ?_
 refine gL (p := 3) (f := (fun v => aE v 41 (aB .i64) [2])) (hf := (fun _ => eB)) rfl Ent.rfl ?_
 refine eI ?_
 refine gL (p := 4) (f := (fun v => aE v 41 (aB .i64) [3])) (hf := (fun _ => eB)) rfl Ent.rfl ?_
 refine dN ?_
 refine gL (p := 5) (f := (fun v => bU v 37 (cL 41 (aB .i64)) ([([] : List Int)] : List (List Int)))) (hf := (fun _ => lQ)) rfl Ent.rfl ?_
 refine sL (o := dJ) (xs := ([(⟨[4, 2, 2], [4, 3], ([[4], [3], [4]] : List (List Int))⟩ : UsageDef), (⟨[2], [3], ([([] : List Int)] : List (List Int))⟩ : UsageDef)] : List UsageDef)) rfl rfl rfl ?_
 refine eA 0 rfl (fun hc_v11 => ?_)
 refine Z3 ?_
 cases H
 exact yP rfl (bQ rfl) (fun _ _ _ => trivial) rfl
theorem aFt   (r : List UsageDef) (H : rR = some r) : FnS Try.prog 17 [] [] (fSl aZ r) (fun _ => []) := (aAY r H).frz (fun v => (nR rfl pE))
def yW (fuel : Nat) (a0 : ScopeProg) (a1 : Int) (a2 : Int) : Option ((Option Usage_text) × Bool) :=
 (rE fuel (⟨a0.Free, a0.Nodes, a0.Defs, a0.Main⟩ : ScopeProg)).bind fun y1 =>
 if y1 ≠ 0 then
  some (none, false)
 else
  if a1 < 0 then
   some (none, false)
  else
   if (a0.Nodes.length : Int) ≤ a1 then
    some (none, false)
   else
    (nX fuel (⟨a0.Free, a0.Nodes, a0.Defs, a0.Main⟩ : ScopeProg)).bind fun y2 =>
    (if 0 ≤ a2 then
     (idx y2.sizes a1).bind fun y3 =>
     some (decide (a2 < y3))
    else
     some false).bind fun x1 =>
    some (some y2, x1)
theorem aCV (fuel : Nat)  (a0 : ScopeProg) (a1 : Int) (a2 : Int) (r : (Option Usage_text) × Bool) (H : yW fuel a0 a1 a2 = some r) : FnS Try.prog 44 [fSt dM a0, aA .i64 a1, aA .i64 a2] [] (dH [fOpt bG r.1, aG r.2]) (fun _ => []) := by
 unfold yW at H
 refine bF Try.func44 rfl Try.ntmps44 rfl (fun β => ?_)
 refine Z1 ?_
 refine aT trivial rfl rfl (cG rfl (has rfl) bO) (fun b1 => ?_)
 refine Z3 ?_
 refine aH ?_
 revert H; refine B2 fun y1 h1 H => ?_
 refine Tc (aBA _ _ _ h1) ?_
 revert H; refine I2 (fun c1 H => ?_) fun c1 H => ?_
 refine Z12 ?_
 refine Z5 ?_
 cases H
 refine aI [] (by decide) ?_
 exact gJ rfl (kD rfl aCk) (bQ rfl) rfl
 revert H; refine I4 (fun c2 H => ?_) fun c2 H => ?_
 refine Z12 ?_
 refine Z1 ?_
 cases H
 refine aI [] (by decide) ?_
 exact gJ rfl (kD rfl aCk) (bQ rfl) rfl
 revert H; refine I7 (fun c3 H => ?_) fun c3 H => ?_
 refine Z6 ?_
 cases H
 refine aI [] (by decide) ?_
 exact gJ rfl (kD rfl aCk) (bQ rfl) rfl
 revert H; refine B5 fun y2 h2 H => ?_
 refine Tc (aCa _ _ _ h2) ?_
 revert H; refine B2 fun o1 H Hr1 => ?_
 refine aX (ι := Bool) (fun i => o1 = i) (fun i => [(6, aF bG y2), (7, aG i)]) (fun i => [aC b1 26 [fSl aN a0.Free, fSl aM a0.Nodes, fSl aK a0.Defs, aA .i64 a0.Main]]) ?_ ?_
 revert H; refine is (fun c4 H => ?_) fun c4 H => ?_
 revert H; refine bs fun y3 h3 H => ?_
 apply bI (ods := [_, _, _, _, _, _, _, _, _, _, _, _, _, _, _, _]) 16 0 1 bH rfl rfl rfl
 refine ND ?_
 refine M8 ?_
 intros
 refine M8 ?_
 intros
 refine Z2 ?_
 exact Tm (decide (a2 < y3)) (ij H)
 exact fk
 kernel_rfl
 apply bI (ods := [_, _, _, _, _, _, _, _, _, _, _, _, _, _, _, _]) 16 0 1 bH rfl rfl rfl
 refine ND ?_
 refine M8 ?_
 intros
 refine M8 ?_
 intros
 refine Z2 ?_
 exact Tm (false) (ij H)
 exact fk
 kernel_rfl
 clear H; intro x1 hi; subst o1; have H := Hr1; clear Hr1; try dsimp only at H
 try dsimp only
 refine Z1 ?_
 cases H
 refine aI [] (by decide) ?_
 exact gJ rfl (kD rfl ent_optS) (bQ rfl) rfl
end Go.Proofs.Ytmnbfgeljmhekaa
set_option maxRecDepth 100000
set_option maxHeartbeats 2000000
namespace Go.Proofs.Ytmnbfgeljmhekaa
open Go.SX Go.SW Go.Dt
attribute [local irreducible] Code.wpIn wpListIn Exit.then Exit.inBlock
def aCi (fuel : Nat) (a0 : ScopeProg) (a1 : List UsageDef) (a2 : Int) (a3 : Int) : Option (Int × Int) :=
 (yW fuel (⟨a0.Free, a0.Nodes, a0.Defs, a0.Main⟩ : ScopeProg) a2 a3).bind fun y1 =>
 bif !y1.2 then
  some (0, 2)
 else
  (y1.1).bind fun y2 =>
  (vN fuel y2 a1).bind fun y3 =>
  bif y3 then
   (fF fuel y2 a1 a2 a3).bind fun y4 =>
   (pV y4).bind fun y5 =>
   some (y5, 0)
  else
   some (0, 2)
theorem aGC (fuel : Nat)  (a0 : ScopeProg) (a1 : List UsageDef) (a2 : Int) (a3 : Int) (r : Int × Int) (H : aCi fuel a0 a1 a2 a3 = some r) : FnS Try.prog 18 [fSt dM a0, fSl aZ a1, aA .i64 a2, aA .i64 a3] [] (dH [aA .i64 r.1, aA .i64 r.2]) (fun _ => []) := by
 unfold aCi at H
 refine bF Try.func18 rfl Try.ntmps18 rfl (fun β => ?_)
 refine Z1 ?_
 refine aT trivial rfl rfl (cG rfl (has rfl) bO) (fun b1 => ?_)
 revert H; refine B7 fun y1 h1 H => ?_
 refine Tc (aCV _ _ _ _ _ h1) ?_
 refine Z6 ?_
 refine aH ?_
 refine Z4 ?_
 revert H; refine cs (fun c1 H => ?_) fun c1 H => ?_
 refine Z12 ?_
 cases H
 refine aI [] (by decide) ?_
 exact gJ rfl (bQ rfl) (bQ rfl) rfl
 revert H; refine B2 fun y2 h2 H => ?_
 refine lI 17 rfl (uU h2) ?_
 refine lI 10 rfl (uU h2) ?_
 refine lI 22 rfl (uU h2) ?_
 revert H; refine bs fun y3 h3 H => ?_
 refine Tc (aDh _ _ _ _ h3) ?_
 refine Z3 ?_
 revert H; refine cs (fun c2 H => ?_) fun c2 H => ?_
 revert H; refine B8 fun y4 h4 H => ?_
 refine Tc (aDY _ _ _ _ _ _ h4) ?_
 revert H; refine bs fun y5 h5 H => ?_
 refine Tc (aAw _ _ h5) ?_
 refine Z4 ?_
 cases H
 refine aI [] (by decide) ?_
 exact gJ rfl (bQ rfl) (bQ rfl) rfl
 refine Z6 ?_
 cases H
 refine aI [] (by decide) ?_
 exact gJ rfl (bQ rfl) (bQ rfl) rfl
def aCK (fuel : Nat) (a0 : ScopeProg) (a1 : Int) (a2 : Int) : Option (Int × Int) :=
 (yW fuel (⟨a0.Free, a0.Nodes, a0.Defs, a0.Main⟩ : ScopeProg) a1 a2).bind fun y1 =>
 bif y1.2 then
  (y1.1).bind fun y2 =>
  (gV fuel y2 a1 a2).bind fun y3 =>
  some (y3, 0)
 else
  some (0, 2)
theorem aHi (fuel : Nat)  (a0 : ScopeProg) (a1 : Int) (a2 : Int) (r : Int × Int) (H : aCK fuel a0 a1 a2 = some r) : FnS Try.prog 19 [fSt dM a0, aA .i64 a1, aA .i64 a2] [] (dH [aA .i64 r.1, aA .i64 r.2]) (fun _ => []) := by
 unfold aCK at H
 refine bF Try.func19 rfl Try.ntmps19 rfl (fun β => ?_)
 refine Z1 ?_
 refine aT trivial rfl rfl (cG rfl (has rfl) bO) (fun b1 => ?_)
 revert H; refine B7 fun y1 h1 H => ?_
 refine Tc (aCV _ _ _ _ _ h1) ?_
 refine Z6 ?_
 refine aH ?_
 refine Z4 ?_
 revert H; refine cs (fun c1 H => ?_) fun c1 H => ?_
 revert H; refine B7 fun y2 h2 H => ?_
 refine lI 15 rfl (uU h2) ?_
 refine lI 8 rfl (uU h2) ?_
 refine lI 19 rfl (uU h2) ?_
 revert H; refine bs fun y3 h3 H => ?_
 refine Tc (aIN _ _ _ _ _ h3) ?_
 refine Z4 ?_
 cases H
 refine aI [] (by decide) ?_
 exact gJ rfl (bQ rfl) (bQ rfl) rfl
 refine Z6 ?_
 cases H
 refine aI [] (by decide) ?_
 exact gJ rfl (bQ rfl) (bQ rfl) rfl
def mW (a0 : List Int) (a1 : List Int) : Nat → Int → Option ((Unit) ⊕ (Bool))
| 0, _ => none
| k + 1, x2 =>
 if x2 < (a0.length : Int) then
  (idx a0 x2).bind fun y1 =>
  (idx a1 x2).bind fun y2 =>
  if y1 ≠ y2 then
   (some false).bind fun r => some (Sum.inr r)
  else
   (chk (x2 + 1)).bind fun z1 =>
   mW a0 a1 k z1
 else
  some (Sum.inl ())
def sA (fuel : Nat) (a0 : List Int) (a1 : List Int) : Option (Bool) :=
 if (a0.length : Int) ≠ (a1.length : Int) then
  some false
 else
  (mW a0 a1 fuel 0).bind fun o => match o with
  | Sum.inr r => some r
  | Sum.inl _ =>
  some true
theorem vU (fuel : Nat)  (a0 : List Int) (a1 : List Int) (r : Bool) (H : sA fuel a0 a1 = some r) : FnS Try.prog 48 [fSl (aB .i64) a0, fSl (aB .i64) a1] [] (aG r) (fun _ => []) := by
 unfold sA at H
 refine bF Try.func48 rfl Try.ntmps48 rfl (fun β => ?_)
 refine Z3 ?_
 refine aH ?_
 revert H; refine I7 (fun c1 H => ?_) fun c1 H => ?_
 refine Z5 ?_
 cases H
 exact To
 revert H; refine B3 fun o1 H Hr1 => ?_
 refine aX (ι := Unit) (fun i => o1 = Sum.inl ()) (fun i => []) (fun i => []) ?_ ?_
 refine Z4 ?_
 refine Tl (ι := Nat × Int) (fun i => mW a0 a1 i.1 i.2 = _) (fun i => i.1) (fun i => [(0, fSl (aB .i64) a0), (1, fSl (aB .i64) a1), (5, aA .i64 i.2)]) (fun i => []) (fuel, 0) H ?_
 clear H; rintro ⟨k1, x2⟩ H
 replace H : mW a0 a1 k1 x2 = _ := H
 try dsimp only
 obtain _ | k1 := k1
 rw [mW] at H; cases H
 rw [mW] at H
 refine aH ?_
 revert H; refine I6 (fun c2 H => ?_) fun c2 H => ?_
 refine Z3 ?_
 refine aH ?_
 refine Z1 ?_
 refine aH ?_
 revert H; refine bs fun y1 h1 H => ?_
 revert H; refine bs fun y2 h2 H => ?_
 apply bI (ods := [_, _, _, _, _, _, _, _, _]) 9 0 0 bH rfl rfl rfl
 refine ND ?_
 refine M8 ?_
 intros
 refine M1 ?_
 intros
 revert H; refine I2 (fun c3 H => ?_) fun c3 H => ?_
 revert H; refine B10 fun r1 H e1 => ?_
 cases e1; cases Hr1
 cases H
 exact To
 revert H; refine B6 fun z1 h3 H => ?_
 refine Z3 ?_
 exact Tm ((k1, z1)) ⟨H, ls⟩
 exact fk
 kernel_rfl
 refine Z6 ?_
 exact Tm (()) (ij H)
 clear H; intro i hi; subst o1; have H := Hr1; clear Hr1; try dsimp only at H
 try dsimp only
 refine Z4 ?_
 cases H
 exact To
def lA (fuel : Nat) (a0 : List UsageDef) (a1 : List UsageDef) (x2 : Int) : Nat → Int → Option ((Unit) ⊕ ((Unit) ⊕ (Bool)))
| 0, _ => none
| k + 1, x4 =>
 (idx a0 x2).bind fun y9 =>
 if x4 < (y9.Args.length : Int) then
  (idx a0 x2).bind fun y10 =>
  (idx y10.Args x4).bind fun y11 =>
  (idx a1 x2).bind fun y12 =>
  (idx y12.Args x4).bind fun y13 =>
  (sA fuel y11 y13).bind fun y14 =>
  bif y14 then
   (chk (x4 + 1)).bind fun z1 =>
   lA fuel a0 a1 x2 k z1
  else
   ((some false).bind fun r => some (Sum.inr r)).bind fun r => some (Sum.inr r)
 else
  some (Sum.inl ())
def lC (fuel : Nat) (a0 : List UsageDef) (a1 : List UsageDef) : Nat → Int → Option ((Unit) ⊕ (Bool))
| 0, _ => none
| k + 1, x2 =>
 if x2 < (a0.length : Int) then
  ((idx a0 x2).bind fun y1 =>
  (idx a1 x2).bind fun y2 =>
  (sA fuel y1.Chans y2.Chans).bind fun y3 =>
  bif !y3 then
   ((some false).bind fun r => some (Sum.inr r)).bind fun r => some (Sum.inr r)
  else
   (idx a0 x2).bind fun y4 =>
   (idx a1 x2).bind fun y5 =>
   (sA fuel y4.Rules y5.Rules).bind fun y6 =>
   bif !y6 then
    ((some false).bind fun r => some (Sum.inr r)).bind fun r => some (Sum.inr r)
   else
    (idx a0 x2).bind fun y7 =>
    (idx a1 x2).bind fun y8 =>
    if (y7.Args.length : Int) ≠ (y8.Args.length : Int) then
     ((some false).bind fun r => some (Sum.inr r)).bind fun r => some (Sum.inr r)
    else
     lA fuel a0 a1 x2 fuel 0).bind fun o => match o with
  | Sum.inr r => some r
  | Sum.inl _ =>
  (chk (x2 + 1)).bind fun z2 =>
  lC fuel a0 a1 k z2
 else
  some (Sum.inl ())
def vO (fuel : Nat) (a0 : List UsageDef) (a1 : List UsageDef) : Option (Bool) :=
 if (a0.length : Int) ≠ (a1.length : Int) then
  some false
 else
  (lC fuel a0 a1 fuel 0).bind fun o => match o with
  | Sum.inr r => some r
  | Sum.inl _ =>
  some true
theorem aGj (fuel : Nat)  (a0 : List UsageDef) (a1 : List UsageDef) (r : Bool) (H : vO fuel a0 a1 = some r) : FnS Try.prog 20 [fSl aZ a0, fSl aZ a1] [] (aG r) (fun _ => []) := by
 unfold vO at H
 refine bF Try.func20 rfl Try.ntmps20 rfl (fun β => ?_)
 refine Z3 ?_
 refine aH ?_
 revert H; refine I7 (fun c1 H => ?_) fun c1 H => ?_
 refine dC (has rfl) c1 ?_
 refine Z4 ?_
 cases H
 exact To
 refine dB (has rfl) c1 ?_
 revert H; refine B2 fun o1 H Hr1 => ?_
 refine aX (ι := Unit) (fun i => o1 = Sum.inl ()) (fun i => []) (fun i => []) ?_ ?_
 refine Z4 ?_
 refine Tl (ι := Nat × Int) (fun i => lC fuel a0 a1 i.1 i.2 = _) (fun i => i.1) (fun i => [(0, fSl aZ a0), (1, fSl aZ a1), (5, aA .i64 i.2)]) (fun i => []) (fuel, 0) H ?_
 clear H; rintro ⟨k1, x2⟩ H
 replace H : lC fuel a0 a1 k1 x2 = _ := H
 try dsimp only
 obtain _ | k1 := k1
 rw [lC] at H; cases H
 rw [lC] at H
 refine aH ?_
 revert H; refine I6 (fun c2 H => ?_) fun c2 H => ?_
 refine dC (has rfl) c2 ?_
 revert H; refine B2 fun o2 H Hr2 => ?_
 refine aX (ι := Unit) (fun i => o2 = Sum.inl ()) (fun i => [(0, fSl aZ a0), (1, fSl aZ a1), (5, aA .i64 x2)]) (fun i => []) ?_ ?_
 refine Z1 ?_
 refine aH ?_
 refine aH ?_
 revert H; refine bs fun y1 h1 H => ?_
 revert H; refine bs fun y2 h2 H => ?_
 revert H; refine bs fun y3 h3 H => ?_
 revert H; refine cs (fun c3 H => ?_) fun c3 H => ?_
 apply bI (ods := [_, _, _, _, _, _, _, _, _, _, _, _, _, _, _, _, _, _, _, _, _, _, _, _, _, _, _, _, _, _, _, _, _, _, _, _, _, _, _, _, _]) 41 0 0 bH rfl rfl rfl
 refine ND ?_
 refine M2 ?_
 intros
 refine My (cD rfl hh hh (el rfl) h1) fun _ => ?_
 refine M4 ?_
 intros
 refine My (cD rfl hh hh (el rfl) h2) fun _ => ?_
 refine M2 ?_
 intros
 refine Nc (vU _ _ _ _ h3) fun _ => ?_
 refine M2 ?_
 intros
 refine Mt c3 fun _ => ?_
 refine Mt c3 fun _ => ?_
 refine Mt c3 fun _ => ?_
 refine Mt c3 fun _ => ?_
 refine Mt c3 fun _ => ?_
 refine Mt c3 fun _ => ?_
 refine Mt c3 fun _ => ?_
 refine Mt c3 fun _ => ?_
 refine Mt c3 fun _ => ?_
 refine Mt c3 fun _ => ?_
 refine Mt c3 fun _ => ?_
 refine Mt c3 fun _ => ?_
 refine My (dF rfl hh c3 hh) fun _ => ?_
 refine M8 ?_
 intros
 refine M7 ?_
 intros
 revert H; refine B9 fun r1 H e1 => ?_
 cases e1; cases Hr2
 revert H; refine B3 fun r2 H e2 => ?_
 cases e2; cases Hr1
 cases H
 exact To
 exact fk
 kernel_rfl
 revert H; refine bs fun y4 h4 H => ?_
 revert H; refine bs fun y5 h5 H => ?_
 revert H; refine bs fun y6 h6 H => ?_
 revert H; refine cs (fun c4 H => ?_) fun c4 H => ?_
 apply bI (ods := [_, _, _, _, _, _, _, _, _, _, _, _, _, _, _, _, _, _, _, _, _, _, _, _, _, _, _, _, _, _, _, _, _, _, _, _, _, _, _, _, _]) 41 0 0 bH rfl rfl rfl
 refine ND ?_
 refine M2 ?_
 intros
 refine My (cD rfl hh hh (el rfl) h1) fun _ => ?_
 refine M4 ?_
 intros
 refine My (cD rfl hh hh (el rfl) h2) fun _ => ?_
 refine M2 ?_
 intros
 refine Nc (vU _ _ _ _ h3) fun _ => ?_
 refine M2 ?_
 intros
 refine Mg c3 (bV rfl hh) fun _ => ?_
 refine Mg c3 (bV rfl hh) fun _ => ?_
 refine Mg c3 (cD rfl hh hh (el rfl) h4) fun _ => ?_
 refine Mg c3 (fU (t' := (tSl (aB .i64))) (z := y4.Rules) rfl hh (fa rfl) rfl) fun _ => ?_
 refine Mg c3 (fP rfl hh (sc rfl) rfl) fun _ => ?_
 refine Mg c3 (bV rfl hh) fun _ => ?_
 refine Mg c3 (bV rfl hh) fun _ => ?_
 refine Mg c3 (cD rfl hh hh (el rfl) h5) fun _ => ?_
 refine Mg c3 (fU (t' := (tSl (aB .i64))) (z := y5.Rules) rfl hh (fa rfl) rfl) fun _ => ?_
 refine Mg c3 (fP rfl hh (sc rfl) rfl) fun _ => ?_
 refine Nc (vU _ _ _ _ h6) fun _ => ?_
 refine Mg c3 (jP rfl hh) fun _ => ?_
 refine My (cJ rfl hh c3 hh) fun _ => ?_
 refine M1 ?_
 intros
 refine Mt c4 fun _ => ?_
 refine Mt c4 fun _ => ?_
 refine Mt c4 fun _ => ?_
 refine Mt c4 fun _ => ?_
 refine Mt c4 fun _ => ?_
 refine Mt c4 fun _ => ?_
 refine Mt c4 fun _ => ?_
 refine Mt c4 fun _ => ?_
 refine Mt c4 fun _ => ?_
 refine Mt c4 fun _ => ?_
 refine Mt c4 fun _ => ?_
 refine Mt c4 fun _ => ?_
 refine Mt c4 fun _ => ?_
 refine My (dF rfl hh c4 hh) fun _ => ?_
 revert H; refine B9 fun r3 H e3 => ?_
 cases e3; cases Hr2
 revert H; refine B3 fun r4 H e4 => ?_
 cases e4; cases Hr1
 cases H
 exact To
 exact fk
 kernel_rfl
 revert H; refine bs fun y7 h7 H => ?_
 revert H; refine bs fun y8 h8 H => ?_
 apply bI (ods := [_, _, _, _, _, _, _, _, _, _, _, _, _, _, _, _, _, _, _, _, _, _, _, _, _, _, _, _, _, _, _, _, _, _, _, _, _, _, _, _, _]) 41 0 0 bH rfl rfl rfl
 refine ND ?_
 refine M2 ?_
 intros
 refine My (cD rfl hh hh (el rfl) h1) fun _ => ?_
 refine M4 ?_
 intros
 refine My (cD rfl hh hh (el rfl) h2) fun _ => ?_
 refine M2 ?_
 intros
 refine Nc (vU _ _ _ _ h3) fun _ => ?_
 refine M2 ?_
 intros
 refine Mg c3 (bV rfl hh) fun _ => ?_
 refine Mg c3 (bV rfl hh) fun _ => ?_
 refine Mg c3 (cD rfl hh hh (el rfl) h4) fun _ => ?_
 refine Mg c3 (fU (t' := (tSl (aB .i64))) (z := y4.Rules) rfl hh (fa rfl) rfl) fun _ => ?_
 refine Mg c3 (fP rfl hh (sc rfl) rfl) fun _ => ?_
 refine Mg c3 (bV rfl hh) fun _ => ?_
 refine Mg c3 (bV rfl hh) fun _ => ?_
 refine Mg c3 (cD rfl hh hh (el rfl) h5) fun _ => ?_
 refine Mg c3 (fU (t' := (tSl (aB .i64))) (z := y5.Rules) rfl hh (fa rfl) rfl) fun _ => ?_
 refine Mg c3 (fP rfl hh (sc rfl) rfl) fun _ => ?_
 refine Nc (vU _ _ _ _ h6) fun _ => ?_
 refine Mg c3 (jP rfl hh) fun _ => ?_
 refine My (cJ rfl hh c3 hh) fun _ => ?_
 refine M1 ?_
 intros
 refine Mg c4 (bV rfl hh) fun _ => ?_
 refine Mg c4 (bV rfl hh) fun _ => ?_
 refine Mg c4 (cD rfl hh hh (el rfl) h7) fun _ => ?_
 refine Mg c4 (fU (t' := (tSl (tSl (aB .i64)))) (z := y7.Args) rfl hh (fa rfl) rfl) fun _ => ?_
 refine Mg c4 (fP rfl hh (sc rfl) rfl) fun _ => ?_
 refine Mg c4 (fS rfl hh (us rfl)) fun _ => ?_
 refine Mg c4 (bV rfl hh) fun _ => ?_
 refine Mg c4 (bV rfl hh) fun _ => ?_
 refine Mg c4 (cD rfl hh hh (el rfl) h8) fun _ => ?_
 refine Mg c4 (fU (t' := (tSl (tSl (aB .i64)))) (z := y8.Args) rfl hh (fa rfl) rfl) fun _ => ?_
 refine Mg c4 (fP rfl hh (sc rfl) rfl) fun _ => ?_
 refine Mg c4 (fS rfl hh (us rfl)) fun _ => ?_
 refine Mg c4 (rM rfl hh hh) fun _ => ?_
 refine My (cJ rfl hh c4 hh) fun _ => ?_
 revert H; refine I2 (fun c5 H => ?_) fun c5 H => ?_
 refine dC (has rfl) c5 ?_
 revert H; refine B6 fun r5 H e5 => ?_
 cases e5; cases Hr2
 revert H; refine B3 fun r6 H e6 => ?_
 cases e6; cases Hr1
 cases H
 exact To
 refine dB (has rfl) c5 ?_
 refine Z6 ?_
 refine Tl (ι := Nat × Int) (fun i => lA fuel a0 a1 x2 i.1 i.2 = _) (fun i => i.1) (fun i => [(0, fSl aZ a0), (1, fSl aZ a1), (5, aA .i64 x2), (6, aA .i64 i.2)]) (fun i => []) (fuel, 0) H ?_
 clear H; rintro ⟨k2, x4⟩ H
 replace H : lA fuel a0 a1 x2 k2 x4 = _ := H
 try dsimp only
 obtain _ | k2 := k2
 rw [lA] at H; cases H
 rw [lA] at H
 refine aH ?_
 revert H; refine B4 fun y9 h9 H => ?_
 refine Yy (cD rfl hh hh (el rfl) h9) ?_
 revert H; refine I5 (fun c6 H => ?_) fun c6 H => ?_
 refine dC (has rfl) c6 ?_
 refine Z2 ?_
 refine aH ?_
 refine Z1 ?_
 refine aH ?_
 revert H; refine bs fun y10 h10 H => ?_
 revert H; refine bs fun y11 h11 H => ?_
 revert H; refine bs fun y12 h12 H => ?_
 revert H; refine bs fun y13 h13 H => ?_
 revert H; refine bs fun y14 h14 H => ?_
 apply bI (ods := [_, _, _, _, _, _, _, _, _, _, _, _, _, _, _, _, _, _]) 18 0 0 bH rfl rfl rfl
 refine ND ?_
 refine M2 ?_
 intros
 refine My (cD rfl hh hh (el rfl) h10) fun _ => ?_
 refine M3 ?_
 intros
 refine My (cD rfl hh hh (el rfl) h11) fun _ => ?_
 refine M3 ?_
 intros
 refine My (cD rfl hh hh (el rfl) h12) fun _ => ?_
 refine M3 ?_
 intros
 refine My (cD rfl hh hh (el rfl) h13) fun _ => ?_
 refine M1 ?_
 intros
 refine Nc (vU _ _ _ _ h14) fun _ => ?_
 refine M1 ?_
 intros
 refine Z2 ?_
 revert H; refine cs (fun c7 H => ?_) fun c7 H => ?_
 refine dB (has rfl) (oT c7) ?_
 revert H; refine B5 fun z1 h15 H => ?_
 refine Yy (fO rfl hh hh h15) ?_
 refine Z2 ?_
 exact Tm ((k2, z1)) ⟨H, ls⟩
 refine dC (has rfl) (pC c7) ?_
 revert H; refine B10 fun r7 H e7 => ?_
 cases e7; cases Hr2
 revert H; refine B3 fun r8 H e8 => ?_
 cases e8; cases Hr1
 cases H
 exact To
 exact fk
 kernel_rfl
 refine dB (has rfl) c6 ?_
 refine Z6 ?_
 exact Tm (()) (ij H)
 exact fk
 kernel_rfl
 clear H; intro i hi; subst o2; have H := Hr2; clear Hr2; try dsimp only at H
 try dsimp only
 revert H; refine B2 fun z2 h16 H => ?_
 refine Yy (fO rfl hh hh h16) ?_
 refine Z2 ?_
 exact Tm ((k1, z2)) ⟨H, ls⟩
 refine dB (has rfl) c2 ?_
 refine Z5 ?_
 exact Tm (()) (ij H)
 clear H; intro i hi; subst o1; have H := Hr1; clear Hr1; try dsimp only at H
 try dsimp only
 refine Z4 ?_
 cases H
 exact To
def mR (fuel : Nat)  : Option (Bool) :=
 (aBX fuel).bind fun y1 =>
 (qX fuel (⟨y1.Free, y1.Nodes, y1.Defs, y1.Main⟩ : ScopeProg)).bind fun y2 =>
 (rR).bind fun y3 =>
 (pK fuel (⟨y1.Free, y1.Nodes, y1.Defs, y1.Main⟩ : ScopeProg) y3).bind fun y4 =>
 (rR).bind fun y5 =>
 (aCi fuel (⟨y1.Free, y1.Nodes, y1.Defs, y1.Main⟩ : ScopeProg) y5 7 1).bind fun y6 =>
 (aCK fuel (⟨y1.Free, y1.Nodes, y1.Defs, y1.Main⟩ : ScopeProg) 5 3).bind fun y7 =>
 if y2.2 ≠ 0 then
  some false
 else
  if y4.2 ≠ 0 then
   some false
  else
   if y6.2 ≠ 0 then
    some false
   else
    if y7.2 ≠ 0 then
     some false
    else
     bif !y4.1 then
      some false
     else
      (rR).bind fun y8 =>
      (vO fuel y2.1 y8).bind fun y9 =>
      bif !y9 then
       some false
      else
       if y6.1 ≠ 4 then
        some false
       else
        if y7.1 ≠ 1 then
         some false
        else
         (rR).bind fun y10 =>
         (idx y10 0).bind fun y11 =>
         (idx y11.Args 2).bind fun y12 =>
         (idx y12 0).bind fun y13 =>
         (pK fuel (⟨y1.Free, y1.Nodes, y1.Defs, y1.Main⟩ : ScopeProg) (y10.set ((0 : Int).toNat) ({ y11 with Args := y11.Args.set ((2 : Int).toNat) (y12.set ((0 : Int).toNat) 3) }))).bind fun y14 =>
         (idx (y10.set ((0 : Int).toNat) ({ y11 with Args := y11.Args.set ((2 : Int).toNat) (y12.set ((0 : Int).toNat) 3) })) 0).bind fun y15 =>
         (idx y15.Args 2).bind fun y16 =>
         (idx y16 0).bind fun y17 =>
         (pK fuel (⟨y1.Free, y1.Nodes, y1.Defs, y1.Main⟩ : ScopeProg) ((y10.set ((0 : Int).toNat) ({ y11 with Args := y11.Args.set ((2 : Int).toNat) (y12.set ((0 : Int).toNat) 3) })).set ((0 : Int).toNat) ({ y15 with Args := y15.Args.set ((2 : Int).toNat) (y16.set ((0 : Int).toNat) 2) }))).bind fun y18 =>
         (if y14.2 = 0 then
          bif !y14.1 then
           some (decide (y18.2 = 2))
          else
           some false
         else
          some false).bind fun x1 =>
         some x1
theorem wZ (fuel : Nat)   (r : Bool) (H : mR fuel = some r) : FnS Try.prog 7 [] [] (aG r) (fun _ => []) := by
 unfold mR at H
 refine bF Try.func7 rfl Try.ntmps7 rfl (fun β => ?_)
 revert H; refine B4 fun y1 h1 H => ?_
 refine Tc (aG6 _ _ h1) ?_
 refine aT trivial rfl rfl (cN rfl aFp rfl) (fun b1 => ?_)
 refine dP (φs' := [fSl aN y1.Free, fSl aM y1.Nodes, fSl aK y1.Defs, aA .i64 y1.Main]) trivial rfl rfl (has rfl) (has rfl) (aO (bC) (aO (bC) (aO (bC) (aO (aD trivial) bY)))) (sz rfl) rfl rfl rfl ?_
 revert H; refine B3 fun y2 h2 H => ?_
 refine gU trivial rfl rfl rfl (has rfl) (aJ.cons (has rfl) aJ.nil) rfl (cb rfl) (aFX fuel (⟨y1.Free, y1.Nodes, y1.Defs, y1.Main⟩ : ScopeProg) y2 h2) rfl ?_
 refine Z6 ?_
 refine aH ?_
 revert H; refine bs fun y3 h3 H => ?_
 revert H; refine bs fun y4 h4 H => ?_
 apply bI (ods := [_, _, _, _, _, _, _, _]) 8 0 1 bH rfl rfl rfl
 refine ND ?_
 refine M1 ?_
 intros
 refine aCA (od := odC [] true (fSl aZ y3) []) (Φ := fSl aZ y3) rfl (fun _ => rfl) trivial rfl rfl (has rfl) aJ.nil rfl (cb rfl) (aFt y3 h3) (fun _ => ?_)
 refine Nc (wK _ _ _ _ h4) fun _ => ?_
 refine M5 ?_
 intros
 refine Z2 ?_
 refine aH ?_
 revert H; refine bs fun y5 h5 H => ?_
 revert H; refine bs fun y6 h6 H => ?_
 apply bI (ods := [_, _, _, _, _, _, _, _]) 8 0 1 bH rfl rfl rfl
 refine ND ?_
 refine M1 ?_
 intros
 refine aCA (od := odC [] true (fSl aZ y5) []) (Φ := fSl aZ y5) rfl (fun _ => rfl) trivial rfl rfl (has rfl) aJ.nil rfl (cb rfl) (aFt y5 h5) (fun _ => ?_)
 refine Nc (aGC _ _ _ _ _ _ h6) fun _ => ?_
 refine M5 ?_
 intros
 revert H; refine B4 fun y7 h7 H => ?_
 refine Tc (aHi _ _ _ _ _ h7) ?_
 refine Z6 ?_
 refine aH ?_
 revert H; refine I4 (fun c1 H => ?_) fun c1 H => ?_
 refine Z12 ?_
 refine Z12 ?_
 refine Z11 ?_
 cases H
 refine aI [] (by decide) ?_
 exact To
 revert H; refine I4 (fun c2 H => ?_) fun c2 H => ?_
 refine Z12 ?_
 refine Z12 ?_
 refine Z7 ?_
 cases H
 refine aI [] (by decide) ?_
 exact To
 revert H; refine I4 (fun c3 H => ?_) fun c3 H => ?_
 refine Z12 ?_
 refine Z12 ?_
 refine Z3 ?_
 cases H
 refine aI [] (by decide) ?_
 exact To
 revert H; refine I4 (fun c4 H => ?_) fun c4 H => ?_
 refine Z12 ?_
 refine Z11 ?_
 cases H
 refine aI [] (by decide) ?_
 exact To
 refine Z4 ?_
 revert H; refine cs (fun c5 H => ?_) fun c5 H => ?_
 refine Z12 ?_
 refine Z7 ?_
 cases H
 refine aI [] (by decide) ?_
 exact To
 revert H; refine B1 fun y8 h8 H => ?_
 refine yX ⟨_, _, rfl, rfl, c5⟩ rfl rfl rfl (has rfl) aJ.nil rfl (cb rfl) (aAY y8 h8) (Δi := []) rfl (fun v1 => ?_)
 dsimp only [List.append, List.cons_append, List.nil_append]
 refine eA 0 rfl (fun hc_v1 => ?_)
 revert H; refine bs fun y9 h9 H => ?_
 refine aAi (Δl := [bU v1 40 dJ y8]) (Δi := []) (Δo := []) [(v1, fSl aZ y8)] ⟨_, _, rfl, rfl, c5⟩ rfl rfl rfl (has rfl) (eH.cons rfl (wA Ent.rfl) (eH.cons rfl (uA 0 rfl) eH.nil)) (cb rfl) (aGj fuel y2.1 y8 y9 h9) wR (fun _ h => nomatch h) (gE.cons (nR rfl pE) gE.nil) rfl ?_
 dsimp only [List.append, List.cons_append, List.nil_append]
 refine Z3 ?_
 revert H; refine cs (fun c6 H => ?_) fun c6 H => ?_
 refine Z12 ?_
 refine Z1 ?_
 cases H
 refine aI [] (by decide) ?_
 exact To
 revert H; refine I4 (fun c7 H => ?_) fun c7 H => ?_
 refine Z9 ?_
 cases H
 refine aI [] (by decide) ?_
 exact To
 revert H; refine I4 (fun c8 H => ?_) fun c8 H => ?_
 refine Z5 ?_
 cases H
 refine aI [] (by decide) ?_
 exact To
 revert H; refine B4 fun y10 h10 H => ?_
 refine yX trivial rfl rfl rfl (has rfl) aJ.nil rfl (cb rfl) (aAY y10 h10) (Δi := []) rfl (fun v2 => ?_)
 dsimp only [List.append, List.cons_append, List.nil_append]
 refine eA 0 rfl (fun hc_v2 => ?_)
 revert H; refine B4 fun y11 h11 H => ?_
 refine Yo 0 rfl (lV rfl hh hh (el rfl) h11) ?_
 refine Yy (zX 2 rfl hh (fa rfl) rfl) ?_
 refine rK (i := ((0 : Int).toNat)) (k := 2) (y := y11) (f := (fun v => bU v 37 (cL 41 (aB .i64)) y11.Args)) (bN h11) rfl (fun v3 => ?_)
 refine eA 0 rfl (fun hc_v3 => ?_)
 refine Yo 1 rfl (lY rfl rfl hh (sc rfl) (bN h11) rfl) ?_
 revert H; refine bs fun y12 h12 H => ?_
 refine Yo 0 rfl (lV rfl hh hh (el rfl) h12) ?_
 refine rK (i := ((2 : Int).toNat)) (k := 0) (y := y12) (f := (fun v => aE v 41 (aB .i64) y12)) (bN h12) rfl (fun v4 => ?_)
 refine aW 0 rfl (fun hc_v4 => ?_)
 refine Yo 1 rfl (lY rfl rfl hh (sc rfl) (bN h12) rfl) ?_
 revert H; refine bs fun y13 h13 H => ?_
 refine Z1 ?_
 refine uB (z' := 3) trivial rfl rfl rfl (has rfl) (has rfl) (aD trivial) (sz rfl) (bN h13) rfl rfl ?_
 refine Z4 ?_
 refine qG (o := (cL 41 (aB .i64))) (i := ((2 : Int).toNat)) (k := 0) (y := y12) (y' := y12.set ((0 : Int).toNat) 3) (f := (fun v => aE v 41 (aB .i64) (y12.set ((0 : Int).toNat) 3))) (hf := (fun _ => eB)) (bN h12) rfl rfl ?_
 refine qG (o := dJ) (i := ((0 : Int).toNat)) (k := 2) (y := y11) (y' := { y11 with Args := y11.Args.set ((2 : Int).toNat) (y12.set ((0 : Int).toNat) 3) }) (f := (fun v => bU v 37 (cL 41 (aB .i64)) (y11.Args.set ((2 : Int).toNat) (y12.set ((0 : Int).toNat) 3)))) (hf := (fun _ => lQ)) (bN h11) rfl rfl ?_
 revert H; refine bs fun y14 h14 H => ?_
 refine aAi (Δl := [bU v2 40 dJ (y10.set ((0 : Int).toNat) ({ y11 with Args := y11.Args.set ((2 : Int).toNat) (y12.set ((0 : Int).toNat) 3) }))]) (Δi := []) (Δo := []) [(v2, fSl aZ (y10.set ((0 : Int).toNat) ({ y11 with Args := y11.Args.set ((2 : Int).toNat) (y12.set ((0 : Int).toNat) 3) })))] trivial rfl rfl rfl (has rfl) (eH.cons rfl (wA Ent.rfl) (eH.cons rfl (uA 0 rfl) eH.nil)) (cb rfl) (wK fuel (⟨y1.Free, y1.Nodes, y1.Defs, y1.Main⟩ : ScopeProg) (y10.set ((0 : Int).toNat) ({ y11 with Args := y11.Args.set ((2 : Int).toNat) (y12.set ((0 : Int).toNat) 3) })) y14 h14) (aFs (by intro φ h; simp only [List.mem_cons, List.not_mem_nil, or_false] at h; rcases h with rfl | rfl <;> exact wR)) (fun _ h => nomatch h) (gE.cons (nR rfl pE) gE.nil) rfl ?_
 dsimp only [List.append, List.cons_append, List.nil_append]
 revert H; refine B8 fun y15 h15 H => ?_
 refine Yo 0 rfl (lV rfl hh hh (el rfl) h15) ?_
 refine Yy (zX 2 rfl hh (fa rfl) rfl) ?_
 refine rK (i := ((0 : Int).toNat)) (k := 2) (y := y15) (f := (fun v => bU v 37 (cL 41 (aB .i64)) y15.Args)) (bN h15) rfl (fun v5 => ?_)
 refine eA 0 rfl (fun hc_v5 => ?_)
 refine Yo 1 rfl (lY rfl rfl hh (sc rfl) (bN h15) rfl) ?_
 revert H; refine bs fun y16 h16 H => ?_
 refine Yo 0 rfl (lV rfl hh hh (el rfl) h16) ?_
 refine rK (i := ((2 : Int).toNat)) (k := 0) (y := y16) (f := (fun v => aE v 41 (aB .i64) y16)) (bN h16) rfl (fun v6 => ?_)
 refine aW 0 rfl (fun hc_v6 => ?_)
 refine Yo 1 rfl (lY rfl rfl hh (sc rfl) (bN h16) rfl) ?_
 revert H; refine bs fun y17 h17 H => ?_
 refine Z1 ?_
 refine uB (z' := 2) trivial rfl rfl rfl (has rfl) (has rfl) (aD trivial) (sz rfl) (bN h17) rfl rfl ?_
 refine Z4 ?_
 refine qG (o := (cL 41 (aB .i64))) (i := ((2 : Int).toNat)) (k := 0) (y := y16) (y' := y16.set ((0 : Int).toNat) 2) (f := (fun v => aE v 41 (aB .i64) (y16.set ((0 : Int).toNat) 2))) (hf := (fun _ => eB)) (bN h16) rfl rfl ?_
 refine qG (o := dJ) (i := ((0 : Int).toNat)) (k := 2) (y := y15) (y' := { y15 with Args := y15.Args.set ((2 : Int).toNat) (y16.set ((0 : Int).toNat) 2) }) (f := (fun v => bU v 37 (cL 41 (aB .i64)) (y15.Args.set ((2 : Int).toNat) (y16.set ((0 : Int).toNat) 2)))) (hf := (fun _ => lQ)) (bN h15) rfl rfl ?_
 revert H; refine bs fun y18 h18 H => ?_
 refine aAi (Δl := [bU v2 40 dJ ((y10.set ((0 : Int).toNat) ({ y11 with Args := y11.Args.set ((2 : Int).toNat) (y12.set ((0 : Int).toNat) 3) })).set ((0 : Int).toNat) ({ y15 with Args := y15.Args.set ((2 : Int).toNat) (y16.set ((0 : Int).toNat) 2) }))]) (Δi := []) (Δo := []) [(v2, fSl aZ ((y10.set ((0 : Int).toNat) ({ y11 with Args := y11.Args.set ((2 : Int).toNat) (y12.set ((0 : Int).toNat) 3) })).set ((0 : Int).toNat) ({ y15 with Args := y15.Args.set ((2 : Int).toNat) (y16.set ((0 : Int).toNat) 2) })))] trivial rfl rfl rfl (has rfl) (eH.cons rfl (wA Ent.rfl) (eH.cons rfl (uA 0 rfl) eH.nil)) (cb rfl) (wK fuel (⟨y1.Free, y1.Nodes, y1.Defs, y1.Main⟩ : ScopeProg) ((y10.set ((0 : Int).toNat) ({ y11 with Args := y11.Args.set ((2 : Int).toNat) (y12.set ((0 : Int).toNat) 3) })).set ((0 : Int).toNat) ({ y15 with Args := y15.Args.set ((2 : Int).toNat) (y16.set ((0 : Int).toNat) 2) })) y18 h18) (aFs (by intro φ h; simp only [List.mem_cons, List.not_mem_nil, or_false] at h; rcases h with rfl | rfl <;> exact wR)) (fun _ h => nomatch h) (gE.cons (nR rfl pE) gE.nil) rfl ?_
 dsimp only [List.append, List.cons_append, List.nil_append]
 revert H; refine B5 fun o1 H Hr1 => ?_
 refine aX (ι := Bool) (fun i => o1 = i) (fun i => [(0, aG i)]) (fun i => [aC b1 26 [fSl aN y1.Free, fSl aM y1.Nodes, fSl aK y1.Defs, aA .i64 y1.Main]]) ?_ ?_
 revert H; refine I4 (fun c9 H => ?_) fun c9 H => ?_
 refine Z4 ?_
 revert H; refine cs (fun c10 H => ?_) fun c10 H => ?_
 refine Z5 ?_
 refine aI [2] (by decide) ?_
 exact Tm (decide (y18.2 = 2)) (ij H)
 refine Z5 ?_
 refine aI [2] (by decide) ?_
 exact Tm (false) (ij H)
 refine Z9 ?_
 refine aI [2] (by decide) ?_
 exact Tm (false) (ij H)
 clear H; intro x1 hi; subst o1; have H := Hr1; clear Hr1; try dsimp only at H
 try dsimp only
 refine Z1 ?_
 cases H
 refine aI [] (by decide) ?_
 exact To
 exact fk
 kernel_rfl
 exact fk
 kernel_rfl
end Go.Proofs.Ytmnbfgeljmhekaa
set_option maxRecDepth 100000
set_option maxHeartbeats 2000000
namespace Go.Proofs.Ytmnbfgeljmhekaa
open Go.SX Go.SW Go.Dt
attribute [local irreducible] Code.wpIn wpListIn Exit.then Exit.inBlock
def nZ (a0 : List UsageDef) (a1 : List UsageDef) (a2 : UsageDef × UsageDef → Option Bool) : Nat → Int → Option ((Unit) ⊕ (Bool))
| 0, _ => none
| k + 1, x2 =>
 if x2 < (a0.length : Int) then
  (idx a0 x2).bind fun y1 =>
  (idx a1 x2).bind fun y2 =>
  (a2 ((⟨y1.Chans, y1.Rules, y1.Args⟩ : UsageDef), (⟨y2.Chans, y2.Rules, y2.Args⟩ : UsageDef))).bind fun y3 =>
  bif y3 then
   (chk (x2 + 1)).bind fun z1 =>
   nZ a0 a1 a2 k z1
  else
   (some false).bind fun r => some (Sum.inr r)
 else
  some (Sum.inl ())
def xR (fuel : Nat) (a0 : List UsageDef) (a1 : List UsageDef) (a2 : UsageDef × UsageDef → Option Bool) : Option (Bool) :=
 if (a0.length : Int) ≠ (a1.length : Int) then
  some false
 else
  (nZ a0 a1 a2 fuel 0).bind fun o => match o with
  | Sum.inr r => some r
  | Sum.inl _ =>
  some true
theorem aGk (fuel : Nat)  (a0 : List UsageDef) (a1 : List UsageDef) (a2 : UsageDef × UsageDef → Option Bool) (r : Bool) (H : xR fuel a0 a1 a2 = some r) : FnS Try.prog 32 [fSl aZ a0, fSl aZ a1, fFn Try.prog (fun (x : UsageDef × UsageDef) => [fSt aZ x.1, fSt aZ x.2]) (fun (r : Bool) => aG r) a2] [] (aG r) (fun _ => []) := by
 unfold xR at H
 refine bF Try.func32 rfl Try.ntmps32 rfl (fun β => ?_)
 refine Z3 ?_
 refine aH ?_
 revert H; refine I7 (fun c1 H => ?_) fun c1 H => ?_
 refine Z5 ?_
 cases H
 exact To
 revert H; refine B3 fun o1 H Hr1 => ?_
 refine aX (ι := Unit) (fun i => o1 = Sum.inl ()) (fun i => []) (fun i => []) ?_ ?_
 refine Z6 ?_
 refine Tl (ι := Nat × Int) (fun i => nZ a0 a1 a2 i.1 i.2 = _) (fun i => i.1) (fun i => [(1, fSl aZ a1), (2, fFn Try.prog (fun (x : UsageDef × UsageDef) => [fSt aZ x.1, fSt aZ x.2]) (fun (r : Bool) => aG r) a2), (15, fSl aZ a0), (16, aA .i64 (a0.length : Int)), (17, aA .i64 i.2)]) (fun i => []) (fuel, 0) H ?_
 clear H; rintro ⟨k1, x2⟩ H
 replace H : nZ a0 a1 a2 k1 x2 = _ := H
 try dsimp only
 obtain _ | k1 := k1
 rw [nZ] at H; cases H
 rw [nZ] at H
 refine Z3 ?_
 refine aH ?_
 revert H; refine is (fun c2 H => ?_) fun c2 H => ?_
 refine Z3 ?_
 refine aH ?_
 revert H; refine B3 fun y1 h1 H => ?_
 refine Z2 ?_
 refine aT trivial rfl rfl (cN rfl tR rfl) (fun b1 => ?_)
 refine Z1 ?_
 refine dP (φs' := [fSl (aB .i64) y1.Chans, fSl (aB .i64) y1.Rules, fSl (tSl (aB .i64)) y1.Args]) trivial rfl rfl (has rfl) (has rfl) (aO (bC) (aO (bC) (aO (bC) bY))) (sz rfl) rfl rfl rfl ?_
 revert H; refine B4 fun y2 h2 H => ?_
 refine Z2 ?_
 refine aT trivial rfl rfl (cN rfl tR rfl) (fun b2 => ?_)
 refine dP (φs' := [fSl (aB .i64) y2.Chans, fSl (aB .i64) y2.Rules, fSl (tSl (aB .i64)) y2.Args]) trivial rfl rfl (has rfl) (has rfl) (aO (bC) (aO (bC) (aO (bC) bY))) (sz rfl) rfl rfl rfl ?_
 revert H; refine B5 fun y3 h3 H => ?_
 refine uF ((⟨y1.Chans, y1.Rules, y1.Args⟩ : UsageDef), (⟨y2.Chans, y2.Rules, y2.Args⟩ : UsageDef)) trivial rfl rfl rfl (has rfl) (aJ.cons (has rfl) (aJ.cons (has rfl) aJ.nil)) h3 ?_
 refine Z2 ?_
 revert H; refine cs (fun c3 H => ?_) fun c3 H => ?_
 revert H; refine B5 fun z1 h4 H => ?_
 refine Z3 ?_
 refine aI [] (by decide) ?_
 exact Tm ((k1, z1)) ⟨H, ls⟩
 revert H; refine B10 fun r1 H e1 => ?_
 cases e1; cases Hr1
 cases H
 refine aI [] (by decide) ?_
 exact To
 refine Z6 ?_
 exact Tm (()) (ij H)
 clear H; intro i hi; subst o1; have H := Hr1; clear Hr1; try dsimp only at H
 try dsimp only
 refine Z4 ?_
 cases H
 exact To
def mC (a0 : List Int) (a1 : List Int) (a2 : Int × Int → Option Bool) : Nat → Int → Option ((Unit) ⊕ (Bool))
| 0, _ => none
| k + 1, x2 =>
 if x2 < (a0.length : Int) then
  (idx a0 x2).bind fun y1 =>
  (idx a1 x2).bind fun y2 =>
  (a2 (y1, y2)).bind fun y3 =>
  bif y3 then
   (chk (x2 + 1)).bind fun z1 =>
   mC a0 a1 a2 k z1
  else
   (some false).bind fun r => some (Sum.inr r)
 else
  some (Sum.inl ())
def wB (fuel : Nat) (a0 : List Int) (a1 : List Int) (a2 : Int × Int → Option Bool) : Option (Bool) :=
 if (a0.length : Int) ≠ (a1.length : Int) then
  some false
 else
  (mC a0 a1 a2 fuel 0).bind fun o => match o with
  | Sum.inr r => some r
  | Sum.inl _ =>
  some true
theorem aHf (fuel : Nat)  (a0 : List Int) (a1 : List Int) (a2 : Int × Int → Option Bool) (r : Bool) (H : wB fuel a0 a1 a2 = some r) : FnS Try.prog 58 [fSl (aB .i64) a0, fSl (aB .i64) a1, fFn Try.prog (fun (x : Int × Int) => [aA .i64 x.1, aA .i64 x.2]) (fun (r : Bool) => aG r) a2] [] (aG r) (fun _ => []) := by
 unfold wB at H
 refine bF Try.func58 rfl Try.ntmps58 rfl (fun β => ?_)
 refine Z3 ?_
 refine aH ?_
 revert H; refine I7 (fun c1 H => ?_) fun c1 H => ?_
 refine Z5 ?_
 cases H
 exact To
 revert H; refine B3 fun o1 H Hr1 => ?_
 refine aX (ι := Unit) (fun i => o1 = Sum.inl ()) (fun i => []) (fun i => []) ?_ ?_
 refine Z6 ?_
 refine Tl (ι := Nat × Int) (fun i => mC a0 a1 a2 i.1 i.2 = _) (fun i => i.1) (fun i => [(1, fSl (aB .i64) a1), (2, fFn Try.prog (fun (x : Int × Int) => [aA .i64 x.1, aA .i64 x.2]) (fun (r : Bool) => aG r) a2), (15, fSl (aB .i64) a0), (16, aA .i64 (a0.length : Int)), (17, aA .i64 i.2)]) (fun i => []) (fuel, 0) H ?_
 clear H; rintro ⟨k1, x2⟩ H
 replace H : mC a0 a1 a2 k1 x2 = _ := H
 try dsimp only
 obtain _ | k1 := k1
 rw [mC] at H; cases H
 rw [mC] at H
 refine Z3 ?_
 refine aH ?_
 revert H; refine is (fun c2 H => ?_) fun c2 H => ?_
 refine Z3 ?_
 refine aH ?_
 revert H; refine B3 fun y1 h1 H => ?_
 revert H; refine B8 fun y2 h2 H => ?_
 revert H; refine B8 fun y3 h3 H => ?_
 refine uF (y1, y2) trivial rfl rfl rfl (has rfl) (aJ.cons (has rfl) (aJ.cons (has rfl) aJ.nil)) h3 ?_
 refine Z2 ?_
 revert H; refine cs (fun c3 H => ?_) fun c3 H => ?_
 revert H; refine B5 fun z1 h4 H => ?_
 refine Z3 ?_
 exact Tm ((k1, z1)) ⟨H, ls⟩
 revert H; refine B10 fun r1 H e1 => ?_
 cases e1; cases Hr1
 cases H
 exact To
 refine Z6 ?_
 exact Tm (()) (ij H)
 clear H; intro i hi; subst o1; have H := Hr1; clear Hr1; try dsimp only at H
 try dsimp only
 refine Z4 ?_
 cases H
 exact To
def vR (a0 : Int) : Option (Int) :=
 if a0 = 1 then
  some 0
 else
  (if a0 = 2 then
   some (decide (a0 = 2))
  else
   some (decide (a0 = 3))).bind fun x1 =>
  bif x1 then
   some 1
  else
   some 1000
theorem aFB  (a0 : Int) (r : Int) (H : vR a0 = some r) : FnS Try.prog 60 [aA .i64 a0] [] (aA .i64 r) (fun _ => []) := by
 unfold vR at H
 refine bF Try.func60 rfl Try.ntmps60 rfl (fun β => ?_)
 refine Z3 ?_
 refine aH ?_
 revert H; refine I8 (fun c1 H => ?_) fun c1 H => ?_
 refine Z7 ?_
 cases H
 exact To
 revert H; refine B1 fun o1 H Hr1 => ?_
 refine aX (ι := Bool) (fun i => o1 = i) (fun i => [(6, aG i)]) (fun i => []) ?_ ?_
 revert H; refine I4 (fun c2 H => ?_) fun c2 H => ?_
 refine Z3 ?_
 exact Tm (decide (a0 = 2)) (ij H)
 refine Z5 ?_
 exact Tm (decide (a0 = 3)) (ij H)
 clear H; intro x1 hi; subst o1; have H := Hr1; clear Hr1; try dsimp only at H
 try dsimp only
 revert H; refine cs (fun c3 H => ?_) fun c3 H => ?_
 refine Z7 ?_
 cases H
 exact To
 refine Z8 ?_
 cases H
 exact To
def tI (a0 : Int) (a1 : Int) : Option (Bool) :=
 (vR a0).bind fun y1 =>
 (vR a1).bind fun y2 =>
 some (decide (y1 ≤ y2))
theorem aGY  (a0 : Int) (a1 : Int) (r : Bool) (H : tI a0 a1 = some r) : FnS Try.prog 59 [aA .i64 a0, aA .i64 a1] [] (aG r) (fun _ => []) := by
 unfold tI at H
 refine bF Try.func59 rfl Try.ntmps59 rfl (fun β => ?_)
 revert H; refine B5 fun y1 h1 H => ?_
 refine Tc (aFB _ _ h1) ?_
 revert H; refine B1 fun y2 h2 H => ?_
 refine Tc (aFB _ _ h2) ?_
 refine Z4 ?_
 cases H
 exact To
def pP (fuel : Nat) (a0 : List Int) (a1 : List Int) : Option (Bool) :=
 (wB fuel a0 a1 (fun x => tI x.1 x.2)).bind fun y1 =>
 some y1
theorem aCf (fuel : Nat)  (a0 : List Int) (a1 : List Int) (r : Bool) (H : pP fuel a0 a1 = some r) : FnS Try.prog 34 [fSl (aB .i64) a0, fSl (aB .i64) a1] [] (aG r) (fun _ => []) := by
 unfold pP at H
 refine bF Try.func34 rfl Try.ntmps34 rfl (fun β => ?_)
 revert H; refine B6 fun y1 h1 H => ?_
 refine gU trivial rfl rfl rfl (has rfl) (aJ.cons (has rfl) (aJ.cons (has rfl) (aJ.cons (dA rfl (mT (cb rfl) (fun x r hx => aGY x.1 x.2 r hx))) aJ.nil))) rfl (cb rfl) (aHf fuel a0 a1 (fun x => tI x.1 x.2) y1 h1) rfl ?_
 refine Z3 ?_
 cases H
 exact To
def oC (a0 : List (List Int)) (a1 : List (List Int)) (a2 : (List Int) × (List Int) → Option Bool) : Nat → Int → Option ((Unit) ⊕ (Bool))
| 0, _ => none
| k + 1, x2 =>
 if x2 < (a0.length : Int) then
  (idx a0 x2).bind fun y1 =>
  (idx a1 x2).bind fun y2 =>
  (a2 (y1, y2)).bind fun y3 =>
  bif y3 then
   (chk (x2 + 1)).bind fun z1 =>
   oC a0 a1 a2 k z1
  else
   (some false).bind fun r => some (Sum.inr r)
 else
  some (Sum.inl ())
def xV (fuel : Nat) (a0 : List (List Int)) (a1 : List (List Int)) (a2 : (List Int) × (List Int) → Option Bool) : Option (Bool) :=
 if (a0.length : Int) ≠ (a1.length : Int) then
  some false
 else
  (oC a0 a1 a2 fuel 0).bind fun o => match o with
  | Sum.inr r => some r
  | Sum.inl _ =>
  some true
theorem aIh (fuel : Nat)  (a0 : List (List Int)) (a1 : List (List Int)) (a2 : (List Int) × (List Int) → Option Bool) (r : Bool) (H : xV fuel a0 a1 a2 = some r) : FnS Try.prog 35 [fSl (tSl (aB .i64)) a0, fSl (tSl (aB .i64)) a1, fFn Try.prog (fun (x : (List Int) × (List Int)) => [fSl (aB .i64) x.1, fSl (aB .i64) x.2]) (fun (r : Bool) => aG r) a2] [] (aG r) (fun _ => []) := by
 unfold xV at H
 refine bF Try.func35 rfl Try.ntmps35 rfl (fun β => ?_)
 refine Z3 ?_
 refine aH ?_
 revert H; refine I7 (fun c1 H => ?_) fun c1 H => ?_
 refine Z5 ?_
 cases H
 exact To
 revert H; refine B3 fun o1 H Hr1 => ?_
 refine aX (ι := Unit) (fun i => o1 = Sum.inl ()) (fun i => []) (fun i => []) ?_ ?_
 refine Z6 ?_
 refine Tl (ι := Nat × Int) (fun i => oC a0 a1 a2 i.1 i.2 = _) (fun i => i.1) (fun i => [(1, fSl (tSl (aB .i64)) a1), (2, fFn Try.prog (fun (x : (List Int) × (List Int)) => [fSl (aB .i64) x.1, fSl (aB .i64) x.2]) (fun (r : Bool) => aG r) a2), (15, fSl (tSl (aB .i64)) a0), (16, aA .i64 (a0.length : Int)), (17, aA .i64 i.2)]) (fun i => []) (fuel, 0) H ?_
 clear H; rintro ⟨k1, x2⟩ H
 replace H : oC a0 a1 a2 k1 x2 = _ := H
 try dsimp only
 obtain _ | k1 := k1
 rw [oC] at H; cases H
 rw [oC] at H
 refine Z3 ?_
 refine aH ?_
 revert H; refine is (fun c2 H => ?_) fun c2 H => ?_
 refine Z3 ?_
 refine aH ?_
 revert H; refine B3 fun y1 h1 H => ?_
 revert H; refine B8 fun y2 h2 H => ?_
 revert H; refine B8 fun y3 h3 H => ?_
 refine uF (y1, y2) trivial rfl rfl rfl (has rfl) (aJ.cons (has rfl) (aJ.cons (has rfl) aJ.nil)) h3 ?_
 refine Z2 ?_
 revert H; refine cs (fun c3 H => ?_) fun c3 H => ?_
 revert H; refine B5 fun z1 h4 H => ?_
 refine Z3 ?_
 exact Tm ((k1, z1)) ⟨H, ls⟩
 revert H; refine B10 fun r1 H e1 => ?_
 cases e1; cases Hr1
 cases H
 exact To
 refine Z6 ?_
 exact Tm (()) (ij H)
 clear H; intro i hi; subst o1; have H := Hr1; clear Hr1; try dsimp only at H
 try dsimp only
 refine Z4 ?_
 cases H
 exact To
def tG (fuel : Nat) (a0 : UsageDef) (a1 : UsageDef) : Option (Bool) :=
 ((pP fuel a0.Chans a1.Chans).bind fun y1 =>
 bif y1 then
  (pP fuel a0.Rules a1.Rules).bind fun y2 =>
  bif y2 then
   (xV fuel a0.Args a1.Args (fun x => pP fuel x.1 x.2)).bind fun y3 =>
   some y3
  else
   some false
 else
  some false).bind fun x1 =>
 some x1
theorem aHD (fuel : Nat)  (a0 : UsageDef) (a1 : UsageDef) (r : Bool) (H : tG fuel a0 a1 = some r) : FnS Try.prog 33 [fSt aZ a0, fSt aZ a1] [] (aG r) (fun _ => []) := by
 unfold tG at H
 refine bF Try.func33 rfl Try.ntmps33 rfl (fun β => ?_)
 refine Z1 ?_
 refine aT trivial rfl rfl (cG rfl (has rfl) bO) (fun b1 => ?_)
 refine aT trivial rfl rfl (cG rfl (has rfl) bO) (fun b2 => ?_)
 revert H; refine B2 fun o1 H Hr1 => ?_
 refine aX (ι := Bool) (fun i => o1 = i) (fun i => [(4, aG i)]) (fun i => [aC b2 40 [fSl (aB .i64) a1.Chans, fSl (aB .i64) a1.Rules, fSl (tSl (aB .i64)) a1.Args], aC b1 40 [fSl (aB .i64) a0.Chans, fSl (aB .i64) a0.Rules, fSl (tSl (aB .i64)) a0.Args]]) ?_ ?_
 revert H; refine B5 fun y1 h1 H => ?_
 refine Tc (aCf _ _ _ _ h1) ?_
 refine Z1 ?_
 revert H; refine cs (fun c1 H => ?_) fun c1 H => ?_
 revert H; refine B4 fun y2 h2 H => ?_
 refine Tc (aCf _ _ _ _ h2) ?_
 refine Z2 ?_
 revert H; refine cs (fun c2 H => ?_) fun c2 H => ?_
 revert H; refine B4 fun y3 h3 H => ?_
 refine gU ⟨_, _, rfl, rfl, c2⟩ rfl rfl rfl (has rfl) (aJ.cons (has rfl) (aJ.cons (has rfl) (aJ.cons (dA rfl (mT (cb rfl) (fun x r hx => aCf fuel x.1 x.2 r hx))) aJ.nil))) rfl (cb rfl) (aIh fuel a0.Args a1.Args (fun x => pP fuel x.1 x.2) y3 h3) rfl ?_
 refine Z3 ?_
 exact Tm (y3) (ij H)
 refine Z8 ?_
 exact Tm (false) (ij H)
 refine Z12 ?_
 refine Z3 ?_
 exact Tm (false) (ij H)
 clear H; intro x1 hi; subst o1; have H := Hr1; clear Hr1; try dsimp only at H
 try dsimp only
 refine Z1 ?_
 cases H
 refine aI [] (by decide) ?_
 exact To
def yC (fuel : Nat) (a0 : List UsageDef) (a1 : List UsageDef) : Option (Bool) :=
 (xR fuel a0 a1 (fun x => tG fuel x.1 x.2)).bind fun y1 =>
 some y1
theorem aGp (fuel : Nat)  (a0 : List UsageDef) (a1 : List UsageDef) (r : Bool) (H : yC fuel a0 a1 = some r) : FnS Try.prog 10 [fSl aZ a0, fSl aZ a1] [] (aG r) (fun _ => []) := by
 unfold yC at H
 refine bF Try.func10 rfl Try.ntmps10 rfl (fun β => ?_)
 revert H; refine B6 fun y1 h1 H => ?_
 refine gU trivial rfl rfl rfl (has rfl) (aJ.cons (has rfl) (aJ.cons (has rfl) (aJ.cons (dA rfl (mT (cb rfl) (fun x r hx => aHD fuel x.1 x.2 r hx))) aJ.nil))) rfl (cb rfl) (aGk fuel a0 a1 (fun x => tG fuel x.1 x.2) y1 h1) rfl ?_
 refine Z3 ?_
 cases H
 exact To
def mH (y5 : (List UsageDef) × Int) (x2 : Int) (y10 : UsageDef) : Nat → Int → Option ((Unit) ⊕ ((Unit) ⊕ (Bool)))
| 0, _ => none
| k + 1, x4 =>
 if x4 < (y10.Chans.length : Int) then
  ((idx y10.Chans x4).bind fun y11 =>
  if y11 = 2 then
   (idx y5.1 x2).bind fun y12 =>
   (idx y12.Chans x4).bind fun y13 =>
   if y13 ≠ 2 then
    (((some false).bind fun r => some (Sum.inr r)).bind fun r => some (Sum.inr r)).bind fun r => some (Sum.inr r)
   else
    some (Sum.inl ())
  else
   some (Sum.inl ())).bind fun o => match o with
  | Sum.inr r => some r
  | Sum.inl _ =>
  (chk (x4 + 1)).bind fun z1 =>
  mH y5 x2 y10 k z1
 else
  some (Sum.inl ())
def nN (fuel : Nat) (a1 : List UsageDef) (y5 : (List UsageDef) × Int) : Nat → Int → Option ((Unit) ⊕ (Bool))
| 0, _ => none
| k + 1, x2 =>
 if x2 < (a1.length : Int) then
  ((idx a1 x2).bind fun y10 =>
  mH y5 x2 y10 fuel 0).bind fun o => match o with
  | Sum.inr r => some r
  | Sum.inl _ =>
  (chk (x2 + 1)).bind fun z2 =>
  nN fuel a1 y5 k z2
 else
  some (Sum.inl ())
def yT (fuel : Nat) (a0 : ScopeProg) (a1 : List UsageDef) : Option (Bool) :=
 (vX fuel a1).bind fun y1 =>
 bif y1 then
  (mR fuel).bind fun y2 =>
  some y2
 else
  (xO fuel (⟨a0.Free, a0.Nodes, a0.Defs, a0.Main⟩ : ScopeProg)).bind fun y3 =>
  if y3 ≠ 0 then
   (mR fuel).bind fun y4 =>
   some y4
  else
   (qX fuel (⟨a0.Free, a0.Nodes, a0.Defs, a0.Main⟩ : ScopeProg)).bind fun y5 =>
   (pK fuel (⟨a0.Free, a0.Nodes, a0.Defs, a0.Main⟩ : ScopeProg) y5.1).bind fun y6 =>
   if y5.2 ≠ 0 then
    some false
   else
    if y6.2 ≠ 0 then
     some false
    else
     bif y6.1 then
      (pK fuel (⟨a0.Free, a0.Nodes, a0.Defs, a0.Main⟩ : ScopeProg) a1).bind fun y7 =>
      if y7.2 ≠ 0 then
       (mR fuel).bind fun y8 =>
       some y8
      else
       bif y7.1 then
        (yC fuel y5.1 a1).bind fun y9 =>
        bif y9 then
         (nN fuel a1 y5 fuel 0).bind fun o => match o with
         | Sum.inr r => some r
         | Sum.inl _ =>
         (mR fuel).bind fun y14 =>
         some y14
        else
         some false
       else
        (mR fuel).bind fun y15 =>
        some y15
     else
      some false
theorem aIz (fuel : Nat)  (a0 : ScopeProg) (a1 : List UsageDef) (r : Bool) (H : yT fuel a0 a1 = some r) : FnS Try.prog 3 [fSt dM a0, fSl aZ a1] [] (aG r) (fun _ => []) := by
 unfold yT at H
 refine bF Try.func3 rfl Try.ntmps3 rfl (fun β => ?_)
 refine Z1 ?_
 refine aT trivial rfl rfl (cG rfl (has rfl) bO) (fun b1 => ?_)
 refine Z2 ?_
 refine aH ?_
 revert H; refine B2 fun y1 h1 H => ?_
 refine Tc (aH8 _ _ _ h1) ?_
 refine Z1 ?_
 revert H; refine cs (fun c1 H => ?_) fun c1 H => ?_
 revert H; refine B7 fun y2 h2 H => ?_
 refine Tc (wZ _ _ h2) ?_
 refine Z3 ?_
 cases H
 refine aI [] (by decide) ?_
 exact To
 revert H; refine B1 fun y3 h3 H => ?_
 refine Tc (aGb _ _ _ h3) ?_
 revert H; refine I3 (fun c2 H => ?_) fun c2 H => ?_
 revert H; refine B2 fun y4 h4 H => ?_
 refine Tc (wZ _ _ h4) ?_
 refine Z3 ?_
 cases H
 refine aI [] (by decide) ?_
 exact To
 revert H; refine B5 fun y5 h5 H => ?_
 refine gU trivial rfl rfl rfl (has rfl) (aJ.cons (has rfl) aJ.nil) rfl (cb rfl) (aFX fuel (⟨a0.Free, a0.Nodes, a0.Defs, a0.Main⟩ : ScopeProg) y5 h5) rfl ?_
 revert H; refine B9 fun y6 h6 H => ?_
 refine Tc (wK _ _ _ _ h6) ?_
 refine Z6 ?_
 refine aH ?_
 revert H; refine I4 (fun c3 H => ?_) fun c3 H => ?_
 refine Z12 ?_
 refine Z1 ?_
 cases H
 refine aI [] (by decide) ?_
 exact To
 revert H; refine I4 (fun c4 H => ?_) fun c4 H => ?_
 refine Z9 ?_
 cases H
 refine aI [] (by decide) ?_
 exact To
 refine Z4 ?_
 revert H; refine cs (fun c5 H => ?_) fun c5 H => ?_
 revert H; refine B6 fun y7 h7 H => ?_
 refine Tc (wK _ _ _ _ h7) ?_
 refine Z6 ?_
 refine aH ?_
 revert H; refine I4 (fun c6 H => ?_) fun c6 H => ?_
 revert H; refine B6 fun y8 h8 H => ?_
 refine Tc (wZ _ _ h8) ?_
 refine Z3 ?_
 cases H
 refine aI [] (by decide) ?_
 exact To
 refine Z4 ?_
 revert H; refine cs (fun c7 H => ?_) fun c7 H => ?_
 refine Z3 ?_
 refine aH ?_
 revert H; refine B3 fun y9 h9 H => ?_
 refine Tc (aGp _ _ _ _ h9) ?_
 refine Z2 ?_
 revert H; refine cs (fun c8 H => ?_) fun c8 H => ?_
 revert H; refine B3 fun o1 H Hr1 => ?_
 refine aX (ι := Unit) (fun i => o1 = Sum.inl ()) (fun i => []) (fun i => [aC b1 26 [fSl aN a0.Free, fSl aM a0.Nodes, fSl aK a0.Defs, aA .i64 a0.Main]]) ?_ ?_
 refine Z6 ?_
 refine Tl (ι := Nat × Int) (fun i => nN fuel a1 y5 i.1 i.2 = _) (fun i => i.1) (fun i => [(1, fSl aZ a1), (5, fSl aZ y5.1), (59, aA .i64 (a1.length : Int)), (60, aA .i64 i.2)]) (fun i => [aC b1 26 [fSl aN a0.Free, fSl aM a0.Nodes, fSl aK a0.Defs, aA .i64 a0.Main]]) (fuel, 0) H ?_
 clear H; rintro ⟨k1, x2⟩ H
 replace H : nN fuel a1 y5 k1 x2 = _ := H
 try dsimp only
 obtain _ | k1 := k1
 rw [nN] at H; cases H
 rw [nN] at H
 refine Z3 ?_
 refine aH ?_
 revert H; refine is (fun c9 H => ?_) fun c9 H => ?_
 revert H; refine B3 fun o2 H Hr2 => ?_
 refine aX (ι := Unit) (fun i => o2 = Sum.inl ()) (fun i => [(1, fSl aZ a1), (5, fSl aZ y5.1), (59, aA .i64 (a1.length : Int)), (60, aA .i64 x2)]) (fun i => [aC b1 26 [fSl aN a0.Free, fSl aM a0.Nodes, fSl aK a0.Defs, aA .i64 a0.Main]]) ?_ ?_
 revert H; refine B8 fun y10 h10 H => ?_
 refine Z7 ?_
 refine Tl (ι := Nat × Int) (fun i => mH y5 x2 y10 i.1 i.2 = _) (fun i => i.1) (fun i => [(1, fSl aZ a1), (5, fSl aZ y5.1), (59, aA .i64 (a1.length : Int)), (60, aA .i64 x2), (9, aA .i64 x2), (67, fSl (aB .i64) y10.Chans), (68, aA .i64 (y10.Chans.length : Int)), (69, aA .i64 i.2)]) (fun i => [aC b1 26 [fSl aN a0.Free, fSl aM a0.Nodes, fSl aK a0.Defs, aA .i64 a0.Main]]) (fuel, 0) H ?_
 clear H; rintro ⟨k2, x4⟩ H
 replace H : mH y5 x2 y10 k2 x4 = _ := H
 try dsimp only
 obtain _ | k2 := k2
 rw [mH] at H; cases H
 rw [mH] at H
 refine Z3 ?_
 refine aH ?_
 revert H; refine is (fun c10 H => ?_) fun c10 H => ?_
 revert H; refine B3 fun o3 H Hr3 => ?_
 refine aX (ι := Unit) (fun i => o3 = Sum.inl ()) (fun i => [(1, fSl aZ a1), (5, fSl aZ y5.1), (59, aA .i64 (a1.length : Int)), (60, aA .i64 x2), (9, aA .i64 x2), (67, fSl (aB .i64) y10.Chans), (68, aA .i64 (y10.Chans.length : Int)), (69, aA .i64 x4)]) (fun i => [aC b1 26 [fSl aN a0.Free, fSl aM a0.Nodes, fSl aK a0.Defs, aA .i64 a0.Main]]) ?_ ?_
 revert H; refine B3 fun y11 h11 H => ?_
 revert H; refine I9 (fun c11 H => ?_) fun c11 H => ?_
 revert H; refine B2 fun y12 h12 H => ?_
 revert H; refine B4 fun y13 h13 H => ?_
 revert H; refine I5 (fun c12 H => ?_) fun c12 H => ?_
 revert H; refine B7 fun r1 H e1 => ?_
 cases e1; cases Hr3
 revert H; refine B4 fun r2 H e2 => ?_
 cases e2; cases Hr2
 revert H; refine B3 fun r3 H e3 => ?_
 cases e3; cases Hr1
 cases H
 refine aI [] (by decide) ?_
 exact To
 refine Z4 ?_
 exact Tm (()) (ij H)
 refine Z12 ?_
 refine Z3 ?_
 exact Tm (()) (ij H)
 clear H; intro i hi; subst o3; have H := Hr3; clear Hr3; try dsimp only at H
 try dsimp only
 revert H; refine B1 fun z1 h14 H => ?_
 refine Z3 ?_
 exact Tm ((k2, z1)) ⟨H, ls⟩
 refine Z7 ?_
 exact Tm (()) (ij H)
 clear H; intro i hi; subst o2; have H := Hr2; clear Hr2; try dsimp only at H
 try dsimp only
 revert H; refine B1 fun z2 h15 H => ?_
 refine Z3 ?_
 exact Tm ((k1, z2)) ⟨H, ls⟩
 refine Z6 ?_
 exact Tm (()) (ij H)
 clear H; intro i hi; subst o1; have H := Hr1; clear Hr1; try dsimp only at H
 try dsimp only
 revert H; refine B1 fun y14 h16 H => ?_
 refine Tc (wZ _ _ h16) ?_
 refine Z3 ?_
 cases H
 refine aI [] (by decide) ?_
 exact To
 refine Z5 ?_
 cases H
 refine aI [] (by decide) ?_
 exact To
 revert H; refine B2 fun y15 h17 H => ?_
 refine Tc (wZ _ _ h17) ?_
 refine Z3 ?_
 cases H
 refine aI [] (by decide) ?_
 exact To
 refine Z5 ?_
 cases H
 refine aI [] (by decide) ?_
 exact To
end Go.Proofs.Ytmnbfgeljmhekaa
set_option maxRecDepth 100000
namespace Go.Dt
open Go.SX Go.SW
structure Ref05_Chan where
 Def : Int
 Index : Int
structure bR where
 p : ScopeProg
 Envs : List (List Ref05_Chan)
 Sizes : List Int
 Heads : List Int
end Go.Dt
namespace Go.Proofs.Ytmnbfgeljmhekaa
open Go.SX Go.SW Go.Dt
def aAv (fuel : Nat) (a0 : ScopeProg) : Option (List Int) :=
 (uN fuel (⟨a0.Free, a0.Nodes, a0.Defs, a0.Main⟩ : ScopeProg)).bind fun y1 =>
 some y1.sizes
def vQ (a1 : Int) : Nat → (List Ref05_Chan) → Int → Option (List Ref05_Chan)
| 0, _, _ => none
| k + 1, x4, x5 =>
 if x5 < a1 then
  (dU (x4 ++ [(⟨(-1), 0⟩ : Ref05_Chan)])).bind fun z2 =>
  (chk (x5 + 1)).bind fun z3 =>
  vQ a1 k z2 z3
 else
  some x4
def xE (fuel : Nat) (a0 : List Ref05_Chan) (a1 : Int) : Option (List Ref05_Chan) :=
 (dU (([] : List Ref05_Chan) ++ a0)).bind fun z1 =>
 (vQ a1 fuel z1 0).bind fun x1 =>
 some x1
def tP (rec_r05_Look_fill : bR → Int → (List Ref05_Chan) → Option (bR)) (a2 : List Ref05_Chan) (y2 : ScopeNode) : Nat → Int → (List ByteArray) → (List ScopeNode) → (List ScopeDef) → Int → (List (List Ref05_Chan)) → (List Int) → (List Int) → Option (List ByteArray × List ScopeNode × List ScopeDef × Int × List (List Ref05_Chan) × List Int × List Int)
| 0, _, _, _, _, _, _, _, _ => none
| k + 1, x16, x17, x18, x19, x20, x21, x22, x23 =>
 if x16 < (y2.Kids.length : Int) then
  (idx y2.Kids x16).bind fun y3 =>
  (rec_r05_Look_fill (⟨(⟨x17, x18, x19, x20⟩ : ScopeProg), x21, x22, x23⟩ : bR) y3 a2).bind fun y4 =>
  (chk (x16 + 1)).bind fun z1 =>
  tP rec_r05_Look_fill a2 y2 k z1 y4.p.Free y4.p.Nodes y4.p.Defs y4.p.Main y4.Envs y4.Sizes y4.Heads
 else
  some (x17, x18, x19, x20, x21, x22, x23)
def sN (y2 : ScopeNode) (y6 : ScopeDef) : Nat → (List Ref05_Chan) → Int → Option (List Ref05_Chan)
| 0, _, _ => none
| k + 1, x27, x28 =>
 if x28 < (y6.Chans.length : Int) then
  (dU (x27 ++ [(⟨y2.N, x28⟩ : Ref05_Chan)])).bind fun z3 =>
  (chk (x28 + 1)).bind fun z4 =>
  sN y2 y6 k z3 z4
 else
  some x27
def tW (y6 : ScopeDef) (x44 : Int) : Nat → Int → Int → Option (Int)
| 0, _, _ => none
| k + 1, x62, x63 =>
 (idx y6.Rules x44).bind fun y8 =>
 if x63 < (y8.Joins.length : Int) then
  (idx y6.Rules x44).bind fun y9 =>
  (idx y9.Joins x63).bind fun y10 =>
  (idx y6.Chans y10).bind fun y11 =>
  (chk (x62 + y11.Many)).bind fun z5 =>
  (chk (x63 + 1)).bind fun z6 =>
  tW y6 x44 k z5 z6
 else
  some x62
def vH (fuel : Nat) (rec_r05_Look_fill : bR → Int → (List Ref05_Chan) → Option (bR)) (y6 : ScopeDef) (y7 : List Ref05_Chan) : Nat → Int → (List ByteArray) → (List ScopeNode) → (List ScopeDef) → Int → (List (List Ref05_Chan)) → (List Int) → (List Int) → Option (List ByteArray × List ScopeNode × List ScopeDef × Int × List (List Ref05_Chan) × List Int × List Int)
| 0, _, _, _, _, _, _, _, _ => none
| k + 1, x44, x45, x46, x47, x48, x49, x50, x51 =>
 if x44 < (y6.Rules.length : Int) then
  ((tW y6 x44 fuel 0 0).bind fun x59 =>
  (idx y6.Rules x44).bind fun y12 =>
  (xE fuel y7 x59).bind fun y13 =>
  (rec_r05_Look_fill (⟨(⟨x45, x46, x47, x48⟩ : ScopeProg), x49, x50, x51⟩ : bR) y12.Node y13).bind fun y14 =>
  some (y14.p.Free, y14.p.Nodes, y14.p.Defs, y14.p.Main, y14.Envs, y14.Sizes, y14.Heads)).bind fun (x52, x53, x54, x55, x56, x57, x58) =>
  (chk (x44 + 1)).bind fun z7 =>
  vH fuel rec_r05_Look_fill y6 y7 k z7 x52 x53 x54 x55 x56 x57 x58
 else
  some (x45, x46, x47, x48, x49, x50, x51)
def tX (rec_r05_Look_fill : bR → Int → (List Ref05_Chan) → Option (bR)) (y6 : ScopeDef) (y7 : List Ref05_Chan) : Nat → Int → (List ByteArray) → (List ScopeNode) → (List ScopeDef) → Int → (List (List Ref05_Chan)) → (List Int) → (List Int) → Option (List ByteArray × List ScopeNode × List ScopeDef × Int × List (List Ref05_Chan) × List Int × List Int)
| 0, _, _, _, _, _, _, _, _ => none
| k + 1, x79, x80, x81, x82, x83, x84, x85, x86 =>
 if x79 < (y6.Spots.length : Int) then
  (idx y6.Spots x79).bind fun y15 =>
  (rec_r05_Look_fill (⟨(⟨x80, x81, x82, x83⟩ : ScopeProg), x84, x85, x86⟩ : bR) y15.Node y7).bind fun y16 =>
  (chk (x79 + 1)).bind fun z8 =>
  tX rec_r05_Look_fill y6 y7 k z8 y16.p.Free y16.p.Nodes y16.p.Defs y16.p.Main y16.Envs y16.Sizes y16.Heads
 else
  some (x80, x81, x82, x83, x84, x85, x86)
def iM : Nat → bR → Int → (List Ref05_Chan) → Option (bR)
| 0, _, _, _ => none
| fuel + 1, a0, a1, a2 =>
 (idx a0.Envs a1).bind fun y1 =>
 (idx a0.p.Nodes a1).bind fun y2 =>
 (if y2.Op ≠ 4 then
  (tP (iM fuel) a2 y2 fuel 0 a0.p.Free a0.p.Nodes a0.p.Defs a0.p.Main (a0.Envs.set a1.toNat a2) a0.Sizes a0.Heads).bind fun (x1, x2, x3, x4, x5, x6, x7) =>
  (some (⟨(⟨x1, x2, x3, x4⟩ : ScopeProg), x5, x6, x7⟩ : bR)).bind fun r => some (Sum.inr r)
 else
  some (Sum.inl ())).bind fun o => match o with
 | Sum.inr r => some r
 | Sum.inl _ =>
 (idx a0.Heads y2.N).bind fun y5 =>
 (idx a0.p.Defs y2.N).bind fun y6 =>
 (dU (([] : List Ref05_Chan) ++ a2)).bind fun z2 =>
 (sN y2 y6 fuel z2 0).bind fun x24 =>
 (xE fuel x24 (y6.Spots.length : Int)).bind fun y7 =>
 (vH fuel (iM fuel) y6 y7 fuel 0 a0.p.Free a0.p.Nodes a0.p.Defs a0.p.Main (a0.Envs.set a1.toNat a2) a0.Sizes (a0.Heads.set y2.N.toNat a1)).bind fun (x29, x30, x31, x32, x33, x34, x35) =>
 (tX (iM fuel) y6 y7 fuel 0 x29 x30 x31 x32 x33 x34 x35).bind fun (x64, x65, x66, x67, x68, x69, x70) =>
 (idx y2.Kids 0).bind fun y17 =>
 ((iM fuel) (⟨(⟨x64, x65, x66, x67⟩ : ScopeProg), x68, x69, x70⟩ : bR) y17 y7).bind fun y18 =>
 some (⟨(⟨y18.p.Free, y18.p.Nodes, y18.p.Defs, y18.p.Main⟩ : ScopeProg), y18.Envs, y18.Sizes, y18.Heads⟩ : bR)
def uD (a0 : ScopeProg) : Nat → Int → (List (List Ref05_Chan)) → Option (List (List Ref05_Chan))
| 0, _, _ => none
| k + 1, x4, x5 =>
 if x4 < (a0.Nodes.length : Int) then
  (dU (x5 ++ [[]])).bind fun z1 =>
  (chk (x4 + 1)).bind fun z2 =>
  uD a0 k z2 z1
 else
  some x5
def tO (a0 : ScopeProg) : Nat → Int → (List Int) → Option (List Int)
| 0, _, _ => none
| k + 1, x9, x10 =>
 if x9 < (a0.Defs.length : Int) then
  (dU (x10 ++ [0])).bind fun z3 =>
  (chk (x9 + 1)).bind fun z4 =>
  tO a0 k z4 z3
 else
  some x10
def aCq (fuel : Nat) (a0 : ScopeProg) : Option (bR) :=
 (aAv fuel (⟨a0.Free, a0.Nodes, a0.Defs, a0.Main⟩ : ScopeProg)).bind fun y1 =>
 (uD a0 fuel 0 []).bind fun x1 =>
 (tO a0 fuel 0 []).bind fun x6 =>
 (xE fuel [] (a0.Free.length : Int)).bind fun y2 =>
 (iM fuel (⟨(⟨a0.Free, a0.Nodes, a0.Defs, a0.Main⟩ : ScopeProg), x1, y1, x6⟩ : bR) a0.Main y2).bind fun y3 =>
 some (⟨(⟨y3.p.Free, y3.p.Nodes, y3.p.Defs, y3.p.Main⟩ : ScopeProg), y3.Envs, y3.Sizes, y3.Heads⟩ : bR)
def wG (a0 : Int) : Option (Int) :=
 if a0 = 0 then
  some 1
 else
  if a0 = 1 then
   some 3
  else
   some 4
def uH (a0 : Int) (a1 : Int) : Option (Int) :=
 (chk (a0 + a1)).bind fun z1 =>
 some (min z1 2)
def tS (a0 : Int) : Option (Int) :=
 if a0 = 1 then
  some 0
 else
  if a0 = 4 then
   some 2
  else
   some 1
def qY (a1 : List UsageDef) (a3 : Int) (y1 : ScopeNode) (y3 : Ref05_Chan) : Nat → Int → Int → Option (Int)
| 0, _, _ => none
| k + 1, x5, x6 =>
 if x6 < (y1.Args.length : Int) then
  ((idx y1.Args x6).bind fun y6 =>
  if y6.Op ≠ 2 then
   some x5
  else
   (idx y1.Args x6).bind fun y7 =>
   if y7.N ≠ a3 then
    some x5
   else
    if y3.Def < 0 then
     some 2
    else
     (idx a1 y3.Def).bind fun y8 =>
     (idx y8.Args y3.Index).bind fun y9 =>
     (idx y9 x6).bind fun y10 =>
     (tS y10).bind fun y11 =>
     (uH x5 y11).bind fun y12 =>
     some y12).bind fun x7 =>
  (chk (x6 + 1)).bind fun z1 =>
  qY a1 a3 y1 y3 k x7 z1
 else
  some x5
def aCB (fuel : Nat) (a0 : bR) (a1 : List UsageDef) (a2 : Int) (a3 : Int) : Option (Int) :=
 (idx a0.p.Nodes a2).bind fun y1 =>
 (idx a0.Envs a2).bind fun y2 =>
 (idx y2 y1.N).bind fun y3 =>
 (if 0 ≤ y3.Def then
  (idx a0.p.Defs y3.Def).bind fun y4 =>
  (idx y4.Chans y3.Index).bind fun y5 =>
  if y5.Many ≠ (y1.Args.length : Int) then
   (some 0).bind fun r => some (Sum.inr r)
  else
   some (Sum.inl ())
 else
  some (Sum.inl ())).bind fun o => match o with
 | Sum.inr r => some r
 | Sum.inl _ =>
 (if y1.N = a3 then
  some 1
 else
  some 0).bind fun x1 =>
 (qY a1 a3 y1 y3 fuel x1 0).bind fun x2 =>
 some x2
def aBY (a0 : Int) (a1 : Int) : Option (Int) :=
 (chk (a0 * a1)).bind fun z1 =>
 some (min z1 2)
def tY (rec_r05_Look_Sends : bR → (List UsageDef) → Int → Int → Option (Int)) (a0 : bR) (a1 : List UsageDef) (a3 : Int) (y2 : ScopeDef) : Nat → Int → Int → Option (Int)
| 0, _, _ => none
| k + 1, x4, x5 =>
 if x5 < (y2.Spots.length : Int) then
  (idx y2.Spots x5).bind fun y5 =>
  (rec_r05_Look_Sends a0 a1 y5.Node a3).bind fun y6 =>
  (uH x4 y6).bind fun y7 =>
  (chk (x5 + 1)).bind fun z1 =>
  tY rec_r05_Look_Sends a0 a1 a3 y2 k y7 z1
 else
  some x4
def xW (rec_r05_Look_Sends : bR → (List UsageDef) → Int → Int → Option (Int)) (a0 : bR) (a1 : List UsageDef) (a3 : Int) (y1 : ScopeNode) (y2 : ScopeDef) : Nat → Int → Int → Option (Int)
| 0, _, _ => none
| k + 1, x9, x10 =>
 if x10 < (y2.Rules.length : Int) then
  (idx a1 y1.N).bind fun y8 =>
  (idx y8.Rules x10).bind fun y9 =>
  (tS y9).bind fun y10 =>
  (idx y2.Rules x10).bind fun y11 =>
  (rec_r05_Look_Sends a0 a1 y11.Node a3).bind fun y12 =>
  (aBY y10 y12).bind fun y13 =>
  (uH x9 y13).bind fun y14 =>
  (chk (x10 + 1)).bind fun z2 =>
  xW rec_r05_Look_Sends a0 a1 a3 y1 y2 k y14 z2
 else
  some x9
mutual
def iC : Nat → bR → (List UsageDef) → Int → Int → Option (Int)
| 0, _, _, _, _ => none
| fuel + 1, a0, a1, a2, a3 =>
 (idx a0.p.Nodes a2).bind fun y1 =>
 if y1.Op = 2 then
  (aCB fuel a0 a1 a2 a3).bind fun y2 =>
  some y2
 else
  if y1.Op = 3 then
   (idx y1.Kids 0).bind fun y3 =>
   ((iC fuel) a0 a1 y3 a3).bind fun y4 =>
   (idx y1.Kids 1).bind fun y5 =>
   ((iC fuel) a0 a1 y5 a3).bind fun y6 =>
   (uH y4 y6).bind fun y7 =>
   some y7
  else
   if y1.Op = 5 then
    (idx y1.Kids 0).bind fun y8 =>
    ((iC fuel) a0 a1 y8 a3).bind fun y9 =>
    (idx y1.Kids 1).bind fun y10 =>
    ((iC fuel) a0 a1 y10 a3).bind fun y11 =>
    some (max y9 y11)
   else
    (if y1.Op = 6 then
     some (decide (y1.Op = 6))
    else
     some (decide (y1.Op = 8))).bind fun x1 =>
    bif x1 then
     (idx y1.Kids 0).bind fun y12 =>
     ((iC fuel) a0 a1 y12 a3).bind fun y13 =>
     some y13
    else
     if y1.Op = 4 then
      ((xG fuel) a0 a1 a2 a3).bind fun y14 =>
      some y14
     else
      some 0
def xG : Nat → bR → (List UsageDef) → Int → Int → Option (Int)
| 0, _, _, _, _ => none
| fuel + 1, a0, a1, a2, a3 =>
 (idx a0.p.Nodes a2).bind fun y1 =>
 (idx a0.p.Defs y1.N).bind fun y2 =>
 (idx y1.Kids 0).bind fun y3 =>
 ((iC fuel) a0 a1 y3 a3).bind fun y4 =>
 (tY (iC fuel) a0 a1 a3 y2 fuel y4 0).bind fun x1 =>
 (xW (iC fuel) a0 a1 a3 y1 y2 fuel x1 0).bind fun x6 =>
 some x6
end
def vE (rec_r05_Look_Sure : bR → Int → Int → Option (Int)) (a0 : bR) (a2 : Int) (y2 : ScopeDef) : Nat → Int → Int → Option (Int)
| 0, _, _ => none
| k + 1, x4, x5 =>
 if x5 < (y2.Spots.length : Int) then
  (idx y2.Spots x5).bind fun y5 =>
  (rec_r05_Look_Sure a0 y5.Node a2).bind fun y6 =>
  (chk (x4 + y6)).bind fun z1 =>
  (chk (x5 + 1)).bind fun z2 =>
  vE rec_r05_Look_Sure a0 a2 y2 k z1 z2
 else
  some x4
mutual
def mI : Nat → bR → Int → Int → Option (Int)
| 0, _, _, _ => none
| fuel + 1, a0, a1, a2 =>
 (idx a0.p.Nodes a1).bind fun y1 =>
 (if y1.Op = 2 then
  (idx a0.Envs a1).bind fun y2 =>
  (idx y2 a2).bind fun y3 =>
  if y1.N = a2 then
   if 0 ≤ y3.Def then
    (idx a0.p.Defs y3.Def).bind fun y4 =>
    (idx y4.Chans y3.Index).bind fun y5 =>
    if y5.Many = (y1.Args.length : Int) then
     (some 1).bind fun r => some (Sum.inr r)
    else
     some (Sum.inl ())
   else
    some (Sum.inl ())
  else
   some (Sum.inl ())
 else
  if y1.Op = 3 then
   (idx y1.Kids 0).bind fun y6 =>
   ((mI fuel) a0 y6 a2).bind fun y7 =>
   (idx y1.Kids 1).bind fun y8 =>
   ((mI fuel) a0 y8 a2).bind fun y9 =>
   (chk (y7 + y9)).bind fun z1 =>
   (some z1).bind fun r => some (Sum.inr r)
  else
   if y1.Op = 5 then
    (idx y1.Kids 0).bind fun y10 =>
    ((mI fuel) a0 y10 a2).bind fun y11 =>
    (idx y1.Kids 1).bind fun y12 =>
    ((mI fuel) a0 y12 a2).bind fun y13 =>
    (some (min y11 y13)).bind fun r => some (Sum.inr r)
   else
    if y1.Op = 4 then
     ((uQ fuel) a0 a1 a2).bind fun y14 =>
     (some y14).bind fun r => some (Sum.inr r)
    else
     some (Sum.inl ())).bind fun o => match o with
 | Sum.inr r => some r
 | Sum.inl _ =>
 some 0
def uQ : Nat → bR → Int → Int → Option (Int)
| 0, _, _, _ => none
| fuel + 1, a0, a1, a2 =>
 (idx a0.p.Nodes a1).bind fun y1 =>
 (idx a0.p.Defs y1.N).bind fun y2 =>
 (idx y1.Kids 0).bind fun y3 =>
 ((mI fuel) a0 y3 a2).bind fun y4 =>
 (vE (mI fuel) a0 a2 y2 fuel y4 0).bind fun x1 =>
 some x1
end
def zW (a0 : bR) (a1 : Int) (a2 : Int) : Option (Int) :=
 (idx a0.Heads a1).bind fun y1 =>
 (idx a0.Sizes y1).bind fun y2 =>
 (chk (y2 + a2)).bind fun z1 =>
 some z1
def sT (a2 : Int) (a3 : Int) (y1 : ScopeDef) : Nat → Int → Int → Option (Int)
| 0, _, _ => none
| k + 1, x4, x5 =>
 if x5 < a3 then
  (idx y1.Rules a2).bind fun y4 =>
  (idx y4.Joins x5).bind fun y5 =>
  (idx y1.Chans y5).bind fun y6 =>
  (chk (x4 + y6.Many)).bind fun z4 =>
  (chk (x5 + 1)).bind fun z5 =>
  sT a2 a3 y1 k z4 z5
 else
  some x4
def aCm (fuel : Nat) (a0 : bR) (a1 : Int) (a2 : Int) (a3 : Int) (a4 : Int) : Option (Int) :=
 (idx a0.p.Defs a1).bind fun y1 =>
 (idx a0.Heads a1).bind fun y2 =>
 (idx a0.Sizes y2).bind fun y3 =>
 (chk (y3 + (y1.Chans.length : Int))).bind fun z1 =>
 (chk (z1 + (y1.Spots.length : Int))).bind fun z2 =>
 (chk (z2 + a4)).bind fun z3 =>
 (sT a2 a3 y1 fuel z3 0).bind fun x1 =>
 some x1
def qZ (fuel : Nat) (a0 : bR) (a1 : List UsageDef) (a2 : Int) (a3 : Int) (a4 : Int) (y1 : ScopeDef) (x5 : Int) : Nat → Int → Int → Option (Int)
| 0, _, _ => none
| k + 1, x9, x10 =>
 (idx y1.Rules x5).bind fun y2 =>
 if x10 < (y2.Joins.length : Int) then
  ((idx y1.Rules x5).bind fun y3 =>
  (idx y3.Joins x10).bind fun y4 =>
  if y4 = a3 then
   (idx a1 a2).bind fun y5 =>
   (idx y5.Rules x5).bind fun y6 =>
   (tS y6).bind fun y7 =>
   if 0 < y7 then
    (idx y1.Rules x5).bind fun y8 =>
    (aCm fuel a0 a2 x5 x10 a4).bind fun y9 =>
    (iC fuel a0 a1 y8.Node y9).bind fun y10 =>
    some (max x9 y10)
   else
    some x9
  else
   some x9).bind fun x11 =>
  (chk (x10 + 1)).bind fun z1 =>
  qZ fuel a0 a1 a2 a3 a4 y1 x5 k x11 z1
 else
  some x9
def sW (fuel : Nat) (a0 : bR) (a1 : List UsageDef) (a2 : Int) (a3 : Int) (a4 : Int) (y1 : ScopeDef) : Nat → Int → Int → Option (Int)
| 0, _, _ => none
| k + 1, x4, x5 =>
 if x5 < (y1.Rules.length : Int) then
  (qZ fuel a0 a1 a2 a3 a4 y1 x5 fuel x4 0).bind fun x6 =>
  (chk (x5 + 1)).bind fun z2 =>
  sW fuel a0 a1 a2 a3 a4 y1 k x6 z2
 else
  some x4
def aEJ (fuel : Nat) (a0 : bR) (a1 : List UsageDef) (a2 : Int) (a3 : Int) (a4 : Int) : Option (Int) :=
 (idx a0.p.Defs a2).bind fun y1 =>
 (sW fuel a0 a1 a2 a3 a4 y1 fuel 0 0).bind fun x1 =>
 some x1
def tZ (fuel : Nat) (a0 : bR) (a1 : List UsageDef) (a2 : Int) (y1 : ScopeDef) (x6 : Int) : Nat → (List Int) → Int → Option (List Int)
| 0, _, _ => none
| k + 1, x14, x15 =>
 (idx y1.Chans x6).bind fun y6 =>
 if x15 < y6.Many then
  (aEJ fuel a0 a1 a2 x6 x15).bind fun y7 =>
  (wG y7).bind fun y8 =>
  (dU (x14 ++ [y8])).bind fun z2 =>
  (chk (x15 + 1)).bind fun z3 =>
  tZ fuel a0 a1 a2 y1 x6 k z2 z3
 else
  some x14
def vD (fuel : Nat) (a0 : bR) (a1 : List UsageDef) (a2 : Int) (y1 : ScopeDef) : Nat → Int → (List Int) → (List (List Int)) → Option (List Int × List (List Int))
| 0, _, _, _ => none
| k + 1, x6, x7, x8 =>
 if x6 < (y1.Chans.length : Int) then
  ((idx a0.Heads a2).bind fun y2 =>
  (zW a0 a2 x6).bind fun y3 =>
  (xG fuel a0 a1 y2 y3).bind fun y4 =>
  (wG y4).bind fun y5 =>
  (dU (x7 ++ [y5])).bind fun z1 =>
  (tZ fuel a0 a1 a2 y1 x6 fuel ([] : List Int) 0).bind fun x11 =>
  (dU (x8 ++ ([x11] : List (List Int)))).bind fun z4 =>
  some (z1, z4)).bind fun (x9, x10) =>
  (chk (x6 + 1)).bind fun z5 =>
  vD fuel a0 a1 a2 y1 k z5 x9 x10
 else
  some (x7, x8)
def tH (a1 : List UsageDef) (a2 : Int) (y1 : ScopeDef) (x19 : Int) : Nat → Int → Int → Option (Int)
| 0, _, _ => none
| k + 1, x25, x26 =>
 (idx y1.Rules x19).bind fun y9 =>
 if x26 < (y9.Joins.length : Int) then
  (idx a1 a2).bind fun y10 =>
  (idx y1.Rules x19).bind fun y11 =>
  (idx y11.Joins x26).bind fun y12 =>
  (idx y10.Chans y12).bind fun y13 =>
  (tS y13).bind fun y14 =>
  (chk (x26 + 1)).bind fun z6 =>
  tH a1 a2 y1 x19 k (min x25 y14) z6
 else
  some x25
def vB (fuel : Nat) (a1 : List UsageDef) (a2 : Int) (y1 : ScopeDef) : Nat → Int → (List Int) → Option (List Int)
| 0, _, _ => none
| k + 1, x19, x20 =>
 if x19 < (y1.Rules.length : Int) then
  ((tH a1 a2 y1 x19 fuel 2 0).bind fun x22 =>
  (wG x22).bind fun y15 =>
  (dU (x20 ++ [y15])).bind fun z7 =>
  some z7).bind fun x21 =>
  (chk (x19 + 1)).bind fun z8 =>
  vB fuel a1 a2 y1 k z8 x21
 else
  some x20
def aAy (fuel : Nat) (a0 : bR) (a1 : List UsageDef) (a2 : Int) : Option (UsageDef) :=
 (idx a0.p.Defs a2).bind fun y1 =>
 (vD fuel a0 a1 a2 y1 fuel 0 [] []).bind fun (x1, x2) =>
 (vB fuel a1 a2 y1 fuel 0 []).bind fun x16 =>
 some (⟨x1, x16, x2⟩ : UsageDef)
def uO (fuel : Nat) (a0 : bR) (a1 : List UsageDef) : Nat → (List UsageDef) → Int → Option (List UsageDef)
| 0, _, _ => none
| k + 1, x4, x5 =>
 if x5 < (a0.p.Defs.length : Int) then
  (aAy fuel a0 a1 x5).bind fun y1 =>
  (dU (x4 ++ ([(⟨y1.Chans, y1.Rules, y1.Args⟩ : UsageDef)] : List UsageDef))).bind fun z1 =>
  (chk (x5 + 1)).bind fun z2 =>
  uO fuel a0 a1 k z1 z2
 else
  some x4
def aBI (fuel : Nat) (a0 : bR) (a1 : List UsageDef) : Option (List UsageDef) :=
 (uO fuel a0 a1 fuel [] 0).bind fun x1 =>
 some x1
def sY (a0 : ScopeProg) (x5 : Int) (x12 : Int) : Nat → (List Int) → Int → Option (List Int)
| 0, _, _ => none
| k + 1, x20, x21 =>
 (idx a0.Defs x5).bind fun y2 =>
 (idx y2.Chans x12).bind fun y3 =>
 if x21 < y3.Many then
  (dU (x20 ++ [1])).bind fun z2 =>
  (chk (x21 + 1)).bind fun z3 =>
  sY a0 x5 x12 k z2 z3
 else
  some x20
def tA (fuel : Nat) (a0 : ScopeProg) (x5 : Int) : Nat → Int → (List Int) → (List (List Int)) → Option (List Int × List (List Int))
| 0, _, _, _ => none
| k + 1, x12, x13, x14 =>
 (idx a0.Defs x5).bind fun y1 =>
 if x12 < (y1.Chans.length : Int) then
  ((dU (x13 ++ [1])).bind fun z1 =>
  (sY a0 x5 x12 fuel ([] : List Int) 0).bind fun x17 =>
  (dU (x14 ++ ([x17] : List (List Int)))).bind fun z4 =>
  some (z1, z4)).bind fun (x15, x16) =>
  (chk (x12 + 1)).bind fun z5 =>
  tA fuel a0 x5 k z5 x15 x16
 else
  some (x13, x14)
def tB (a0 : ScopeProg) (x5 : Int) : Nat → Int → (List Int) → Option (List Int)
| 0, _, _ => none
| k + 1, x25, x26 =>
 (idx a0.Defs x5).bind fun y4 =>
 if x25 < (y4.Rules.length : Int) then
  (dU (x26 ++ [1])).bind fun z6 =>
  (chk (x25 + 1)).bind fun z7 =>
  tB a0 x5 k z7 z6
 else
  some x26
def tN (fuel : Nat) (a0 : ScopeProg) : Nat → (List UsageDef) → Int → Option (List UsageDef)
| 0, _, _ => none
| k + 1, x4, x5 =>
 if x5 < (a0.Defs.length : Int) then
  ((tA fuel a0 x5 fuel 0 [] []).bind fun (x7, x8) =>
  (tB a0 x5 fuel 0 []).bind fun x22 =>
  (dU (x4 ++ ([(⟨x7, x22, x8⟩ : UsageDef)] : List UsageDef))).bind fun z8 =>
  some z8).bind fun x6 =>
  (chk (x5 + 1)).bind fun z9 =>
  tN fuel a0 k x6 z9
 else
  some x4
def aA1 (fuel : Nat) (a0 : ScopeProg) : Option (List UsageDef) :=
 (tN fuel a0 fuel [] 0).bind fun x1 =>
 some x1
def xB (fuel : Nat) (y1 : bR) : Nat → (List UsageDef) → Option (List UsageDef)
| 0, _ => none
| k + 1, x3 =>
 (aBI fuel y1 x3).bind fun y3 =>
 (vO fuel x3 y3).bind fun y4 =>
 bif y4 then
  some x3
 else
  xB fuel y1 k y3
def vA (fuel : Nat) (y1 : bR) (x8 : Int) : Nat → (List UsageDef) → Int → Option (List UsageDef)
| 0, _, _ => none
| k + 1, x12, x13 =>
 (idx x12 x8).bind fun y5 =>
 if x13 < (y5.Chans.length : Int) then
  ((idx x12 x8).bind fun y6 =>
  (idx y5.Chans x13).bind fun y7 =>
  if y7 = 3 then
   (idx y1.Heads x8).bind fun y8 =>
   (zW y1 x8 x13).bind fun y9 =>
   (uQ fuel y1 y8 y9).bind fun y10 =>
   if y10 = 1 then
    (idx x12 x8).bind fun y11 =>
    (idx y5.Chans x13).bind fun y12 =>
    some (y5.Chans.set x13.toNat 2)
   else
    some y5.Chans
  else
   some y5.Chans).bind fun x14 =>
  (chk (x13 + 1)).bind fun z1 =>
  vA fuel y1 x8 k (x12.set x8.toNat ({ y5 with Chans := x14 })) z1
 else
  some (x12.set x8.toNat ({ y5 with Chans := y5.Chans }))
def sD (fuel : Nat) (y1 : bR) : Nat → (List UsageDef) → Int → Option (List UsageDef)
| 0, _, _ => none
| k + 1, x7, x8 =>
 if x8 < (x7.length : Int) then
  (vA fuel y1 x8 fuel x7 0).bind fun x9 =>
  (chk (x8 + 1)).bind fun z2 =>
  sD fuel y1 k x9 z2
 else
  some x7
end Go.Proofs.Ytmnbfgeljmhekaa
set_option maxRecDepth 100000
namespace Go.Proofs.Ytmnbfgeljmhekaa
open Go.SX Go.SW Go.Dt
theorem bsm {α γ : Type} {a : α} {f : α → Option γ} : (some a).bind f = f a := by
 cases h : f a <;> simp [h]
theorem bB {α : Type} {xs : List α} {i : Nat} {y : α} (h : xs[i]? = some y) : idx xs (i : Int) = some y := by
 unfold idx; rw [if_pos (by omega)]; simpa using h
theorem cA {α : Type} (pre suf : List α) (y : α) : idx (pre ++ y :: suf) (pre.length : Int) = some y := bB (by simp)
theorem aP {i : Int} (h : -9000000000000000000 ≤ i ∧ i ≤ 9000000000000000000) : chk i = some i := by unfold chk; rw [if_pos (by omega)]
theorem cC {α : Type} (pre suf : List α) (y : α) : (pre.length : Int) < ((pre ++ y :: suf).length : Int) := by simp; omega
theorem cF {α : Type} (pre suf : List α) (y : α) : pre ++ y :: suf = (pre ++ [y]) ++ suf := by simp
theorem bS {α : Type} (pre : List α) (y : α) : (pre.length : Int) + 1 = ((pre ++ [y]).length : Int) := by simp
theorem zV (e : ScopeExp) : (⟨e.Op, e.N, e.Kids⟩ : ScopeExp) = e := by cases e; rfl
def flaw : Value := .iface 149 (.agg ([(.int .i64 2)] : List Value).toArray)
theorem eT : bT true = some (.inl ()) := rfl
theorem cV : bT false = some (.inr flaw) := rfl
mutual
def nE : ScopeExp → Nat
 | ⟨_, _, ks⟩ => 1 + nL ks
def nL : List ScopeExp → Nat
 | [] => 0
 | k :: ks => nE k + nL ks
end
mutual
def dE : ScopeExp → Nat
 | ⟨_, _, ks⟩ => 1 + dL ks
def dL : List ScopeExp → Nat
 | [] => 0
 | k :: ks => max (dE k) (dL ks)
end
def loc (s op n : Int) (l : Nat) : Bool :=
 if op = 1 then decide (-1000000000 ≤ n ∧ n ≤ 1000000000 ∧ l = 0) else if op = 2 then decide (0 ≤ n ∧ n < s ∧ l = 0) else decide (3 ≤ op ∧ op ≤ 7 ∧ n = 0 ∧ l = 2)
mutual
def fE (s : Int) : ScopeExp → Bool
 | ⟨op, n, ks⟩ => loc s op n ks.length && fL s ks
def fL (s : Int) : List ScopeExp → Bool
 | [] => true
 | k :: ks => fE s k && fL s ks
end
theorem nE_pos (e : ScopeExp) : 1 ≤ nE e := by cases e; simp only [nE]; omega
theorem aAM : ∀ l : List ScopeExp, l.length ≤ nL l
 | [] => by simp [nL]
 | k :: ks => by have := aAM ks; have := nE_pos k; simp only [nL, List.length_cons]; omega
theorem rA : ∀ {l : List ScopeExp} {e : ScopeExp}, e ∈ l → nE e ≤ nL l
 | k :: ks, e, h => by
  simp only [nL]
  cases h with
  | head => omega
  | tail _ h => have := rA h; omega
def okE (s : Int) (e : ScopeExp) : Bool := fE s e && decide (dE e ≤ 12) && decide (nE e ≤ 60)
def exR (s d w : Int) (e : ScopeExp) : Int ⊕ Value := if fE s e = true ∧ d + dE e ≤ 13 ∧ w + nE e ≤ 60 then .inl (w + nE e) else .inr flaw
theorem aCX {rec : ScopeExp → Int → Int → Int → Option (Int ⊕ Value)} {op n d s : Int} (hd : 0 ≤ d ∧ d ≤ 12) :
  ∀ (suf pre : List ScopeExp) (k : Nat) (w : Int), suf.length < k → pre.length + suf.length ≤ 1000000000 → 0 ≤ w → w ≤ 60 → (∀ e ∈ suf, ∀ w : Int, 0 ≤ w → w ≤ 60 → rec e (d + 1) w s = some (exR s (d + 1) w e)) →
   pD rec ⟨op, n, pre ++ suf⟩ d s k pre.length w = some (if fL s suf = true ∧ d + 1 + dL suf ≤ 13 ∧ w + nL suf ≤ 60 then .inl (w + nL suf) else .inr flaw)
 | [], pre, k + 1, w, _, _, h0, h1, _ => by
  rw [pD, if_neg (by simp), if_pos ⟨rfl, by simp [dL]; omega, by simpa [nL]⟩]; simp [nL]
 | e :: suf, pre, k + 1, w, hk, hB, h0, h1, hr => by
  rw [pD, if_pos (cC _ _ _), cA]
  have hr1 := hr e (.head _) w h0 h1
  simp only [List.length_cons] at hk hB
  simp only [bsm, aP (i := d + 1) (by omega)]
  rw [zV, hr1]
  simp only [bsm, exR]
  have hn := nE_pos e
  by_cases hc : fE s e = true ∧ d + 1 + dE e ≤ 13 ∧ w + nE e ≤ 60
  ·rw [if_pos hc]
   simp only [aP (i := (pre.length : Int) + 1) (by omega), bsm]
   rw [cF, bS, aCX hd suf (pre ++ [e]) k _ (by omega) (by simp; omega) (by omega) hc.2.2 (fun x hx => hr x (.tail _ hx))]
   congr 1
   by_cases hs : fL s suf = true ∧ d + 1 + dL suf ≤ 13 ∧ w + nE e + nL suf ≤ 60
   ·rw [if_pos hs, if_pos ⟨by simp [fL, hc.1, hs.1], by simp only [dL]; omega, by simp only [nL]; omega⟩]
    simp only [nL, Int.natCast_add]; congr 1; omega
   ·rw [if_neg hs, if_neg]
    rintro ⟨g1, g2, g3⟩
    simp only [fL, Bool.and_eq_true] at g1
    simp only [dL] at g2; simp only [nL] at g3
    exact hs ⟨g1.2, by omega, by omega⟩
  ·rw [if_neg hc]
   dsimp only
   rw [if_neg]
   rintro ⟨g1, g2, g3⟩
   simp only [fL, Bool.and_eq_true] at g1
   simp only [dL] at g2; simp only [nL] at g3
   exact hc ⟨g1.1, by omega, by omega⟩
theorem aDu : ∀ (fuel : Nat) (e : ScopeExp) (d w s : Int), nE e < fuel → nE e ≤ 1000000000 → 0 ≤ d → d ≤ 1000 → 0 ≤ w → w ≤ 60 → nP fuel e d w s = some (exR s d w e)
 | fuel + 1, ⟨op, n, ks⟩, d, w, s, hf, hB, hd, hd2, hw, hw2 => by
  rw [nP]
  simp only [nE] at hf hB
  have hlen := aAM ks
  simp only [aP (i := w + 1) (by omega), bsm]
  have hdE : dE ⟨op, n, ks⟩ = 1 + dL ks := by simp only [dE]
  have hnE : nE ⟨op, n, ks⟩ = 1 + nL ks := by simp only [nE]
  have hfE : fE s ⟨op, n, ks⟩ = (loc s op n ks.length && fL s ks) := by simp only [fE]
  by_cases h1 : w + 1 ≤ 60 ∧ d ≤ 12
  ·by_cases h2 : loc s op n ks.length = true
   ·have hloop := aCX (rec := nP fuel) (op := op) (n := n) (s := s) ⟨hd, h1.2⟩ ks [] fuel (w + 1) (by omega) (by simp; omega) (by omega) h1.1
     (fun e he w h0 h60 => aDu fuel e (d + 1) w s (by have := rA he; omega) (by have := rA he; omega) (by omega) (by omega) h0 h60)
    simp only [List.nil_append, List.length_nil, Int.natCast_zero] at hloop
    have hres : (some (if fL s ks = true ∧ d + 1 + (dL ks : Int) ≤ 13 ∧ w + 1 + (nL ks : Int) ≤ 60 then Sum.inl (w + 1 + (nL ks : Int)) else Sum.inr flaw) : Option (Int ⊕ Value)) = some (exR s d w ⟨op, n, ks⟩) := by
     unfold exR; rw [hdE, hnE, hfE, h2]
     congr 1
     by_cases hc : fL s ks = true ∧ d + 1 + (dL ks : Int) ≤ 13 ∧ w + 1 + (nL ks : Int) ≤ 60
     ·rw [if_pos hc, if_pos ⟨by simp [hc.1], by omega, by omega⟩]; congr 1; omega
     ·rw [if_neg hc, if_neg]
      rintro ⟨g1, g2, g3⟩
      exact hc ⟨by simpa using g1, by omega, by omega⟩
    rw [← hres, ← hloop]
    unfold loc at h2
    rw [if_pos h1.1, decide_eq_true h1.2, eT]
    simp only [bsm]
    by_cases o1 : op = 1
    ·rw [if_pos o1] at h2 ⊢
     obtain ⟨a, b, c⟩ := of_decide_eq_true h2
     rw [if_pos a, if_pos b, decide_eq_true (by omega), eT]; rfl
    ·rw [if_neg o1] at h2 ⊢
     by_cases o2 : op = 2
     ·rw [if_pos o2] at h2 ⊢
      obtain ⟨a, b, c⟩ := of_decide_eq_true h2
      rw [if_pos a, if_pos b, decide_eq_true (by omega), eT]; rfl
     ·rw [if_neg o2] at h2 ⊢
      obtain ⟨a, b, c, e⟩ := of_decide_eq_true h2
      have : ((if op = 3 then some (decide (op = 3)) else if op = 4 then some (decide (op = 4)) else if op = 5 then some (decide (op = 5)) else if op = 6 then some (decide (op = 6)) else some (decide (op = 7))) : Option Bool) = some true := by
       split; · simp_all
       split; · simp_all
       split; · simp_all
       split; · simp_all
       rw [decide_eq_true (by omega)]
      rw [this]
      simp only [bsm, cond_true]
      rw [if_pos c, decide_eq_true (by omega), eT]; rfl
   ·have hr : exR s d w ⟨op, n, ks⟩ = .inr flaw := by
     unfold exR; rw [if_neg]; rintro ⟨g, _⟩; rw [hfE] at g; simp [h2] at g
    rw [hr, if_pos h1.1, decide_eq_true h1.2, eT]
    simp only [bsm]
    unfold loc at h2
    by_cases o1 : op = 1
    ·rw [if_pos o1] at h2 ⊢
     simp only [decide_eq_true_eq] at h2
     by_cases a : -1000000000 ≤ n
     ·rw [if_pos a]
      by_cases b : n ≤ 1000000000
      ·rw [if_pos b, decide_eq_false (by omega), cV]; rfl
      ·rw [if_neg b, cV]; rfl
     ·rw [if_neg a, cV]; rfl
    ·rw [if_neg o1] at h2 ⊢
     by_cases o2 : op = 2
     ·rw [if_pos o2] at h2 ⊢
      simp only [decide_eq_true_eq] at h2
      by_cases a : 0 ≤ n
      ·rw [if_pos a]
       by_cases b : n < s
       ·rw [if_pos b, decide_eq_false (by omega), cV]; rfl
       ·rw [if_neg b, cV]; rfl
      ·rw [if_neg a, cV]; rfl
     ·rw [if_neg o2] at h2 ⊢
      simp only [decide_eq_true_eq] at h2
      have : ((if op = 3 then some (decide (op = 3)) else if op = 4 then some (decide (op = 4)) else if op = 5 then some (decide (op = 5)) else if op = 6 then some (decide (op = 6)) else some (decide (op = 7))) : Option Bool) = some (decide (3 ≤ op ∧ op ≤ 7)) := by
       split; · simp_all
       split; · simp_all
       split; · simp_all
       split; · simp_all
       congr 1; rw [decide_eq_decide]; omega
      rw [this]
      simp only [bsm]
      by_cases o3 : 3 ≤ op ∧ op ≤ 7
      ·rw [decide_eq_true o3]
       simp only [cond_true]
       by_cases a : n = 0
       ·rw [if_pos a, decide_eq_false (by omega), cV]; rfl
       ·rw [if_neg a, cV]; rfl
      ·rw [decide_eq_false o3, cV]; rfl
  ·have hr : exR s d w ⟨op, n, ks⟩ = .inr flaw := by
    unfold exR; rw [if_neg]; rintro ⟨_, g2, g3⟩; rw [hdE] at g2; rw [hnE] at g3; omega
   rw [hr]
   by_cases h2 : w + 1 ≤ 60
   ·rw [if_pos h2, decide_eq_false (by omega), cV]; rfl
   ·rw [if_neg h2, cV]; rfl
theorem exp_eq {fuel : Nat} {e : ScopeExp} {s : Int} (hf : nE e < fuel) (hB : nE e ≤ 1000000000) : xA fuel e s = some (if okE s e = true then .inl () else .inr flaw) := by
 rw [xA, zV, aDu fuel e 1 0 s hf hB (by omega) (by omega) (by omega) (by omega)]
 simp only [bsm, exR]
 by_cases h : fE s e = true ∧ (1 : Int) + dE e ≤ 13 ∧ (0 : Int) + nE e ≤ 60
 ·have h' : okE s e = true := by
   simp only [okE, Bool.and_eq_true, decide_eq_true_eq]; exact ⟨⟨h.1, by omega⟩, by omega⟩
  rw [if_pos h, if_pos h']
 ·have h' : ¬ okE s e = true := by
   simp only [okE, Bool.and_eq_true, decide_eq_true_eq]; intro g; exact h ⟨g.1.1, by omega, by omega⟩
  rw [if_neg h, if_neg h']
theorem aHv {rec : ScopeExp → Int → Option Int} {op n most : Int} (hm : -1000000000 ≤ most ∧ most ≤ 1000000000) (suf : List ScopeExp) :
  ∀ (pre : List ScopeExp) (k : Nat) (w : Int), suf.length < k → pre.length + suf.length ≤ 1000000000 → 0 ≤ w → w + nL suf ≤ 1000000000 → (∀ e ∈ suf, ∀ m : Int, -1000000000 ≤ m → m ≤ 1000000000 → ∃ v, rec e m = some v ∧ 0 ≤ v ∧ v ≤ nE e ∧ ((nE e : Int) ≤ m → v = nE e) ∧ (m < nE e → m < v)) →
   ∃ v, oF rec ⟨op, n, pre ++ suf⟩ most k w pre.length = some v ∧ 0 ≤ v ∧ v ≤ w + nL suf ∧ (w + (nL suf : Int) ≤ most → v = w + nL suf) ∧ (most < w + nL suf → most < v) := by
 induction suf with
 | nil =>
  intro pre k w hk _ h0 _ _
  obtain _ | k := k
  ·omega
  refine ⟨w, ?_, h0, by simp only [nL]; omega, fun _ => by simp only [nL]; omega, fun h => by simp only [nL] at h; omega⟩
  rw [oF, if_neg (by simp)]
 | cons e suf ih =>
  intro pre k w hk hB h0 hW hr
  obtain _ | k := k
  ·omega
  simp only [List.length_cons] at hk hB
  simp only [nL] at hW ⊢
  rw [oF, if_pos (cC _ _ _)]
  by_cases hw : w ≤ most
  ·rw [if_pos hw]
   simp only [cA, bsm, aP (i := most - w) (by omega)]
   obtain ⟨v, h1, h2, h3, h4, h5⟩ := hr e (.head _) (most - w) (by omega) (by omega)
   simp only [h1, bsm, aP (i := w + v) (by omega), aP (i := (pre.length : Int) + 1) (by omega)]
   rw [cF, bS]
   obtain ⟨u, g1, g2, g3, g4, g5⟩ := ih (pre ++ [e]) k (w + v) (by omega) (by simp; omega) (by omega) (by omega) (fun x hx => hr x (.tail _ hx))
   refine ⟨u, g1, g2, by omega, fun h => ?_, fun h => ?_⟩
   ·have := h4 (by omega); have := g4 (by omega); omega
   ·by_cases hv : (nE e : Int) ≤ most - w
    ·have := h4 hv; exact g5 (by omega)
    ·have := h5 (by omega); exact g5 (by omega)
  ·rw [if_neg hw]
   exact ⟨w, rfl, h0, by omega, fun h => by omega, fun _ => by omega⟩
theorem nodes_eq (fuel : Nat) : ∀ (e : ScopeExp) (m : Int), nE e < fuel → nE e ≤ 1000000000 → -1000000000 ≤ m → m ≤ 1000000000 → ∃ v, mJ fuel e m = some v ∧ 0 ≤ v ∧ v ≤ nE e ∧ ((nE e : Int) ≤ m → v = nE e) ∧ (m < nE e → m < v) := by
 induction fuel with
 | zero => intro e m h; omega
 | succ fuel ih =>
  intro ⟨op, n, ks⟩ m hf hB h0 h1
  simp only [nE] at hf hB ⊢
  have hlen := aAM ks
  obtain ⟨v, g1, g2, g3, g4, g5⟩ := aHv (rec := mJ fuel) (op := op) (n := n) ⟨h0, h1⟩ ks [] fuel 1 (by omega) (by simp; omega) (by omega) (by omega)
   (fun e he m h0 h1 => ih e m (by have := rA he; omega) (by have := rA he; omega) h0 h1)
  simp only [List.nil_append, List.length_nil, Int.natCast_zero] at g1
  exact ⟨v, by rw [mJ, g1]; rfl, g2, by omega, fun h => by have := g4 (by omega); omega, fun h => g5 (by omega)⟩
theorem aIp {rec : ScopeExp → Option Int} {op n : Int} (suf : List ScopeExp) :
  ∀ (pre : List ScopeExp) (k : Nat) (w : Int), suf.length < k → pre.length + suf.length ≤ 1000000000 → 0 ≤ w → (∀ e ∈ suf, rec e = some (dE e : Int)) →
   oM rec ⟨op, n, pre ++ suf⟩ k w pre.length = some (max w (dL suf : Int)) := by
 induction suf with
 | nil =>
  intro pre k w hk _ h0 _
  obtain _ | k := k
  ·omega
  rw [oM, if_neg (by simp)]; simp only [dL]; congr 1; omega
 | cons e suf ih =>
  intro pre k w hk hB h0 hr
  obtain _ | k := k
  ·omega
  simp only [List.length_cons] at hk hB
  rw [oM, if_pos (cC _ _ _)]
  simp only [cA, bsm, hr e (.head _), aP (i := (pre.length : Int) + 1) (by omega)]
  rw [cF, bS, ih (pre ++ [e]) k _ (by omega) (by simp; omega) (by omega) (fun x hx => hr x (.tail _ hx))]
  simp only [dL]; congr 1; omega
theorem dE_le : (∀ e, dE e ≤ nE e) ∧ ∀ l, dL l ≤ nL l := by
 refine ⟨fun e => ?_, fun l => ?_⟩
 ·exact go e
 ·exact goL l
where
 go : ∀ e, dE e ≤ nE e
  | ⟨_, _, ks⟩ => by have := goL ks; simp only [dE, nE]; omega
 goL : ∀ l, dL l ≤ nL l
  | [] => by simp [dL]
  | k :: ks => by have := go k; have := goL ks; simp only [dL, nL]; omega
theorem depth_eq (fuel : Nat) : ∀ (e : ScopeExp), nE e < fuel → nE e ≤ 1000000000 → nO fuel e = some (dE e : Int) := by
 induction fuel with
 | zero => intro e h; omega
 | succ fuel ih =>
  intro ⟨op, n, ks⟩ hf hB
  simp only [nE] at hf hB
  have hlen := aAM ks
  have h := aIp (rec := nO fuel) (op := op) (n := n) ks [] fuel 0 (by omega) (by simp; omega) (by omega) (fun e he => ih e (by have := rA he; omega) (by have := rA he; omega))
  simp only [List.nil_append, List.length_nil, Int.natCast_zero] at h
  have hd := dE_le.2 ks
  rw [nO, h, show max (0 : Int) (dL ks : Int) = dL ks from by omega]
  simp only [bsm, aP (i := (dL ks : Int) + 1) (by omega), dE]
  congr 1; omega
theorem aHc (fuel : Nat) : ∀ (e : ScopeExp) (s : Int), nE e < fuel → qN fuel e s = some (fE s e) := by
 induction fuel with
 | zero => intro e s h; omega
 | succ fuel ih =>
  intro ⟨op, n, ks⟩ s hf
  simp only [nE] at hf
  rw [qN]
  simp only [fE, loc]
  by_cases o1 : op = 1
  ·rw [if_pos o1, if_pos o1]
   by_cases c : (ks.length : Int) = 0
   ·have hk : ks = [] := List.eq_nil_of_length_eq_zero (by omega)
    subst hk
    rw [if_pos c]
    by_cases a : -1000000000 ≤ n
    ·rw [if_pos a]; simp [a, fL]
    ·rw [if_neg a]; simp [a, fL]
   ·rw [if_neg c]; have : ¬ ks.length = 0 := by omega
    simp [this]
  ·rw [if_neg o1, if_neg o1]
   by_cases o2 : op = 2
   ·rw [if_pos o2, if_pos o2]
    by_cases c : (ks.length : Int) = 0
    ·have hk : ks = [] := List.eq_nil_of_length_eq_zero (by omega)
     subst hk
     rw [if_pos c]
     by_cases a : 0 ≤ n
     ·rw [if_pos a]; simp [a, fL]
     ·rw [if_neg a]; simp [a, fL]
    ·rw [if_neg c]; have : ¬ ks.length = 0 := by omega
     simp [this]
   ·rw [if_neg o2, if_neg o2]
    by_cases a : op < 3
    ·rw [if_pos a]; simp; intro _; omega
    ·rw [if_neg a]
     by_cases b : 7 < op
     ·rw [if_pos b]; simp; intro _; omega
     ·rw [if_neg b]
      by_cases c : (ks.length : Int) ≠ 2
      ·rw [if_pos c]; simp; intro _ _ _; omega
      ·rw [if_neg c]
       by_cases e : n ≠ 0
       ·rw [if_pos e]; simp [e]
       ·rw [if_neg e]
        match ks, c, hf with
        | [x, y], _, hf =>
         simp only [nL] at hf
         have h1 := ih x s (by omega)
         have h2 := ih y s (by omega)
         have i0 : idx [x, y] 0 = some x := rfl
         have i1 : idx [x, y] 1 = some y := rfl
         have : decide (3 ≤ op ∧ op ≤ 7 ∧ n = 0 ∧ [x, y].length = 2) = true := decide_eq_true ⟨by omega, by omega, by omega, rfl⟩
         rw [this]
         simp only [i0, i1, h1, h2, bsm, fL, Bool.true_and, Bool.and_true]
         cases fE s x <;> simp
        | [], c, _ => simp at c
        | [_], c, _ => simp at c
        | _ :: _ :: _ :: _, c, _ => simp at c; omega
theorem aHd {fuel : Nat} {e : ScopeExp} {s : Int} (hf : nE e < fuel) (hB : nE e ≤ 1000000000) : wH fuel e s = some (okE s e) := by
 obtain ⟨v, h1, h2, h3, h4, h5⟩ := nodes_eq fuel e 60 hf hB (by omega) (by omega)
 rw [wH, zV, h1, depth_eq fuel e hf hB, aHc fuel e s hf]
 simp only [bsm, okE]
 by_cases hn : (nE e : Int) ≤ 60
 ·rw [h4 hn, if_pos hn]
  by_cases hd : (dE e : Int) ≤ 12
  ·rw [if_pos hd]; have h1 : dE e ≤ 12 := by omega
   have h2 : nE e ≤ 60 := by omega
   simp [h1, h2]
  ·rw [if_neg hd]; have : ¬ dE e ≤ 12 := by omega
   simp [this]
 ·have := h5 (by omega)
  rw [if_neg (by omega)]; have : ¬ nE e ≤ 60 := by omega
  simp [this]
end Go.Proofs.Ytmnbfgeljmhekaa
set_option maxRecDepth 100000
namespace Go.Proofs.Ytmnbfgeljmhekaa
open Go.SX Go.SW Go.Dt
def gF (n : Nat) (c : ScopeChan) : Bool := decide (0 ≤ c.At ∧ c.At ≤ (n : Int) ∧ 0 ≤ c.Many ∧ c.Many ≤ 3)
def lD : Nat → List ScopeSpot → Bool
 | _, [] => true
 | i, s :: l => decide (0 ≤ s.In ∧ s.In ≤ (i : Int)) && lD (i + 1) l
def mS (chans : List ScopeChan) (at_ : Int) : List Int → List Int → List Bool → Option (List Bool)
 | _, [], u => some u
 | pre, c :: js, u => match idx chans c with
  | some ch => if ch.At = at_ ∧ c ∉ pre then mS chans at_ (pre ++ [c]) js (u.set c.toNat true) else none
  | none => none
def okR (n : Nat) (r : ScopeRule) : Prop := 0 ≤ r.At ∧ r.At ≤ (n : Int) ∧ 1 ≤ r.Joins.length ∧ r.Joins.length ≤ 3
instance {n : Nat} {r : ScopeRule} : Decidable (okR n r) := by unfold okR; infer_instance
def jE (chans : List ScopeChan) (n : Nat) : List ScopeRule → List Bool → Option (List Bool)
 | [], u => some u
 | r :: rs, u => if okR n r then (mS chans r.At [] r.Joins u).bind (jE chans n rs) else none
def okU (o : Option (List Bool)) : Bool := match o with
 | some u => u.all id
 | none => false
def okD (d : ScopeDef) : Bool := decide (d.Chans.length ≤ 30 ∧ d.Spots.length ≤ 30 ∧ d.Rules.length ≤ 30) && d.Chans.all (gF d.Spots.length) && lD 0 d.Spots && okU (jE d.Chans d.Spots.length d.Rules (List.replicate d.Chans.length false))
def smD (d : ScopeDef) : Prop := d.Chans.length ≤ 2000000 ∧ d.Spots.length ≤ 2000000 ∧ d.Rules.length ≤ 2000000 ∧ ∀ r ∈ d.Rules, r.Joins.length ≤ 2000000
theorem cM {α : Type} {xs : List α} {i : Int} (h0 : 0 ≤ i) (h1 : i < xs.length) : ∃ y, idx xs i = some y := by
 unfold idx; rw [if_pos h0]; exact ⟨xs[i.toNat]'(by omega), by simp⟩
theorem kC {α : Type} {xs : List α} {i : Int} (h : ¬ (0 ≤ i ∧ i < xs.length)) : idx xs i = none := by
 unfold idx; split
 ·simp; omega
 ·rfl
theorem aGu {c : Int} (suf : List Int) : ∀ (pre : List Int) (k : Nat), suf.length < k → pre.length + suf.length ≤ 3000000 → c ∉ pre →
  ∃ r, nU (pre ++ suf) c k pre.length = some r ∧ ((c ∈ suf ∧ ∃ i : Int, r = .inr i ∧ 0 ≤ i) ∨ (c ∉ suf ∧ r = .inl ())) := by
 induction suf with
 | nil =>
  intro pre k hk _ _
  obtain _ | k := k
  ·omega
  exact ⟨_, by rw [nU, if_neg (by simp)], .inr ⟨by simp, rfl⟩⟩
 | cons e suf ih =>
  intro pre k hk hB hn
  obtain _ | k := k
  ·omega
  simp only [List.length_cons] at hk hB
  by_cases he : c = e
  ·exact ⟨_, by rw [nU, if_pos (cC _ _ _), cA, bsm, if_pos he]; rfl, .inl ⟨by simp [he], _, rfl, by omega⟩⟩
  ·obtain ⟨r, h1, h2⟩ := ih (pre ++ [e]) k (by omega) (by simp; omega) (by simp [hn, he])
   refine ⟨r, ?_, ?_⟩
   ·rw [nU, if_pos (cC _ _ _), cA, bsm, if_neg he, aP (by omega), bsm, cF pre suf e, bS pre e]; exact h1
   ·rcases h2 with ⟨h2, h3⟩ | ⟨h2, h3⟩
    ·exact .inl ⟨by simp [h2], h3⟩
    ·exact .inr ⟨by simp [h2, he], h3⟩
theorem aGE {fuel : Nat} {l : List Int} {c : Int} (hf : l.length < fuel) (hB : l.length ≤ 3000000) : wX fuel l c = some (decide (c ∈ l)) := by
 obtain ⟨r, h1, h2⟩ := aGu (c := c) l [] fuel hf (by simpa using hB) (by simp)
 simp only [List.nil_append, List.length_nil, Int.natCast_zero] at h1
 rw [wX, aAg, h1]
 rcases h2 with ⟨h2, i, rfl, h3⟩ | ⟨h2, rfl⟩
 ·simp [h2, h3]
 ·simp [h2]
theorem aDM {a : Int} {d : ScopeDef} : uT a d = some (if 0 ≤ a ∧ a ≤ (d.Spots.length : Int) then .inl () else .inr flaw) := by
 rw [uT]
 by_cases h : 0 ≤ a
 ·rw [if_pos h]
  by_cases h2 : a ≤ (d.Spots.length : Int)
  ·rw [decide_eq_true h2, eT, if_pos ⟨h, h2⟩]; rfl
  ·rw [decide_eq_false h2, cV, if_neg (fun g => h2 g.2)]; rfl
 ·rw [if_neg h, cV, if_neg (fun g => h g.1)]; rfl
theorem dl1 {sp : List ScopeSpot} {ru : List ScopeRule} (suf : List ScopeChan) : ∀ (pre : List ScopeChan) (k : Nat), suf.length < k → pre.length + suf.length ≤ 3000000 →
  oU ⟨pre ++ suf, sp, ru⟩ k pre.length = some (if suf.all (gF sp.length) = true then .inl () else .inr (.inr flaw)) := by
 induction suf with
 | nil =>
  intro pre k hk _
  obtain _ | k := k
  ·omega
  rw [oU, if_neg (by simp), if_pos (by rfl)]
 | cons e suf ih =>
  intro pre k hk hB
  obtain _ | k := k
  ·omega
  simp only [List.length_cons] at hk hB
  rw [oU, if_pos (cC _ _ _)]
  dsimp only
  rw [cA, bsm, aDM, bsm]
  simp only [List.all_cons, Bool.and_eq_true]
  by_cases h1 : 0 ≤ e.At ∧ e.At ≤ (sp.length : Int)
  ·rw [if_pos h1]
   dsimp only
   by_cases h2 : 0 ≤ e.Many
   ·rw [if_pos h2]
    by_cases h3 : e.Many ≤ 3
    ·rw [decide_eq_true h3, eT, bsm, bsm]
     dsimp only
     rw [aP (by omega), bsm, cF pre suf e, bS pre e, ih (pre ++ [e]) k (by omega) (by simp; omega)]
     have : gF sp.length e = true := decide_eq_true ⟨h1.1, h1.2, h2, h3⟩
     simp [this]
    ·have hn : ¬ (gF sp.length e = true ∧ suf.all (gF sp.length) = true) := by
      rintro ⟨g, _⟩; exact h3 (of_decide_eq_true g).2.2.2
     rw [decide_eq_false h3, cV, if_neg hn]; rfl
   ·have hn : ¬ (gF sp.length e = true ∧ suf.all (gF sp.length) = true) := by
     rintro ⟨g, _⟩; exact h2 (of_decide_eq_true g).2.2.1
    rw [if_neg h2, cV, if_neg hn]; rfl
  ·have hn : ¬ (gF sp.length e = true ∧ suf.all (gF sp.length) = true) := by
    rintro ⟨g, _⟩; exact h1 ⟨(of_decide_eq_true g).1, (of_decide_eq_true g).2.1⟩
   rw [if_neg h1, if_neg hn]; rfl
theorem dl2 {ch : List ScopeChan} {ru : List ScopeRule} (suf : List ScopeSpot) : ∀ (pre : List ScopeSpot) (k : Nat), suf.length < k → pre.length + suf.length ≤ 3000000 →
  oW ⟨ch, pre ++ suf, ru⟩ k pre.length = some (if lD pre.length suf = true then .inl () else .inr (.inr flaw)) := by
 induction suf with
 | nil =>
  intro pre k hk _
  obtain _ | k := k
  ·omega
  rw [oW, if_neg (by simp), if_pos (by rfl)]
 | cons e suf ih =>
  intro pre k hk hB
  obtain _ | k := k
  ·omega
  simp only [List.length_cons] at hk hB
  rw [oW, if_pos (cC _ _ _)]
  dsimp only
  rw [cA, bsm]
  simp only [lD, Bool.and_eq_true, decide_eq_true_eq]
  by_cases h2 : 0 ≤ e.In
  ·rw [if_pos h2]
   by_cases h3 : e.In ≤ (pre.length : Int)
   ·rw [decide_eq_true h3, eT, bsm, bsm]
    dsimp only
    rw [aP (by omega), bsm, cF pre suf e, bS pre e, ih (pre ++ [e]) k (by omega) (by simp; omega)]
    simp [h2, h3]
   ·rw [decide_eq_false h3, cV, if_neg (fun g => h3 g.1.2)]; rfl
  ·rw [if_neg h2, cV, if_neg (fun g => h2 g.1.1)]; rfl
def Like (g : aQ Int Bool) (u : List Bool) : Prop := (∀ i : Nat, g.get i = if u[i]? = some true then some true else none) ∧ g.size = u.countP id
theorem like_upd {g : aQ Int Bool} {u : List Bool} {c : Int} (h : Like g u) (h0 : 0 ≤ c) (h1 : c < u.length) : Like (aQ.upd g c true) (u.set c.toNat true) := by
 obtain ⟨n, rfl⟩ : ∃ n : Nat, c = n := ⟨c.toNat, by omega⟩
 have hn : n < u.length := by omega
 simp only [Int.toNat_natCast]
 refine ⟨fun i => ?_, ?_⟩
 ·simp only [aQ.upd]
  by_cases hi : (i : Int) = n
  ·have : i = n := by omega
   subst this
   rw [if_pos rfl]; simp [hn]
  ·rw [if_neg hi, h.1 i]
   have : n ≠ i := by omega
   simp [this]
 ·simp only [aQ.upd]
  rw [h.1 n, List.countP_set (h := hn), h.2]
  have hge : u[n]? = some u[n] := by simp [hn]
  rw [hge]
  cases hu : u[n] with
  | false => simp
  | true =>
   have hpos : 0 < u.countP id := List.countP_pos_iff.2 ⟨u[n], List.getElem_mem hn, by simpa using hu⟩
   simp; omega
theorem dl4 {ch : List ScopeChan} {sp : List ScopeSpot} {ru : List ScopeRule} {a nd : Int} (suf : List Int) {fuel : Nat} : ∀ (pre : List Int) (k : Nat) (g : aQ Int Bool) (u : List Bool), suf.length < k → pre.length + suf.length < fuel → pre.length + suf.length ≤ 3000000 → u.length = ch.length → Like g u →
  (∃ u' g', mS ch a pre suf u = some u' ∧ u'.length = ch.length ∧ Like g' u' ∧ kV fuel ⟨ch, sp, ru⟩ ⟨a, pre ++ suf, nd⟩ k pre.length g = some (.inl g')) ∨
  (mS ch a pre suf u = none ∧ kV fuel ⟨ch, sp, ru⟩ ⟨a, pre ++ suf, nd⟩ k pre.length g = some (.inr (.inr (.inr flaw)))) := by
 induction suf with
 | nil =>
  intro pre k g u hk _ _ hl hg
  obtain _ | k := k
  ·omega
  exact .inl ⟨u, g, rfl, hl, hg, by rw [kV, if_neg (by simp)]⟩
 | cons e suf ih =>
  intro pre k g u hk hf hB hl hg
  obtain _ | k := k
  ·omega
  simp only [List.length_cons] at hk hB hf
  rw [kV, if_pos (cC _ _ _)]
  dsimp only
  rw [cA, bsm]
  simp only [mS]
  by_cases h1 : 0 ≤ e ∧ e < (ch.length : Int)
  ·obtain ⟨y, hy⟩ := cM h1.1 h1.2
   rw [if_pos h1.1, if_pos h1.2, hy, bsm]
   dsimp only
   by_cases h2 : y.At = a
   ·rw [if_pos h2]
    have hs : slc (pre ++ e :: suf) 0 pre.length = some pre := by
     unfold slc; rw [if_pos ⟨by omega, by omega, by simp; omega⟩]; simp
    rw [hs, bsm, aGE (by omega) (by omega), bsm]
    by_cases h3 : e ∈ pre
    ·rw [decide_eq_true h3, if_neg (fun q => q.2 h3)]
     exact .inr ⟨rfl, by rw [show (!true) = false from rfl, cV]; rfl⟩
    ·rw [decide_eq_false h3, if_pos ⟨h2, h3⟩, show (!false) = true from rfl, eT, bsm, bsm]
     dsimp only
     rw [aP (by omega), bsm, cF pre suf e, bS pre e]
     exact ih (pre ++ [e]) k _ _ (by omega) (by simp; omega) (by simp; omega) (by simpa using hl) (like_upd hg h1.1 (by omega))
   ·rw [if_neg h2, cV, if_neg (fun q => h2 q.1)]
    exact .inr ⟨rfl, rfl⟩
  ·rw [kC h1]
   refine .inr ⟨rfl, ?_⟩
   by_cases h0 : 0 ≤ e
   ·rw [if_pos h0, if_neg (fun q => h1 ⟨h0, q⟩), cV]; rfl
   ·rw [if_neg h0, cV]; rfl
theorem dl3 {ch : List ScopeChan} {sp : List ScopeSpot} {fuel : Nat} (suf : List ScopeRule) : ∀ (pre : List ScopeRule) (k : Nat) (g : aQ Int Bool) (u : List Bool), suf.length < k → pre.length + suf.length ≤ 3000000 → 2000000 < fuel → (∀ r ∈ suf, r.Joins.length ≤ 2000000) → u.length = ch.length → Like g u →
  (∃ u' g', jE ch sp.length suf u = some u' ∧ u'.length = ch.length ∧ Like g' u' ∧ mX fuel ⟨ch, sp, pre ++ suf⟩ k pre.length g = some (.inl g')) ∨
  (jE ch sp.length suf u = none ∧ mX fuel ⟨ch, sp, pre ++ suf⟩ k pre.length g = some (.inr (.inr flaw))) := by
 induction suf with
 | nil =>
  intro pre k g u hk _ _ _ hl hg
  obtain _ | k := k
  ·omega
  exact .inl ⟨u, g, rfl, hl, hg, by rw [mX, if_neg (by simp)]⟩
 | cons e suf ih =>
  intro pre k g u hk hB hf hJ hl hg
  obtain _ | k := k
  ·omega
  simp only [List.length_cons] at hk hB
  have hj := hJ e (.head _)
  rw [mX, if_pos (cC _ _ _)]
  dsimp only
  rw [cA, bsm, aDM, bsm]
  simp only [jE]
  by_cases h1 : 0 ≤ e.At ∧ e.At ≤ (sp.length : Int)
  ·rw [if_pos h1]
   dsimp only
   by_cases h2 : 0 < (e.Joins.length : Int)
   ·rw [if_pos h2]
    by_cases h3 : (e.Joins.length : Int) ≤ 3
    ·rw [decide_eq_true h3, eT, bsm, if_pos (show okR sp.length e from ⟨h1.1, h1.2, by omega, by omega⟩)]
     have h4 := dl4 (ch := ch) (sp := sp) (ru := pre ++ e :: suf) (a := e.At) (nd := e.Node) e.Joins (fuel := fuel) [] fuel g u (by omega) (by simp; omega) (by simp; omega) hl hg
     simp only [List.nil_append, List.length_nil, Int.natCast_zero] at h4
     rcases h4 with ⟨u', g', a1, a2, a3, a4⟩ | ⟨a1, a4⟩
     ·rw [a1, bsm]
      have : ((kV fuel ⟨ch, sp, pre ++ e :: suf⟩ e fuel 0 g) = some (.inl g')) := a4
      dsimp only
      rw [bsm]; dsimp only
      rw [this, bsm]; dsimp only
      rw [aP (by omega), bsm, cF pre suf e, bS pre e]
      exact ih (pre ++ [e]) k g' u' (by omega) (by simp; omega) hf (fun r hr => hJ r (.tail _ hr)) a2 a3
     ·rw [a1]
      have : ((kV fuel ⟨ch, sp, pre ++ e :: suf⟩ e fuel 0 g) = some (.inr (.inr (.inr flaw)))) := a4
      refine .inr ⟨rfl, ?_⟩
      dsimp only
      rw [bsm]; dsimp only
      rw [this]; rfl
    ·rw [decide_eq_false h3, cV, if_neg (show ¬ okR sp.length e from fun q => h3 (by have := q.2.2.2; omega))]
     exact .inr ⟨rfl, rfl⟩
   ·rw [if_neg h2, cV, if_neg (show ¬ okR sp.length e from fun q => h2 (by have := q.2.2.1; omega))]
    exact .inr ⟨rfl, rfl⟩
  ·rw [if_neg h1, if_neg (show ¬ okR sp.length e from fun q => h1 ⟨q.1, q.2.1⟩)]
   exact .inr ⟨rfl, rfl⟩
theorem def_eq {fuel : Nat} {d : ScopeDef} (hf : 3000000 ≤ fuel) (hs : smD d) : sV fuel d = some (if okD d = true then .inl () else .inr flaw) := by
 obtain ⟨ch, sp, ru⟩ := d
 obtain ⟨s1, s2, s3, s4⟩ := hs
 dsimp only at s1 s2 s3 s4
 rw [sV]
 dsimp only
 have e1 := dl1 (sp := sp) (ru := ru) ch [] fuel (by omega) (by simp; omega)
 have e2 := dl2 (ch := ch) (ru := ru) sp [] fuel (by omega) (by simp; omega)
 have e3 := dl3 (ch := ch) (sp := sp) (fuel := fuel) ru [] fuel aQ.none (List.replicate ch.length false) (by omega) (by simp; omega) (by omega) s4 (by simp) ⟨fun i => by simp [aQ.none, List.getElem?_replicate], by simp [aQ.none, List.countP_replicate]⟩
 simp only [List.nil_append, List.length_nil, Int.natCast_zero] at e1 e2 e3
 by_cases l1 : ch.length ≤ 30
 ·rw [if_pos (by omega)]
  by_cases l2 : sp.length ≤ 30
  ·rw [if_pos (by omega)]
   by_cases l3 : ru.length ≤ 30
   ·rw [decide_eq_true (by omega), eT, bsm, bsm]
    dsimp only
    rw [e1, bsm]
    have hok : okD ⟨ch, sp, ru⟩ = (ch.all (gF sp.length) && lD 0 sp && okU (jE ch sp.length ru (List.replicate ch.length false))) := by
     simp only [okD]; rw [decide_eq_true ⟨l1, l2, l3⟩]; simp
    rw [hok]
    cases h1 : ch.all (gF sp.length) with
    | false => simp
    | true =>
     simp only [if_true, Bool.true_and]
     rw [e2, bsm]
     cases h2 : lD 0 sp with
     | false => simp
     | true =>
      simp only [if_true, Bool.true_and]
      rcases e3 with ⟨u, g, a1, a2, a3, a4⟩ | ⟨a1, a4⟩
      ·rw [a4, bsm]
       dsimp only
       rw [a1]
       have hc : ((g.size : Int) = (ch.length : Int)) ↔ okU (some u) = true := by
        show _ ↔ u.all id = true
        rw [a3.2, ← a2, List.all_eq_true]
        constructor
        ·intro h; exact List.countP_eq_length.1 (by omega)
        ·intro h; have := List.countP_eq_length.2 h; omega
       by_cases hh : (g.size : Int) = (ch.length : Int)
       ·rw [decide_eq_true hh, eT, if_pos (hc.1 hh)]; rfl
       ·rw [decide_eq_false hh, cV, if_neg (fun q => hh (hc.2 q))]; rfl
      ·rw [a4, bsm, a1]; simp [okU]
   ·rw [decide_eq_false (by omega), cV, if_neg]; rfl
    intro g; simp only [okD, Bool.and_eq_true, decide_eq_true_eq] at g; exact l3 g.1.1.1.2.2
  ·rw [if_neg (by omega), cV, if_neg]; rfl
   intro g; simp only [okD, Bool.and_eq_true, decide_eq_true_eq] at g; exact l2 g.1.1.1.2.1
 ·rw [if_neg (by omega), cV, if_neg]; rfl
  intro g; simp only [okD, Bool.and_eq_true, decide_eq_true_eq] at g; exact l1 g.1.1.1.1
theorem rl1 {sp : List ScopeSpot} {ru : List ScopeRule} (suf : List ScopeChan) : ∀ (pre : List ScopeChan) (k : Nat), suf.length < k → pre.length + suf.length ≤ 3000000 →
  pA ⟨pre ++ suf, sp, ru⟩ k pre.length = some (if suf.all (gF sp.length) = true then .inl () else .inr false) := by
 induction suf with
 | nil =>
  intro pre k hk _
  obtain _ | k := k
  ·omega
  rw [pA, if_neg (by simp), if_pos (by rfl)]
 | cons e suf ih =>
  intro pre k hk hB
  obtain _ | k := k
  ·omega
  simp only [List.length_cons] at hk hB
  have hall : (e :: suf).all (gF sp.length) = (gF sp.length e && suf.all (gF sp.length)) := rfl
  rw [pA, if_pos (cC _ _ _), hall]
  dsimp only
  rw [cA, bsm]
  by_cases hc : gF sp.length e = true
  ·obtain ⟨c1, c2, c3, c4⟩ := of_decide_eq_true hc
   rw [if_neg (by omega), bsm, if_neg (by omega), bsm, if_neg (by omega), bsm, if_neg (by omega), aP (by omega), bsm, cF pre suf e, bS pre e, ih (pre ++ [e]) k (by omega) (by simp; omega), hc, Bool.true_and]
  ·have hf : gF sp.length e = false := by simpa using hc
   rw [hf, Bool.false_and, if_neg (show ¬ (false = true) from Bool.false_ne_true)]
   have hd : ¬ (0 ≤ e.At ∧ e.At ≤ (sp.length : Int) ∧ 0 ≤ e.Many ∧ e.Many ≤ 3) := of_decide_eq_false hf
   by_cases c1 : e.At < 0
   ·rw [if_pos c1]; rfl
   ·rw [if_neg c1, bsm]
    by_cases c2 : (sp.length : Int) < e.At
    ·rw [if_pos c2]; rfl
    ·rw [if_neg c2, bsm]
     by_cases c3 : e.Many < 0
     ·rw [if_pos c3]; rfl
     ·rw [if_neg c3, bsm, if_pos (by omega)]; rfl
theorem rl2 {ch : List ScopeChan} {ru : List ScopeRule} (suf : List ScopeSpot) : ∀ (pre : List ScopeSpot) (k : Nat), suf.length < k → pre.length + suf.length ≤ 3000000 →
  pQ ⟨ch, pre ++ suf, ru⟩ k pre.length = some (if lD pre.length suf = true then .inl () else .inr false) := by
 induction suf with
 | nil =>
  intro pre k hk _
  obtain _ | k := k
  ·omega
  rw [pQ, if_neg (by simp), if_pos (by rfl)]
 | cons e suf ih =>
  intro pre k hk hB
  obtain _ | k := k
  ·omega
  simp only [List.length_cons] at hk hB
  have hall : lD pre.length (e :: suf) = (decide (0 ≤ e.In ∧ e.In ≤ (pre.length : Int)) && lD (pre.length + 1) suf) := rfl
  rw [pQ, if_pos (cC _ _ _), hall]
  dsimp only
  rw [cA, bsm]
  by_cases hc : 0 ≤ e.In ∧ e.In ≤ (pre.length : Int)
  ·have hp : (pre ++ [e]).length = pre.length + 1 := by simp
   rw [if_neg (by omega), bsm, if_neg (by omega), aP (by omega), bsm, cF pre suf e, bS pre e, ih (pre ++ [e]) k (by omega) (by simp; omega), decide_eq_true hc, Bool.true_and, hp]
  ·rw [decide_eq_false hc, Bool.false_and, if_neg (show ¬ (false = true) from Bool.false_ne_true)]
   by_cases c1 : e.In < 0
   ·rw [if_pos c1]; rfl
   ·rw [if_neg c1, bsm, if_pos (by omega)]; rfl
theorem rl5 {a nd c : Int} {js : List Int} (suf : List Int) : ∀ (pre : List Int) (k : Nat) (post : List Int), js = pre ++ suf ++ post → suf.length < k → pre.length + suf.length ≤ 3000000 →
  pF ⟨a, js, nd⟩ (pre.length + suf.length : Nat) c k pre.length = some (if c ∈ suf then .inr (.inr (.inr (.inr false))) else .inl ()) := by
 induction suf with
 | nil =>
  intro pre k post _ hk _
  obtain _ | k := k
  ·omega
  rw [pF, if_neg (by simp), if_neg (by simp)]
 | cons e suf ih =>
  intro pre k post hj hk hB
  obtain _ | k := k
  ·omega
  simp only [List.length_cons] at hk hB
  have hi : idx js (pre.length : Int) = some e := by rw [hj]; exact bB (by simp)
  rw [pF, if_pos (by simp; omega)]
  dsimp only
  rw [hi, bsm]
  by_cases hc : e = c
  ·rw [if_pos hc, if_pos (by simp [hc])]; rfl
  ·have h := ih (pre ++ [e]) k post (by simp [hj]) (by omega) (by simp; omega)
   have hl : (pre ++ [e]).length + suf.length = pre.length + (e :: suf).length := by simp; omega
   rw [hl] at h
   have hm : (c ∈ e :: suf) ↔ c ∈ suf := by simp [Ne.symm hc]
   rw [if_neg hc, aP (by omega), bsm, bS pre e, h]
   by_cases hs : c ∈ suf
   ·rw [if_pos hs, if_pos (hm.2 hs)]
   ·rw [if_neg hs, if_neg (fun q => hs (hm.1 q))]
theorem rl4 {ch : List ScopeChan} {sp : List ScopeSpot} {ru : List ScopeRule} {a nd : Int} (suf : List Int) {fuel : Nat} : ∀ (pre : List Int) (k : Nat) (u : List Bool), suf.length < k → pre.length + suf.length < fuel → pre.length + suf.length ≤ 3000000 → u.length = ch.length →
  (∃ u', mS ch a pre suf u = some u' ∧ u'.length = ch.length ∧ kG fuel ⟨ch, sp, ru⟩ ⟨a, pre ++ suf, nd⟩ k u pre.length = some (.inl u')) ∨
  (mS ch a pre suf u = none ∧ kG fuel ⟨ch, sp, ru⟩ ⟨a, pre ++ suf, nd⟩ k u pre.length = some (.inr (.inr false))) := by
 induction suf with
 | nil =>
  intro pre k u hk _ _ hl
  obtain _ | k := k
  ·omega
  exact .inl ⟨u, rfl, hl, by rw [kG, if_neg (by simp)]⟩
 | cons e suf ih =>
  intro pre k u hk hf hB hl
  obtain _ | k := k
  ·omega
  simp only [List.length_cons] at hk hB hf
  rw [kG, if_pos (cC _ _ _)]
  dsimp only
  rw [cA, bsm]
  simp only [mS]
  by_cases h1 : 0 ≤ e ∧ e < (ch.length : Int)
  ·obtain ⟨y, hy⟩ := cM h1.1 h1.2
   obtain ⟨b, hb⟩ := cM (xs := u) h1.1 (by omega)
   rw [hy, if_neg (show ¬ e < 0 by omega), if_neg (show ¬ (ch.length : Int) ≤ e by omega), bsm]
   dsimp only
   by_cases h2 : y.At = a
   ·have h5 := rl5 (a := a) (nd := nd) (c := e) (js := pre ++ e :: suf) pre [] fuel (e :: suf) (by simp) (by omega) (by simp; omega)
    simp only [List.length_nil, Nat.zero_add, Int.natCast_zero] at h5
    rw [if_neg (show ¬ (y.At ≠ a) from fun q => q h2), h5, bsm]
    by_cases h3 : e ∈ pre
    ·rw [if_pos h3, if_neg (show ¬ (y.At = a ∧ e ∉ pre) from fun q => q.2 h3)]
     exact .inr ⟨rfl, rfl⟩
    ·rw [if_neg h3, if_pos (show y.At = a ∧ e ∉ pre from ⟨h2, h3⟩)]
     dsimp only
     rw [hb, bsm, bsm]
     dsimp only
     rw [aP (by omega), bsm, cF pre suf e, bS pre e]
     exact ih (pre ++ [e]) k _ (by omega) (by simp; omega) (by simp; omega) (by simpa using hl)
   ·rw [if_pos (show y.At ≠ a from h2), if_neg (show ¬ (y.At = a ∧ e ∉ pre) from fun q => h2 q.1)]
    exact .inr ⟨rfl, rfl⟩
  ·rw [kC h1]
   refine .inr ⟨rfl, ?_⟩
   by_cases h0 : e < 0
   ·rw [if_pos h0]; rfl
   ·rw [if_neg h0, if_pos (by omega)]; rfl
theorem rl3 {ch : List ScopeChan} {sp : List ScopeSpot} {fuel : Nat} (suf : List ScopeRule) : ∀ (pre : List ScopeRule) (k : Nat) (u : List Bool), suf.length < k → pre.length + suf.length ≤ 3000000 → 2000000 < fuel → (∀ r ∈ suf, r.Joins.length ≤ 2000000) → u.length = ch.length →
  (∃ u', jE ch sp.length suf u = some u' ∧ u'.length = ch.length ∧ mV fuel ⟨ch, sp, pre ++ suf⟩ k u pre.length = some (.inl u')) ∨
  (jE ch sp.length suf u = none ∧ mV fuel ⟨ch, sp, pre ++ suf⟩ k u pre.length = some (.inr false)) := by
 induction suf with
 | nil =>
  intro pre k u hk _ _ _ hl
  obtain _ | k := k
  ·omega
  exact .inl ⟨u, rfl, hl, by rw [mV, if_neg (by simp)]⟩
 | cons e suf ih =>
  intro pre k u hk hB hf hJ hl
  obtain _ | k := k
  ·omega
  simp only [List.length_cons] at hk hB
  have hj := hJ e (.head _)
  rw [mV, if_pos (cC _ _ _)]
  dsimp only
  rw [cA, bsm]
  simp only [jE]
  by_cases h1 : okR sp.length e
  ·obtain ⟨c1, c2, c3, c4⟩ := h1
   rw [if_pos (show okR sp.length e from ⟨c1, c2, c3, c4⟩), if_neg (show ¬ e.At < 0 by omega), if_neg (show ¬ (sp.length : Int) < e.At by omega), if_neg (show ¬ (e.Joins.length : Int) < 1 by omega), if_neg (show ¬ 3 < (e.Joins.length : Int) by omega)]
   have h4 := rl4 (ch := ch) (sp := sp) (ru := pre ++ e :: suf) (a := e.At) (nd := e.Node) e.Joins (fuel := fuel) [] fuel u (by omega) (by simp; omega) (by simp; omega) hl
   simp only [List.nil_append, List.length_nil, Int.natCast_zero] at h4
   rcases h4 with ⟨u', a1, a2, a4⟩ | ⟨a1, a4⟩
   ·have : ((kG fuel ⟨ch, sp, pre ++ e :: suf⟩ e fuel u 0) = some (.inl u')) := a4
    rw [a1, bsm, this, bsm]
    dsimp only
    rw [aP (by omega), bsm, cF pre suf e, bS pre e]
    exact ih (pre ++ [e]) k u' (by omega) (by simp; omega) hf (fun r hr => hJ r (.tail _ hr)) a2
   ·have : ((kG fuel ⟨ch, sp, pre ++ e :: suf⟩ e fuel u 0) = some (.inr (.inr false))) := a4
    rw [a1, this]
    exact .inr ⟨rfl, rfl⟩
  ·rw [if_neg h1]
   refine .inr ⟨rfl, ?_⟩
   unfold okR at h1
   by_cases c1 : e.At < 0
   ·rw [if_pos c1]; rfl
   ·rw [if_neg c1]
    by_cases c2 : (sp.length : Int) < e.At
    ·rw [if_pos c2]; rfl
    ·rw [if_neg c2]
     by_cases c3 : (e.Joins.length : Int) < 1
     ·rw [if_pos c3]; rfl
     ·rw [if_neg c3, if_pos (by omega)]; rfl
theorem rl6 (suf : List Bool) : ∀ (pre : List Bool) (k : Nat), suf.length < k → pre.length + suf.length ≤ 3000000 → oG (pre ++ suf) k pre.length = some (if suf.all id = true then .inl () else .inr false) := by
 induction suf with
 | nil =>
  intro pre k hk _
  obtain _ | k := k
  ·omega
  rw [oG, if_neg (by simp), if_pos (by rfl)]
 | cons e suf ih =>
  intro pre k hk hB
  obtain _ | k := k
  ·omega
  simp only [List.length_cons] at hk hB
  rw [oG, if_pos (cC _ _ _), cA, bsm]
  cases e with
  | false =>
   rw [cond_false, show (false :: suf).all id = false from rfl, if_neg Bool.false_ne_true]; rfl
  | true =>
   rw [cond_true, aP (by omega), bsm, cF pre suf true, bS pre true, ih (pre ++ [true]) k (by omega) (by simp; omega), show (true :: suf).all id = suf.all id from by simp]
theorem rdef_eq {fuel : Nat} {d : ScopeDef} (hf : 3000000 ≤ fuel) (hs : smD d) : xU fuel d = some (okD d) := by
 obtain ⟨ch, sp, ru⟩ := d
 obtain ⟨s1, s2, s3, s4⟩ := hs
 dsimp only at s1 s2 s3 s4
 rw [xU]
 dsimp only
 have e1 := rl1 (sp := sp) (ru := ru) ch [] fuel (by omega) (by simp; omega)
 have e2 := rl2 (ch := ch) (ru := ru) sp [] fuel (by omega) (by simp; omega)
 have e3 := rl3 (ch := ch) (sp := sp) (fuel := fuel) ru [] fuel (List.replicate ch.length false) (by omega) (by simp; omega) (by omega) s4 (by simp)
 simp only [List.nil_append, List.length_nil, Int.natCast_zero] at e1 e2 e3
 have hmk : mk false (ch.length : Int) = some (List.replicate ch.length false) := by unfold mk; rw [if_pos (by omega)]; simp
 have hok : okD ⟨ch, sp, ru⟩ = (decide (ch.length ≤ 30 ∧ sp.length ≤ 30 ∧ ru.length ≤ 30) && ch.all (gF sp.length) && lD 0 sp && okU (jE ch sp.length ru (List.replicate ch.length false))) := rfl
 by_cases l1 : 30 < ch.length
 ·rw [if_pos (by omega), hok, decide_eq_false (by omega)]; simp
 ·rw [if_neg (by omega)]
  by_cases l2 : 30 < sp.length
  ·rw [if_pos (by omega), hok, decide_eq_false (by omega)]; simp
  ·rw [if_neg (by omega)]
   by_cases l3 : 30 < ru.length
   ·rw [if_pos (by omega), hok, decide_eq_false (by omega)]; simp
   ·rw [if_neg (by omega), e1, bsm, hok, decide_eq_true (by omega)]
    cases h1 : ch.all (gF sp.length) with
    | false => simp
    | true =>
     simp only [if_true, Bool.true_and]
     rw [e2, bsm]
     cases h2 : lD 0 sp with
     | false => simp
     | true =>
      simp only [if_true, Bool.true_and]
      rw [hmk, bsm]
      rcases e3 with ⟨u, a1, a2, a4⟩ | ⟨a1, a4⟩
      ·have h6 := rl6 u [] fuel (by omega) (by simp; omega)
       simp only [List.nil_append, List.length_nil, Int.natCast_zero] at h6
       rw [a4, bsm, a1]
       dsimp only
       rw [h6, bsm]
       have : okU (some u) = u.all id := rfl
       rw [this]
       cases u.all id <;> simp
      ·rw [a4, bsm, a1]; simp [okU]
end Go.Proofs.Ytmnbfgeljmhekaa
