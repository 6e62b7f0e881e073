/- Parts of the proof: lemmas, and the steps through the program. -/
import Derived.Test.YtmnbfgeljmhekaaGreatKt2
set_option linter.unusedVariables false
set_option linter.unusedSimpArgs false
set_option maxRecDepth 100000
set_option maxHeartbeats 2000000
namespace Go.Proofs.YtmnbfgeljmhekaaGreat
open Go.SX Go.SW Go.Dt
attribute [local irreducible] Code.wpIn wpListIn Exit.then Exit.inBlock
def uL (fuel : Nat) (y2 : Usage_text) (x2 : Int) (y6 : UsageDef) : Nat → Int → Option ((Unit) ⊕ ((Unit) ⊕ (Bool × Int)))
| 0, _ => none
| k + 1, x4 =>
 if x4 < (y6.Chans.length : Int) then
  ((idx y6.Chans x4).bind fun y7 =>
  if y7 = 2 then
   (idx y2.heads x2).bind fun y8 =>
   (rC y2 x2 x4).bind fun y9 =>
   (lR fuel y2 y8 y9).bind fun y10 =>
   if y10 ≠ 1 then
    (((some (false, 0)).bind fun r => some (Sum.inr r)).bind fun r => some (Sum.inr r)).bind fun r => some (Sum.inr r)
   else
    some (Sum.inl ())
  else
   some (Sum.inl ())).bind fun o => match o with
  | Sum.inr r => some r
  | Sum.inl _ =>
  (chk (x4 + 1)).bind fun z1 =>
  uL fuel y2 x2 y6 k z1
 else
  some (Sum.inl ())
def tI (fuel : Nat) (a1 : List UsageDef) (y2 : Usage_text) : Nat → Int → Option ((Unit) ⊕ (Bool × Int))
| 0, _ => none
| k + 1, x2 =>
 if x2 < (a1.length : Int) then
  ((idx a1 x2).bind fun y6 =>
  uL fuel y2 x2 y6 fuel 0).bind fun o => match o with
  | Sum.inr r => some r
  | Sum.inl _ =>
  (chk (x2 + 1)).bind fun z2 =>
  tI fuel a1 y2 k z2
 else
  some (Sum.inl ())
def wD (fuel : Nat) (a0 : ScopeProg) (a1 : List UsageDef) : Option (Bool × Int) :=
 (tB fuel (⟨a0.Free, a0.Nodes, a0.Defs, a0.Main⟩ : ScopeProg)).bind fun y1 =>
 if y1 ≠ 0 then
  some (false, 2)
 else
  (qG fuel (⟨a0.Free, a0.Nodes, a0.Defs, a0.Main⟩ : ScopeProg)).bind fun y2 =>
  (xW fuel y2 a1).bind fun y3 =>
  bif y3 then
   (rS fuel y2 a1).bind fun y4 =>
   (qA fuel a1 y4 (fun x => aAo x.1 x.2.1 x.2.2)).bind fun y5 =>
   bif y5 then
    (tI fuel a1 y2 fuel 0).bind fun o => match o with
    | Sum.inr r => some r
    | Sum.inl _ =>
    some (true, 0)
   else
    some (false, 0)
  else
   some (false, 2)
theorem aBS (fuel : Nat)  (a0 : ScopeProg) (a1 : List UsageDef) (r : Bool × Int) (H : wD fuel a0 a1 = some r) : FnS Tryz.prog 17 [fSt dG a0, fSl bD a1] [] (dC [aK r.1, aA .i64 r.2]) (fun _ => []) := by
 unfold wD at H
 refine bK Tryz.func17 rfl Tryz.ntmps17 rfl (fun β => ?_)
 refine Z1 ?_
 refine aR trivial rfl rfl (cF rfl (has rfl) bO) (fun b1 => ?_)
 refine Z3 ?_
 refine aI ?_
 refine Z2 ?_
 revert H; refine bs fun y1 h1 H => ?_
 refine Tc (aB6 _ _ _ h1) ?_
 refine Z2 ?_
 revert H; refine is (fun c1 H => ?_) fun c1 H => ?_
 refine Z6 ?_
 cases H
 refine aH [] (by decide) ?_
 exact gF rfl (bU rfl) (bU rfl) rfl
 refine Z5 ?_
 revert H; refine bs fun y2 h2 H => ?_
 refine Tc (aBi _ _ _ h2) ?_
 refine Z2 ?_
 refine aI ?_
 refine Z3 ?_
 revert H; refine bs fun y3 h3 H => ?_
 refine Tc (aDQ _ _ _ _ h3) ?_
 refine Z2 ?_
 revert H; refine cs (fun c2 H => ?_) fun c2 H => ?_
 refine Z3 ?_
 refine aI ?_
 refine Z4 ?_
 revert H; refine bs fun y4 h4 H => ?_
 refine iM trivial rfl rfl rfl (has rfl) (aD.cons (has rfl) (aD.cons (has rfl) aD.nil)) rfl (cb rfl) (aGl fuel y2 a1 y4 h4) rfl ?_
 revert H; refine bs fun y5 h5 H => ?_
 refine iM trivial rfl rfl rfl (has rfl) (aD.cons (has rfl) (aD.cons (has rfl) (aD.cons (dR rfl (rR (cb rfl) (fun x r hx => aFu x.1 x.2.1 x.2.2 r hx))) aD.nil))) rfl (cb rfl) (aAT fuel a1 y4 (fun x => aAo x.1 x.2.1 x.2.2) y5 h5) rfl ?_
 refine Z2 ?_
 revert H; refine cs (fun c3 H => ?_) fun c3 H => ?_
 refine Z3 ?_
 revert H; refine bs fun o1 H Hr1 => ?_
 refine aT (ι := Unit) (fun i => o1 = Sum.inl ()) (fun i => []) (fun i => [aC b1 26 [fSl aN a0.Free, fSl aL a0.Nodes, fSl aJ a0.Defs, aA .i64 a0.Main]]) ?_ ?_
 refine Z6 ?_
 refine Tl (ι := Nat × Int) (fun i => tI fuel a1 y2 i.1 i.2 = _) (fun i => i.1) (fun i => [(1, fSl bD a1), (6, aG bN y2), (26, aA .i64 (a1.length : Int)), (27, aA .i64 i.2)]) (fun i => [aC b1 26 [fSl aN a0.Free, fSl aL a0.Nodes, fSl aJ a0.Defs, aA .i64 a0.Main]]) (fuel, 0) H ?_
 clear H; rintro ⟨k1, x2⟩ H
 replace H : tI fuel a1 y2 k1 x2 = _ := H
 try dsimp only
 obtain _ | k1 := k1
 rw [tI] at H; cases H
 rw [tI] at H
 refine Z3 ?_
 refine aI ?_
 revert H; refine is (fun c4 H => ?_) fun c4 H => ?_
 refine Z3 ?_
 revert H; refine bs fun o2 H Hr2 => ?_
 refine aT (ι := Unit) (fun i => o2 = Sum.inl ()) (fun i => [(1, fSl bD a1), (6, aG bN y2), (26, aA .i64 (a1.length : Int)), (27, aA .i64 x2)]) (fun i => [aC b1 26 [fSl aN a0.Free, fSl aL a0.Nodes, fSl aJ a0.Defs, aA .i64 a0.Main]]) ?_ ?_
 refine Z8 ?_
 revert H; refine bs fun y6 h6 H => ?_
 refine Z7 ?_
 refine Tl (ι := Nat × Int) (fun i => uL fuel y2 x2 y6 i.1 i.2 = _) (fun i => i.1) (fun i => [(1, fSl bD a1), (6, aG bN y2), (26, aA .i64 (a1.length : Int)), (27, aA .i64 x2), (7, aA .i64 x2), (34, fSl (aB .i64) y6.Chans), (35, aA .i64 (y6.Chans.length : Int)), (36, aA .i64 i.2)]) (fun i => [aC b1 26 [fSl aN a0.Free, fSl aL a0.Nodes, fSl aJ a0.Defs, aA .i64 a0.Main]]) (fuel, 0) H ?_
 clear H; rintro ⟨k2, x4⟩ H
 replace H : uL fuel y2 x2 y6 k2 x4 = _ := H
 try dsimp only
 obtain _ | k2 := k2
 rw [uL] at H; cases H
 rw [uL] at H
 refine Z3 ?_
 refine aI ?_
 revert H; refine is (fun c5 H => ?_) fun c5 H => ?_
 refine Z3 ?_
 revert H; refine bs fun o3 H Hr3 => ?_
 refine aT (ι := Unit) (fun i => o3 = Sum.inl ()) (fun i => [(1, fSl bD a1), (6, aG bN y2), (26, aA .i64 (a1.length : Int)), (27, aA .i64 x2), (7, aA .i64 x2), (34, fSl (aB .i64) y6.Chans), (35, aA .i64 (y6.Chans.length : Int)), (36, aA .i64 x4)]) (fun i => [aC b1 26 [fSl aN a0.Free, fSl aL a0.Nodes, fSl aJ a0.Defs, aA .i64 a0.Main]]) ?_ ?_
 refine Z3 ?_
 revert H; refine bs fun y7 h7 H => ?_
 refine Z5 ?_
 refine aI ?_
 revert H; refine is (fun c6 H => ?_) fun c6 H => ?_
 revert H; refine bs fun y8 h8 H => ?_
 revert H; refine bs fun y9 h9 H => ?_
 revert H; refine bs fun y10 h10 H => ?_
 apply bG (ods := [_, _, _, _, _, _, _, _, _, _, _, _, _, _, _, _, _, _]) 18 0 1 bF rfl rfl rfl
 dsimp only [bA, List.take, List.replicate, List.append, List.drop]
 refine M8 ?_
 intros
 refine M6 ?_
 intros
 refine bP (od := odC [] true (aA .i64 y9) []) (Φ := aA .i64 y9) rfl (fun _ => rfl) ⟨_, _, rfl, rfl, c6⟩ rfl rfl (has rfl) (aD.cons (has rfl) (aD.cons (has rfl) (aD.cons (has rfl) aD.nil))) rfl (cb rfl) (zT y2 x2 x4 y9 h9) (fun _ => ?_)
 refine bP (od := odC [] true (aA .i64 y10) []) (Φ := aA .i64 y10) rfl (fun _ => rfl) ⟨_, _, rfl, rfl, c6⟩ rfl rfl (has rfl) (aD.cons (has rfl) (aD.cons (has rfl) (aD.cons (has rfl) aD.nil))) rfl (cb rfl) (aDG fuel y2 y8 y9 y10 h10) (fun _ => ?_)
 refine M2 ?_
 intros
 refine Z2 ?_
 revert H; refine is (fun c7 H => ?_) fun c7 H => ?_
 refine Z8 ?_
 revert H; refine bs fun r1 H e1 => ?_
 cases e1; cases Hr3
 refine Z4 ?_
 revert H; refine bs fun r2 H e2 => ?_
 cases e2; cases Hr2
 refine Z3 ?_
 revert H; refine bs fun r3 H e3 => ?_
 cases e3; cases Hr1
 cases H
 refine aH [] (by decide) ?_
 exact gF rfl (bU rfl) (bU rfl) rfl
 refine Z4 ?_
 exact Tm (()) (ij H)
 exact fk
 kernel_rfl
 apply bG (ods := [_, _, _, _, _, _, _, _, _, _, _, _, _, _, _, _, _, _]) 18 0 1 bF rfl rfl rfl
 dsimp only [bA, List.take, List.replicate, List.append, List.drop]
 refine M8 ?_
 intros
 refine M8 ?_
 intros
 refine M2 ?_
 intros
 refine Z6 ?_
 exact Tm (()) (ij H)
 exact fk
 kernel_rfl
 clear H; intro i hi; subst o3; have H := Hr3; clear Hr3; try dsimp only at H
 try dsimp only
 refine Z1 ?_
 revert H; refine bs fun z1 h11 H => ?_
 refine Z3 ?_
 exact Tm ((k2, z1)) ⟨H, ls⟩
 refine Z7 ?_
 exact Tm (()) (ij H)
 clear H; intro i hi; subst o2; have H := Hr2; clear Hr2; try dsimp only at H
 try dsimp only
 refine Z1 ?_
 revert H; refine bs fun z2 h12 H => ?_
 refine Z3 ?_
 exact Tm ((k1, z2)) ⟨H, ls⟩
 refine Z6 ?_
 exact Tm (()) (ij H)
 clear H; intro i hi; subst o1; have H := Hr1; clear Hr1; try dsimp only at H
 try dsimp only
 refine Z5 ?_
 cases H
 refine aH [] (by decide) ?_
 exact gF rfl (bU rfl) (bU rfl) rfl
 refine Z6 ?_
 cases H
 refine aH [] (by decide) ?_
 exact gF rfl (bU rfl) (bU rfl) rfl
 refine Z6 ?_
 cases H
 refine aH [] (by decide) ?_
 exact gF rfl (bU rfl) (bU rfl) rfl
def zE (a0 : Int) : Option (List ScopeExp) :=
 some [(⟨1, a0, []⟩ : ScopeExp)]
theorem aDW  (a0 : Int) (r : List ScopeExp) (H : zE a0 = some r) : FnS Tryz.prog 61 [aA .i64 a0] [] (fSl aW r) (fun _ => []) := by
 unfold zE at H
 refine bK Tryz.func61 rfl Tryz.ntmps61 rfl (fun β => ?_)
 refine Z5 ?_
 refine Yy (dS (ψs := [aA .i64 1, aA .i64 a0, fEq (.slice none 0 0)]) rfl aDL rfl (aX.cons (has rfl) (aS (aF trivial)) (aX.cons (has rfl) (aS (aF trivial)) aX.nil)) rfl) ?_
 refine aR trivial rfl rfl (cC (t := aW) (xs := [(⟨1, a0, []⟩ : ScopeExp)]) rfl (et rfl) (aQ.cons rfl (dR rfl (gZ (aP.cons Ent.rfl (aP.cons Ent.rfl (aP.cons (aDH eF) aP.nil))))) bO aQ.nil) rfl rfl rfl) (fun b1 => ?_)
 generalize hv_v1 : (Value.slice (some ⟨b1, 0, none⟩) _ _) = v1; clear hv_v1
 refine aO 0 rfl (fun hc_v1 => ?_)
 refine Z3 ?_
 refine cW (φ := fSl aW [(⟨1, a0, []⟩ : ScopeExp)]) (v := v1) [2, 5] cR (by intro s hs; simp only [List.mem_cons, List.not_mem_nil, or_false] at hs; rcases hs with rfl | rfl <;> rfl) ?_
 refine cV ?_
 cases H
 exact To
def vJ (a0 : List Int) : Nat → (List ScopeExp) → Int → Option (List ScopeExp)
| 0, _, _ => none
| k + 1, x4, x5 =>
 if x5 < (a0.length : Int) then
  (idx a0 x5).bind fun y1 =>
  (eA (x4 ++ [(⟨2, y1, []⟩ : ScopeExp)])).bind fun z1 =>
  (chk (x5 + 1)).bind fun z2 =>
  vJ a0 k z1 z2
 else
  some x4
def vB (fuel : Nat) (a0 : List Int) : Option (List ScopeExp) :=
 (vJ a0 fuel [] 0).bind fun x1 =>
 some x1
theorem aAu (fuel : Nat)  (a0 : List Int) (r : List ScopeExp) (H : vB fuel a0 = some r) : FnS Tryz.prog 62 [fSl (aB .i64) a0] [] (fSl aW r) (fun _ => []) := by
 unfold vB at H
 refine bK Tryz.func62 rfl Tryz.ntmps62 rfl (fun β => ?_)
 refine Z6 ?_
 revert H; refine bs fun o1 H Hr1 => ?_
 refine aT (ι := List ScopeExp × Value) (fun i => o1 = i.1) (fun i => [(3, fEq i.2)]) (fun i => [aE i.2 56 aW i.1]) ?_ ?_
 refine Z4 ?_
 refine lS aW 56 ?_
 refine Tl (ι := Nat × List ScopeExp × Int × Value) (fun i => vJ a0 i.1 i.2.1 i.2.2.1 = _) (fun i => i.1) (fun i => [(0, fSl (aB .i64) a0), (3, fEq i.2.2.2), (4, aA .i64 i.2.2.1)]) (fun i => [aE i.2.2.2 56 aW i.2.1]) (fuel, [], 0, (.slice none 0 0)) H ?_
 clear H; rintro ⟨k1, x4, x5, v3⟩ H
 replace H : vJ a0 k1 x4 x5 = _ := H
 try dsimp only
 obtain _ | k1 := k1
 rw [vJ] at H; cases H
 rw [vJ] at H
 refine aO 0 rfl (fun hc_v3 => ?_)
 refine aI ?_
 refine Z6 ?_
 revert H; refine is (fun c1 H => ?_) fun c1 H => ?_
 refine Z3 ?_
 refine aI ?_
 refine Z5 ?_
 revert H; refine bs fun y1 h1 H => ?_
 refine Z2 ?_
 refine Yy (dS (ψs := [aA .i64 2, aA .i64 y1, fEq (.slice none 0 0)]) rfl aDL rfl (aX.cons (has rfl) (aS (aF trivial)) (aX.cons (has rfl) (aS (aF trivial)) aX.nil)) rfl) ?_
 refine aR trivial rfl rfl (cC (t := aW) (xs := [(⟨2, y1, []⟩ : ScopeExp)]) rfl (et rfl) (aQ.cons rfl (dR rfl (gZ (aP.cons Ent.rfl (aP.cons Ent.rfl (aP.cons (aDH eF) aP.nil))))) bO aQ.nil) rfl rfl rfl) (fun b1 => ?_)
 generalize hv_v4 : (Value.slice (some ⟨b1, 0, none⟩) _ _) = v4; clear hv_v4
 refine aO 0 rfl (fun hc_v4 => ?_)
 revert H; refine bs fun z1 h2 H => ?_
 refine lX trivial rfl rfl rfl (has rfl) (has rfl) (et rfl) rfl h2 (fun v5 => ?_)
 refine aO 0 rfl (fun hc_v5 => ?_)
 refine Z6 ?_
 revert H; refine bs fun z2 h3 H => ?_
 refine Z3 ?_
 exact Tm ((k1, z1, z2, v5)) ⟨H, ls⟩
 refine Z6 ?_
 exact Tm ((x4, v3)) (ij H)
 clear H; intro i hi; obtain ⟨x1, v1⟩ := i; subst o1; have H := Hr1; clear Hr1; try dsimp only at H
 try dsimp only
 refine aO 0 rfl (fun hc_v1 => ?_)
 refine Z5 ?_
 refine cW (φ := fSl aW x1) (v := v1) [3, 19, 2] cR (by intro s hs; simp only [List.mem_cons, List.not_mem_nil, or_false] at hs; rcases hs with rfl | rfl | rfl <;> rfl) ?_
 refine cV ?_
 cases H
 exact To
def aA3 (fuel : Nat)  : Option (ScopeProg) :=
 (zE 1).bind fun y1 =>
 (zE 2).bind fun y2 =>
 (vB fuel [5]).bind fun y3 =>
 (vB fuel [0]).bind fun y4 =>
 (vB fuel [1]).bind fun y5 =>
 (vB fuel [0]).bind fun y6 =>
 some (⟨[{ data := #[111, 117, 116] }], [(⟨4, 0, [], [5]⟩ : ScopeNode), (⟨3, 0, [], [2, 3]⟩ : ScopeNode), (⟨2, 4, y1, []⟩ : ScopeNode), (⟨2, 4, y2, []⟩ : ScopeNode), (⟨2, 4, y3, []⟩ : ScopeNode), (⟨3, 0, [], [6, 7]⟩ : ScopeNode), (⟨2, 2, y4, []⟩ : ScopeNode), (⟨3, 0, [], [8, 9]⟩ : ScopeNode), (⟨2, 3, y5, []⟩ : ScopeNode), (⟨4, 1, [], [11]⟩ : ScopeNode), (⟨2, 1, y6, []⟩ : ScopeNode), (⟨2, 4, [], []⟩ : ScopeNode)], [(⟨[(⟨0, 1⟩ : ScopeChan), (⟨0, 1⟩ : ScopeChan), (⟨0, 1⟩ : ScopeChan)], [], [(⟨0, [0], 1⟩ : ScopeRule), (⟨0, [1, 2], 4⟩ : ScopeRule)]⟩ : ScopeDef), (⟨[(⟨0, 0⟩ : ScopeChan)], [], [(⟨0, [0], 10⟩ : ScopeRule)]⟩ : ScopeDef)], 0⟩ : ScopeProg)
theorem aG1 (fuel : Nat)   (r : ScopeProg) (H : aA3 fuel = some r) : FnS Tryz.prog 23 [] [] (fSt dG r) (fun _ => []) := by
 unfold aA3 at H
 refine bK Tryz.func23 rfl Tryz.ntmps23 rfl (fun β => ?_)
 refine Z1 ?_
 refine aR trivial rfl rfl (cB rfl aCr rfl) (fun b1 => ?_)
 refine Z2 ?_
 refine Yy (dS (ψs := [aA .i64 0, aA .i64 1]) rfl zW rfl (aX.cons (has rfl) (aS (aF trivial)) aX.nil) rfl) ?_
 refine Yy (dS (ψs := [aA .i64 0, aA .i64 1]) rfl zW rfl (aX.cons (has rfl) (aS (aF trivial)) aX.nil) rfl) ?_
 refine Yy (dS (ψs := [aA .i64 0, aA .i64 1]) rfl zW rfl (aX.cons (has rfl) (aS (aF trivial)) aX.nil) rfl) ?_
 refine aR trivial rfl rfl (cC (t := aY) (xs := [(⟨0, 1⟩ : ScopeChan), (⟨0, 1⟩ : ScopeChan), (⟨0, 1⟩ : ScopeChan)]) rfl (et rfl) (aQ.cons rfl (has rfl) bO (aQ.cons rfl (has rfl) bO (aQ.cons rfl (has rfl) bO aQ.nil))) rfl rfl rfl) (fun b2 => ?_)
 generalize hv_v1 : (Value.slice (some ⟨b2, 0, none⟩) _ _) = v1; clear hv_v1
 refine aO 0 rfl (fun hc_v1 => ?_)
 refine aR trivial rfl rfl (cC (t := (aB .i64)) (xs := [0]) rfl (et rfl) (aQ.cons rfl (has rfl) (aS (aF trivial)) aQ.nil) rfl rfl rfl) (fun b3 => ?_)
 generalize hv_v2 : (Value.slice (some ⟨b3, 0, none⟩) _ _) = v2; clear hv_v2
 refine aO 0 rfl (fun hc_v2 => ?_)
 refine Yy (dS (ψs := [aA .i64 0, fEq v2, aA .i64 1]) rfl aAH rfl (aX.cons (has rfl) (aS (aF hc_v2)) (aX.cons (has rfl) (aS (aF trivial)) aX.nil)) rfl) ?_
 refine aR trivial rfl rfl (cC (t := (aB .i64)) (xs := [1, 2]) rfl (et rfl) (aQ.cons rfl (has rfl) (aS (aF trivial)) (aQ.cons rfl (has rfl) (aS (aF trivial)) aQ.nil)) rfl rfl rfl) (fun b4 => ?_)
 generalize hv_v3 : (Value.slice (some ⟨b4, 0, none⟩) _ _) = v3; clear hv_v3
 refine aO 0 rfl (fun hc_v3 => ?_)
 refine Yy (dS (ψs := [aA .i64 0, fEq v3, aA .i64 4]) rfl aAH rfl (aX.cons (has rfl) (aS (aF hc_v3)) (aX.cons (has rfl) (aS (aF trivial)) aX.nil)) rfl) ?_
 refine cA ?_
 refine cW (φ := fSl (aB .i64) [0]) (v := v2) [7] cR (by intro s hs; simp only [List.mem_cons, List.not_mem_nil, or_false] at hs; rcases hs with rfl <;> rfl) ?_
 refine rQ 8 (ψ := fB [aA .i64 0, fEq v2, aA .i64 1]) rfl (sW (i := 1) (φs := [aA .i64 0, fEq v2, aA .i64 1]) (φs' := [aA .i64 0, fSl (aB .i64) [0], aA .i64 1]) rfl rfl) ?_
 refine cV ?_
 refine cW (φ := fSl (aB .i64) [1, 2]) (v := v3) [9] cR (by intro s hs; simp only [List.mem_cons, List.not_mem_nil, or_false] at hs; rcases hs with rfl <;> rfl) ?_
 refine rQ 10 (ψ := fB [aA .i64 0, fEq v3, aA .i64 4]) rfl (sW (i := 1) (φs := [aA .i64 0, fEq v3, aA .i64 4]) (φs' := [aA .i64 0, fSl (aB .i64) [1, 2], aA .i64 4]) rfl rfl) ?_
 refine cV ?_
 refine aR trivial rfl rfl (cC (t := bC) (xs := [(⟨0, [0], 1⟩ : ScopeRule), (⟨0, [1, 2], 4⟩ : ScopeRule)]) rfl (et rfl) (aQ.cons rfl (has rfl) bO (aQ.cons rfl (has rfl) bO aQ.nil)) rfl rfl rfl) (fun b5 => ?_)
 generalize hv_v4 : (Value.slice (some ⟨b5, 0, none⟩) _ _) = v4; clear hv_v4
 refine aO 0 rfl (fun hc_v4 => ?_)
 refine Yy (dS (ψs := [fEq v1, fEq (.slice none 0 0), fEq v4]) rfl aFd rfl (aX.cons (has rfl) (aS (aF hc_v1)) (aX.cons (has rfl) (aS (aF hc_v4)) aX.nil)) rfl) ?_
 refine aR trivial rfl rfl (cB rfl jW rfl) (fun b6 => ?_)
 refine dB (φs' := [fEq v1, fEq (.slice none 0 0), fEq v4]) trivial rfl rfl (has rfl) (has rfl) (aM (aF hc_v1) (aM (aF trivial) (aM (aF hc_v4) bR))) (sz rfl) rfl rfl rfl ?_
 refine Z2 ?_
 refine Yy (dS (ψs := [aA .i64 0, aA .i64 0]) rfl zW rfl aX.nil rfl) ?_
 refine aR trivial rfl rfl (cC (t := aY) (xs := [(⟨0, 0⟩ : ScopeChan)]) rfl (et rfl) (aQ.cons rfl (has rfl) bO aQ.nil) rfl rfl rfl) (fun b7 => ?_)
 generalize hv_v5 : (Value.slice (some ⟨b7, 0, none⟩) _ _) = v5; clear hv_v5
 refine aO 0 rfl (fun hc_v5 => ?_)
 refine aR trivial rfl rfl (cC (t := (aB .i64)) (xs := [0]) rfl (et rfl) (aQ.cons rfl (has rfl) (aS (aF trivial)) aQ.nil) rfl rfl rfl) (fun b8 => ?_)
 generalize hv_v6 : (Value.slice (some ⟨b8, 0, none⟩) _ _) = v6; clear hv_v6
 refine aO 0 rfl (fun hc_v6 => ?_)
 refine Yy (dS (ψs := [aA .i64 0, fEq v6, aA .i64 10]) rfl aAH rfl (aX.cons (has rfl) (aS (aF hc_v6)) (aX.cons (has rfl) (aS (aF trivial)) aX.nil)) rfl) ?_
 refine cW (φ := fSl (aB .i64) [0]) (v := v6) [15] cR (by intro s hs; simp only [List.mem_cons, List.not_mem_nil, or_false] at hs; rcases hs with rfl <;> rfl) ?_
 refine rQ 16 (ψ := fB [aA .i64 0, fEq v6, aA .i64 10]) rfl (sW (i := 1) (φs := [aA .i64 0, fEq v6, aA .i64 10]) (φs' := [aA .i64 0, fSl (aB .i64) [0], aA .i64 10]) rfl rfl) ?_
 refine cV ?_
 refine aR trivial rfl rfl (cC (t := bC) (xs := [(⟨0, [0], 10⟩ : ScopeRule)]) rfl (et rfl) (aQ.cons rfl (has rfl) bO aQ.nil) rfl rfl rfl) (fun b9 => ?_)
 generalize hv_v7 : (Value.slice (some ⟨b9, 0, none⟩) _ _) = v7; clear hv_v7
 refine aO 0 rfl (fun hc_v7 => ?_)
 refine Yy (dS (ψs := [fEq v5, fEq (.slice none 0 0), fEq v7]) rfl aFd rfl (aX.cons (has rfl) (aS (aF hc_v5)) (aX.cons (has rfl) (aS (aF hc_v7)) aX.nil)) rfl) ?_
 refine aR trivial rfl rfl (cB rfl jW rfl) (fun b10 => ?_)
 refine dB (φs' := [fEq v5, fEq (.slice none 0 0), fEq v7]) trivial rfl rfl (has rfl) (has rfl) (aM (aF hc_v5) (aM (aF trivial) (aM (aF hc_v7) bR))) (sz rfl) rfl rfl rfl ?_
 refine Z1 ?_
 refine aI ?_
 refine jA ?_
 refine cW (φ := fSl aY [(⟨0, 1⟩ : ScopeChan), (⟨0, 1⟩ : ScopeChan), (⟨0, 1⟩ : ScopeChan)]) (v := v1) [6] cR (by intro s hs; simp only [List.mem_cons, List.not_mem_nil, or_false] at hs; rcases hs with rfl <;> rfl) ?_
 refine bL ?_
 refine cA ?_
 refine gX (φs' := [fSl aY [(⟨0, 1⟩ : ScopeChan), (⟨0, 1⟩ : ScopeChan), (⟨0, 1⟩ : ScopeChan)], fEq (.slice none 0 0), fEq v4]) (i := 0) rfl rfl ?_
 refine rQ 12 (ψ := fB [fEq v1, fEq (.slice none 0 0), fEq v4]) rfl (sW (i := 0) (φs := [fEq v1, fEq (.slice none 0 0), fEq v4]) (φs' := [fSl aY [(⟨0, 1⟩ : ScopeChan), (⟨0, 1⟩ : ScopeChan), (⟨0, 1⟩ : ScopeChan)], fEq (.slice none 0 0), fEq v4]) rfl rfl) ?_
 refine cV ?_
 refine bL ?_
 refine cW (φ := fSl bC [(⟨0, [0], 1⟩ : ScopeRule), (⟨0, [1, 2], 4⟩ : ScopeRule)]) (v := v4) [11] cR (by intro s hs; simp only [List.mem_cons, List.not_mem_nil, or_false] at hs; rcases hs with rfl <;> rfl) ?_
 refine gX (φs' := [fSl aY [(⟨0, 1⟩ : ScopeChan), (⟨0, 1⟩ : ScopeChan), (⟨0, 1⟩ : ScopeChan)], fEq (.slice none 0 0), fSl bC [(⟨0, [0], 1⟩ : ScopeRule), (⟨0, [1, 2], 4⟩ : ScopeRule)]]) (i := 2) rfl rfl ?_
 refine rQ 12 (ψ := fB [fSl aY [(⟨0, 1⟩ : ScopeChan), (⟨0, 1⟩ : ScopeChan), (⟨0, 1⟩ : ScopeChan)], fEq (.slice none 0 0), fEq v4]) rfl (sW (i := 2) (φs := [fSl aY [(⟨0, 1⟩ : ScopeChan), (⟨0, 1⟩ : ScopeChan), (⟨0, 1⟩ : ScopeChan)], fEq (.slice none 0 0), fEq v4]) (φs' := [fSl aY [(⟨0, 1⟩ : ScopeChan), (⟨0, 1⟩ : ScopeChan), (⟨0, 1⟩ : ScopeChan)], fEq (.slice none 0 0), fSl bC [(⟨0, [0], 1⟩ : ScopeRule), (⟨0, [1, 2], 4⟩ : ScopeRule)]]) rfl rfl) ?_
 refine cV ?_
 refine dD ?_
 refine cW (φ := fSl aY [(⟨0, 0⟩ : ScopeChan)]) (v := v5) [14] cR (by intro s hs; simp only [List.mem_cons, List.not_mem_nil, or_false] at hs; rcases hs with rfl <;> rfl) ?_
 refine eB ?_
 refine cA ?_
 refine gX (φs' := [fSl aY [(⟨0, 0⟩ : ScopeChan)], fEq (.slice none 0 0), fEq v7]) (i := 0) rfl rfl ?_
 refine rQ 18 (ψ := fB [fEq v5, fEq (.slice none 0 0), fEq v7]) rfl (sW (i := 0) (φs := [fEq v5, fEq (.slice none 0 0), fEq v7]) (φs' := [fSl aY [(⟨0, 0⟩ : ScopeChan)], fEq (.slice none 0 0), fEq v7]) rfl rfl) ?_
 refine cV ?_
 refine eB ?_
 refine cW (φ := fSl bC [(⟨0, [0], 10⟩ : ScopeRule)]) (v := v7) [17] cR (by intro s hs; simp only [List.mem_cons, List.not_mem_nil, or_false] at hs; rcases hs with rfl <;> rfl) ?_
 refine gX (φs' := [fSl aY [(⟨0, 0⟩ : ScopeChan)], fEq (.slice none 0 0), fSl bC [(⟨0, [0], 10⟩ : ScopeRule)]]) (i := 2) rfl rfl ?_
 refine rQ 18 (ψ := fB [fSl aY [(⟨0, 0⟩ : ScopeChan)], fEq (.slice none 0 0), fEq v7]) rfl (sW (i := 2) (φs := [fSl aY [(⟨0, 0⟩ : ScopeChan)], fEq (.slice none 0 0), fEq v7]) (φs' := [fSl aY [(⟨0, 0⟩ : ScopeChan)], fEq (.slice none 0 0), fSl bC [(⟨0, [0], 10⟩ : ScopeRule)]]) rfl rfl) ?_
 refine cV ?_
 revert H; refine bs fun y1 h1 H => ?_
 revert H; refine bs fun y2 h2 H => ?_
 revert H; refine bs fun y3 h3 H => ?_
 revert H; refine bs fun y4 h4 H => ?_
 revert H; refine bs fun y5 h5 H => ?_
 revert H; refine bs fun y6 h6 H => ?_
 apply bG (ods := [_, _, _, _, _, _, _, _, _, _, _, _, _, _, _, _, _, _, _, _, _, _, _, _, _, _, _, _, _, _, _, _, _, _]) 34 0 3 bF rfl rfl rfl
 dsimp only [bA, List.take, List.replicate, List.append, List.drop]
 refine Mf (φ := fSl aN [{ data := #[111, 117, 116] }]) (cC (t := aN) (xs := [{ data := #[111, 117, 116] }]) rfl (et rfl) (aQ.cons rfl (has rfl) (aS (aF trivial)) aQ.nil) rfl rfl rfl) (fun b => cR) fun _ => ?_
 refine M2 ?_
 intros
 refine Mf (φ := fSl aJ [(⟨[(⟨0, 1⟩ : ScopeChan), (⟨0, 1⟩ : ScopeChan), (⟨0, 1⟩ : ScopeChan)], [], [(⟨0, [0], 1⟩ : ScopeRule), (⟨0, [1, 2], 4⟩ : ScopeRule)]⟩ : ScopeDef), (⟨[(⟨0, 0⟩ : ScopeChan)], [], [(⟨0, [0], 10⟩ : ScopeRule)]⟩ : ScopeDef)]) (cC (t := aJ) (xs := [(⟨[(⟨0, 1⟩ : ScopeChan), (⟨0, 1⟩ : ScopeChan), (⟨0, 1⟩ : ScopeChan)], [], [(⟨0, [0], 1⟩ : ScopeRule), (⟨0, [1, 2], 4⟩ : ScopeRule)]⟩ : ScopeDef), (⟨[(⟨0, 0⟩ : ScopeChan)], [], [(⟨0, [0], 10⟩ : ScopeRule)]⟩ : ScopeDef)]) rfl (et rfl) (aQ.cons rfl (dR rfl (gZ (aP.cons Ent.rfl (aP.cons eF (aP.cons Ent.rfl aP.nil))))) bO (aQ.cons rfl (dR rfl (gZ (aP.cons Ent.rfl (aP.cons eF (aP.cons Ent.rfl aP.nil))))) bO aQ.nil)) rfl rfl rfl) (fun b => cR) fun _ => ?_
 refine Mf (φ := fSl (aB .i64) [5]) (cC (t := (aB .i64)) (xs := [5]) rfl (et rfl) (aQ.cons rfl (has rfl) (aS (aF trivial)) aQ.nil) rfl rfl rfl) (fun b => cR) fun _ => ?_
 refine My (dS (ψs := [aA .i64 4, aA .i64 0, fEq (.slice none 0 0), fSl (aB .i64) [5]]) rfl kQ rfl (aX.cons (has rfl) (aS (aF trivial)) (aX.cons (has rfl) (aS (bB)) aX.nil)) rfl) fun _ => ?_
 refine Mf (φ := fSl (aB .i64) [2, 3]) (cC (t := (aB .i64)) (xs := [2, 3]) rfl (et rfl) (aQ.cons rfl (has rfl) (aS (aF trivial)) (aQ.cons rfl (has rfl) (aS (aF trivial)) aQ.nil)) rfl rfl rfl) (fun b => cR) fun _ => ?_
 refine My (dS (ψs := [aA .i64 3, aA .i64 0, fEq (.slice none 0 0), fSl (aB .i64) [2, 3]]) rfl kQ rfl (aX.cons (has rfl) (aS (aF trivial)) (aX.cons (has rfl) (aS (bB)) aX.nil)) rfl) fun _ => ?_
 refine bP (od := odC [] true (fSl aW y1) []) (Φ := fSl aW y1) rfl (fun _ => rfl) trivial rfl rfl (has rfl) (aD.cons (has rfl) aD.nil) rfl (cb rfl) (aDW 1 y1 h1) (fun _ => ?_)
 refine My (dS (ψs := [aA .i64 2, aA .i64 4, fSl aW y1, fEq (.slice none 0 0)]) rfl kQ rfl (aX.cons (has rfl) (aS (aF trivial)) (aX.cons (has rfl) (aS (aF trivial)) (aX.cons (has rfl) (aS (bB)) aX.nil))) rfl) fun _ => ?_
 refine bP (od := odC [] true (fSl aW y2) []) (Φ := fSl aW y2) rfl (fun _ => rfl) trivial rfl rfl (has rfl) (aD.cons (has rfl) aD.nil) rfl (cb rfl) (aDW 2 y2 h2) (fun _ => ?_)
 refine My (dS (ψs := [aA .i64 2, aA .i64 4, fSl aW y2, fEq (.slice none 0 0)]) rfl kQ rfl (aX.cons (has rfl) (aS (aF trivial)) (aX.cons (has rfl) (aS (aF trivial)) (aX.cons (has rfl) (aS (bB)) aX.nil))) rfl) fun _ => ?_
 refine Mf (φ := fSl (aB .i64) [5]) (cC (t := (aB .i64)) (xs := [5]) rfl (et rfl) (aQ.cons rfl (has rfl) (aS (aF trivial)) aQ.nil) rfl rfl rfl) (fun b => cR) fun _ => ?_
 refine bP (od := odC [] true (fSl aW y3) []) (Φ := fSl aW y3) rfl (fun _ => rfl) trivial rfl rfl (has rfl) (aD.cons (has rfl) aD.nil) rfl (cb rfl) (aAu fuel [5] y3 h3) (fun _ => ?_)
 refine My (dS (ψs := [aA .i64 2, aA .i64 4, fSl aW y3, fEq (.slice none 0 0)]) rfl kQ rfl (aX.cons (has rfl) (aS (aF trivial)) (aX.cons (has rfl) (aS (aF trivial)) (aX.cons (has rfl) (aS (bB)) aX.nil))) rfl) fun _ => ?_
 refine Mf (φ := fSl (aB .i64) [6, 7]) (cC (t := (aB .i64)) (xs := [6, 7]) rfl (et rfl) (aQ.cons rfl (has rfl) (aS (aF trivial)) (aQ.cons rfl (has rfl) (aS (aF trivial)) aQ.nil)) rfl rfl rfl) (fun b => cR) fun _ => ?_
 refine My (dS (ψs := [aA .i64 3, aA .i64 0, fEq (.slice none 0 0), fSl (aB .i64) [6, 7]]) rfl kQ rfl (aX.cons (has rfl) (aS (aF trivial)) (aX.cons (has rfl) (aS (bB)) aX.nil)) rfl) fun _ => ?_
 refine Mf (φ := fSl (aB .i64) [0]) (cC (t := (aB .i64)) (xs := [0]) rfl (et rfl) (aQ.cons rfl (has rfl) (aS (aF trivial)) aQ.nil) rfl rfl rfl) (fun b => cR) fun _ => ?_
 refine bP (od := odC [] true (fSl aW y4) []) (Φ := fSl aW y4) rfl (fun _ => rfl) trivial rfl rfl (has rfl) (aD.cons (has rfl) aD.nil) rfl (cb rfl) (aAu fuel [0] y4 h4) (fun _ => ?_)
 refine My (dS (ψs := [aA .i64 2, aA .i64 2, fSl aW y4, fEq (.slice none 0 0)]) rfl kQ rfl (aX.cons (has rfl) (aS (aF trivial)) (aX.cons (has rfl) (aS (aF trivial)) (aX.cons (has rfl) (aS (bB)) aX.nil))) rfl) fun _ => ?_
 refine Mf (φ := fSl (aB .i64) [8, 9]) (cC (t := (aB .i64)) (xs := [8, 9]) rfl (et rfl) (aQ.cons rfl (has rfl) (aS (aF trivial)) (aQ.cons rfl (has rfl) (aS (aF trivial)) aQ.nil)) rfl rfl rfl) (fun b => cR) fun _ => ?_
 refine My (dS (ψs := [aA .i64 3, aA .i64 0, fEq (.slice none 0 0), fSl (aB .i64) [8, 9]]) rfl kQ rfl (aX.cons (has rfl) (aS (aF trivial)) (aX.cons (has rfl) (aS (bB)) aX.nil)) rfl) fun _ => ?_
 refine Mf (φ := fSl (aB .i64) [1]) (cC (t := (aB .i64)) (xs := [1]) rfl (et rfl) (aQ.cons rfl (has rfl) (aS (aF trivial)) aQ.nil) rfl rfl rfl) (fun b => cR) fun _ => ?_
 refine bP (od := odC [] true (fSl aW y5) []) (Φ := fSl aW y5) rfl (fun _ => rfl) trivial rfl rfl (has rfl) (aD.cons (has rfl) aD.nil) rfl (cb rfl) (aAu fuel [1] y5 h5) (fun _ => ?_)
 refine My (dS (ψs := [aA .i64 2, aA .i64 3, fSl aW y5, fEq (.slice none 0 0)]) rfl kQ rfl (aX.cons (has rfl) (aS (aF trivial)) (aX.cons (has rfl) (aS (aF trivial)) (aX.cons (has rfl) (aS (bB)) aX.nil))) rfl) fun _ => ?_
 refine Mf (φ := fSl (aB .i64) [11]) (cC (t := (aB .i64)) (xs := [11]) rfl (et rfl) (aQ.cons rfl (has rfl) (aS (aF trivial)) aQ.nil) rfl rfl rfl) (fun b => cR) fun _ => ?_
 refine My (dS (ψs := [aA .i64 4, aA .i64 1, fEq (.slice none 0 0), fSl (aB .i64) [11]]) rfl kQ rfl (aX.cons (has rfl) (aS (aF trivial)) (aX.cons (has rfl) (aS (aF trivial)) (aX.cons (has rfl) (aS (bB)) aX.nil))) rfl) fun _ => ?_
 refine Mf (φ := fSl (aB .i64) [0]) (cC (t := (aB .i64)) (xs := [0]) rfl (et rfl) (aQ.cons rfl (has rfl) (aS (aF trivial)) aQ.nil) rfl rfl rfl) (fun b => cR) fun _ => ?_
 refine bP (od := odC [] true (fSl aW y6) []) (Φ := fSl aW y6) rfl (fun _ => rfl) trivial rfl rfl (has rfl) (aD.cons (has rfl) aD.nil) rfl (cb rfl) (aAu fuel [0] y6 h6) (fun _ => ?_)
 refine My (dS (ψs := [aA .i64 2, aA .i64 1, fSl aW y6, fEq (.slice none 0 0)]) rfl kQ rfl (aX.cons (has rfl) (aS (aF trivial)) (aX.cons (has rfl) (aS (aF trivial)) (aX.cons (has rfl) (aS (bB)) aX.nil))) rfl) fun _ => ?_
 refine My (dS (ψs := [aA .i64 2, aA .i64 4, fEq (.slice none 0 0), fEq (.slice none 0 0)]) rfl kQ rfl (aX.cons (has rfl) (aS (aF trivial)) (aX.cons (has rfl) (aS (aF trivial)) aX.nil)) rfl) fun _ => ?_
 refine Mf (φ := fSl aL [(⟨4, 0, [], [5]⟩ : ScopeNode), (⟨3, 0, [], [2, 3]⟩ : ScopeNode), (⟨2, 4, y1, []⟩ : ScopeNode), (⟨2, 4, y2, []⟩ : ScopeNode), (⟨2, 4, y3, []⟩ : ScopeNode), (⟨3, 0, [], [6, 7]⟩ : ScopeNode), (⟨2, 2, y4, []⟩ : ScopeNode), (⟨3, 0, [], [8, 9]⟩ : ScopeNode), (⟨2, 3, y5, []⟩ : ScopeNode), (⟨4, 1, [], [11]⟩ : ScopeNode), (⟨2, 1, y6, []⟩ : ScopeNode), (⟨2, 4, [], []⟩ : ScopeNode)]) (cC (t := aL) (xs := [(⟨4, 0, [], [5]⟩ : ScopeNode), (⟨3, 0, [], [2, 3]⟩ : ScopeNode), (⟨2, 4, y1, []⟩ : ScopeNode), (⟨2, 4, y2, []⟩ : ScopeNode), (⟨2, 4, y3, []⟩ : ScopeNode), (⟨3, 0, [], [6, 7]⟩ : ScopeNode), (⟨2, 2, y4, []⟩ : ScopeNode), (⟨3, 0, [], [8, 9]⟩ : ScopeNode), (⟨2, 3, y5, []⟩ : ScopeNode), (⟨4, 1, [], [11]⟩ : ScopeNode), (⟨2, 1, y6, []⟩ : ScopeNode), (⟨2, 4, [], []⟩ : ScopeNode)]) rfl (et rfl) (aQ.cons rfl (dR rfl (gZ (aP.cons Ent.rfl (aP.cons Ent.rfl (aP.cons eF (aP.cons Ent.rfl aP.nil)))))) bO (aQ.cons rfl (dR rfl (gZ (aP.cons Ent.rfl (aP.cons Ent.rfl (aP.cons eF (aP.cons Ent.rfl aP.nil)))))) bO (aQ.cons rfl (dR rfl (gZ (aP.cons Ent.rfl (aP.cons Ent.rfl (aP.cons Ent.rfl (aP.cons eF aP.nil)))))) bO (aQ.cons rfl (dR rfl (gZ (aP.cons Ent.rfl (aP.cons Ent.rfl (aP.cons Ent.rfl (aP.cons eF aP.nil)))))) bO (aQ.cons rfl (dR rfl (gZ (aP.cons Ent.rfl (aP.cons Ent.rfl (aP.cons Ent.rfl (aP.cons eF aP.nil)))))) bO (aQ.cons rfl (dR rfl (gZ (aP.cons Ent.rfl (aP.cons Ent.rfl (aP.cons eF (aP.cons Ent.rfl aP.nil)))))) bO (aQ.cons rfl (dR rfl (gZ (aP.cons Ent.rfl (aP.cons Ent.rfl (aP.cons Ent.rfl (aP.cons eF aP.nil)))))) bO (aQ.cons rfl (dR rfl (gZ (aP.cons Ent.rfl (aP.cons Ent.rfl (aP.cons eF (aP.cons Ent.rfl aP.nil)))))) bO (aQ.cons rfl (dR rfl (gZ (aP.cons Ent.rfl (aP.cons Ent.rfl (aP.cons Ent.rfl (aP.cons eF aP.nil)))))) bO (aQ.cons rfl (dR rfl (gZ (aP.cons Ent.rfl (aP.cons Ent.rfl (aP.cons eF (aP.cons Ent.rfl aP.nil)))))) bO (aQ.cons rfl (dR rfl (gZ (aP.cons Ent.rfl (aP.cons Ent.rfl (aP.cons Ent.rfl (aP.cons eF aP.nil)))))) bO (aQ.cons rfl (dR rfl (gZ (aP.cons Ent.rfl (aP.cons Ent.rfl (aP.cons eF (aP.cons eF aP.nil)))))) bO aQ.nil)))))))))))) rfl rfl rfl) (fun b => cR) fun _ => ?_
 refine My (dS (ψs := [fSl aN [{ data := #[111, 117, 116] }], fSl aL [(⟨4, 0, [], [5]⟩ : ScopeNode), (⟨3, 0, [], [2, 3]⟩ : ScopeNode), (⟨2, 4, y1, []⟩ : ScopeNode), (⟨2, 4, y2, []⟩ : ScopeNode), (⟨2, 4, y3, []⟩ : ScopeNode), (⟨3, 0, [], [6, 7]⟩ : ScopeNode), (⟨2, 2, y4, []⟩ : ScopeNode), (⟨3, 0, [], [8, 9]⟩ : ScopeNode), (⟨2, 3, y5, []⟩ : ScopeNode), (⟨4, 1, [], [11]⟩ : ScopeNode), (⟨2, 1, y6, []⟩ : ScopeNode), (⟨2, 4, [], []⟩ : ScopeNode)], fSl aJ [(⟨[(⟨0, 1⟩ : ScopeChan), (⟨0, 1⟩ : ScopeChan), (⟨0, 1⟩ : ScopeChan)], [], [(⟨0, [0], 1⟩ : ScopeRule), (⟨0, [1, 2], 4⟩ : ScopeRule)]⟩ : ScopeDef), (⟨[(⟨0, 0⟩ : ScopeChan)], [], [(⟨0, [0], 10⟩ : ScopeRule)]⟩ : ScopeDef)], aA .i64 0]) rfl ty_bu_26 rfl (aX.cons (has rfl) (aS (bB)) (aX.cons (has rfl) (aS (bB)) (aX.cons (has rfl) (aS (bB)) aX.nil))) rfl) fun _ => ?_
 refine pB (od := odC [2] true (fAny) [aC b1 26 [fSl aN [{ data := #[111, 117, 116] }], fSl aL [(⟨4, 0, [], [5]⟩ : ScopeNode), (⟨3, 0, [], [2, 3]⟩ : ScopeNode), (⟨2, 4, y1, []⟩ : ScopeNode), (⟨2, 4, y2, []⟩ : ScopeNode), (⟨2, 4, y3, []⟩ : ScopeNode), (⟨3, 0, [], [6, 7]⟩ : ScopeNode), (⟨2, 2, y4, []⟩ : ScopeNode), (⟨3, 0, [], [8, 9]⟩ : ScopeNode), (⟨2, 3, y5, []⟩ : ScopeNode), (⟨4, 1, [], [11]⟩ : ScopeNode), (⟨2, 1, y6, []⟩ : ScopeNode), (⟨2, 4, [], []⟩ : ScopeNode)], fSl aJ [(⟨[(⟨0, 1⟩ : ScopeChan), (⟨0, 1⟩ : ScopeChan), (⟨0, 1⟩ : ScopeChan)], [], [(⟨0, [0], 1⟩ : ScopeRule), (⟨0, [1, 2], 4⟩ : ScopeRule)]⟩ : ScopeDef), (⟨[(⟨0, 0⟩ : ScopeChan)], [], [(⟨0, [0], 10⟩ : ScopeRule)]⟩ : ScopeDef)], aA .i64 0]]) (p := 2) (φs' := [fSl aN [{ data := #[111, 117, 116] }], fSl aL [(⟨4, 0, [], [5]⟩ : ScopeNode), (⟨3, 0, [], [2, 3]⟩ : ScopeNode), (⟨2, 4, y1, []⟩ : ScopeNode), (⟨2, 4, y2, []⟩ : ScopeNode), (⟨2, 4, y3, []⟩ : ScopeNode), (⟨3, 0, [], [6, 7]⟩ : ScopeNode), (⟨2, 2, y4, []⟩ : ScopeNode), (⟨3, 0, [], [8, 9]⟩ : ScopeNode), (⟨2, 3, y5, []⟩ : ScopeNode), (⟨4, 1, [], [11]⟩ : ScopeNode), (⟨2, 1, y6, []⟩ : ScopeNode), (⟨2, 4, [], []⟩ : ScopeNode)], fSl aJ [(⟨[(⟨0, 1⟩ : ScopeChan), (⟨0, 1⟩ : ScopeChan), (⟨0, 1⟩ : ScopeChan)], [], [(⟨0, [0], 1⟩ : ScopeRule), (⟨0, [1, 2], 4⟩ : ScopeRule)]⟩ : ScopeDef), (⟨[(⟨0, 0⟩ : ScopeChan)], [], [(⟨0, [0], 10⟩ : ScopeRule)]⟩ : ScopeDef)], aA .i64 0]) rfl (fun _ => rfl) (fun _ => rfl) trivial rfl rfl rfl (has rfl) (has rfl) (aM (bB) (aM (bB) (aM (bB) (aM (aF trivial) bR)))) (sz rfl) rfl rfl rfl (fun _ => ?_)
 refine Z3 ?_
 cases H
 refine aH [2] (by decide) ?_
 exact T_outCS rfl (ag rfl) rfl (bU rfl) Ent.rfl rfl
 exact fk
 kernel_rfl
def sJ  : Option (List UsageDef) :=
 some ([(⟨[4, 2, 2], [4, 3], ([[4], [3], [4]] : List (List Int))⟩ : UsageDef), (⟨[2], [3], ([([] : List Int)] : List (List Int))⟩ : UsageDef)] : List UsageDef)
theorem aBt   (r : List UsageDef) (H : sJ = some r) : FnS Tryz.prog 24 [] [] fAny (fun v => [(fun v => bE v 61 bV r) v]) := by
 unfold sJ at H
 refine bK Tryz.func24 rfl Tryz.ntmps24 rfl (fun β => ?_)
 refine Z12 ?_
 refine Z4 ?_
 refine aR trivial rfl rfl (cC (t := (aB .i64)) (xs := [4, 2, 2]) rfl (et rfl) (aQ.cons rfl (has rfl) (aS (aF trivial)) (aQ.cons rfl (has rfl) (aS (aF trivial)) (aQ.cons rfl (has rfl) (aS (aF trivial)) aQ.nil))) rfl rfl rfl) (fun b1 => ?_)
 generalize hv_v1 : (Value.slice (some ⟨b1, 0, none⟩) _ _) = v1; clear hv_v1
 refine aO 0 rfl (fun hc_v1 => ?_)
 refine Z2 ?_
 refine aR trivial rfl rfl (cC (t := (aB .i64)) (xs := [4, 3]) rfl (et rfl) (aQ.cons rfl (has rfl) (aS (aF trivial)) (aQ.cons rfl (has rfl) (aS (aF trivial)) aQ.nil)) rfl rfl rfl) (fun b2 => ?_)
 generalize hv_v2 : (Value.slice (some ⟨b2, 0, none⟩) _ _) = v2; clear hv_v2
 refine aO 0 rfl (fun hc_v2 => ?_)
 refine Z1 ?_
 refine aR trivial rfl rfl (cC (t := (aB .i64)) (xs := [4]) rfl (et rfl) (aQ.cons rfl (has rfl) (aS (aF trivial)) aQ.nil) rfl rfl rfl) (fun b3 => ?_)
 generalize hv_v3 : (Value.slice (some ⟨b3, 0, none⟩) _ _) = v3; clear hv_v3
 refine aO 0 rfl (fun hc_v3 => ?_)
 refine Z1 ?_
 refine aR trivial rfl rfl (cC (t := (aB .i64)) (xs := [3]) rfl (et rfl) (aQ.cons rfl (has rfl) (aS (aF trivial)) aQ.nil) rfl rfl rfl) (fun b4 => ?_)
 generalize hv_v4 : (Value.slice (some ⟨b4, 0, none⟩) _ _) = v4; clear hv_v4
 refine aO 0 rfl (fun hc_v4 => ?_)
 refine Z1 ?_
 refine aR trivial rfl rfl (cC (t := (aB .i64)) (xs := [4]) rfl (et rfl) (aQ.cons rfl (has rfl) (aS (aF trivial)) aQ.nil) rfl rfl rfl) (fun b5 => ?_)
 generalize hv_v5 : (Value.slice (some ⟨b5, 0, none⟩) _ _) = v5; clear hv_v5
 refine aO 0 rfl (fun hc_v5 => ?_)
 refine aR trivial rfl rfl (cC (t := tF 1) (xs := [[⟨fEq v3, aF hc_v3⟩], [⟨fEq v4, aF hc_v4⟩], [⟨fEq v5, aF hc_v5⟩]]) rfl (et rfl) (aQ.cons rfl (has rfl) (aS (aF hc_v3)) (aQ.cons rfl (has rfl) (aS (aF hc_v4)) (aQ.cons rfl (has rfl) (aS (aF hc_v5)) aQ.nil))) rfl rfl rfl) (fun b6 => ?_)
 generalize hv_v6 : (Value.slice (some ⟨b6, 0, none⟩) _ _) = v6; clear hv_v6
 refine kT ?_
 refine dD ?_
 refine eP (p := 0) (f := (fun v => aE v 30 (aB .i64) [4])) (hf := (fun _ => dI)) rfl Ent.rfl ?_
 refine eB ?_
 refine eP (p := 1) (f := (fun v => aE v 30 (aB .i64) [3])) (hf := (fun _ => dI)) rfl Ent.rfl ?_
 refine cA ?_
 refine eP (p := 2) (f := (fun v => aE v 30 (aB .i64) [4])) (hf := (fun _ => dI)) rfl Ent.rfl ?_
 refine lM (o := (bQ 30 (aB .i64))) (xs := ([[4], [3], [4]] : List (List Int))) rfl rfl rfl ?_
 refine cM 0 rfl (fun hc_v6 => ?_)
 refine Yy (dS (ψs := [fEq v1, fEq v2, fEq v6]) rfl aBY rfl (aX.cons (has rfl) (aS (aF hc_v1)) (aX.cons (has rfl) (aS (aF hc_v2)) (aX.cons (has rfl) (aS (aF hc_v6)) aX.nil))) rfl) ?_
 refine Z1 ?_
 refine aR trivial rfl rfl (cC (t := (aB .i64)) (xs := [2]) rfl (et rfl) (aQ.cons rfl (has rfl) (aS (aF trivial)) aQ.nil) rfl rfl rfl) (fun b7 => ?_)
 generalize hv_v7 : (Value.slice (some ⟨b7, 0, none⟩) _ _) = v7; clear hv_v7
 refine aO 0 rfl (fun hc_v7 => ?_)
 refine Z1 ?_
 refine aR trivial rfl rfl (cC (t := (aB .i64)) (xs := [3]) rfl (et rfl) (aQ.cons rfl (has rfl) (aS (aF trivial)) aQ.nil) rfl rfl rfl) (fun b8 => ?_)
 generalize hv_v8 : (Value.slice (some ⟨b8, 0, none⟩) _ _) = v8; clear hv_v8
 refine aO 0 rfl (fun hc_v8 => ?_)
 refine aR trivial rfl rfl (cC (t := (aB .i64)) (xs := ([] : List Int)) rfl (et rfl) aQ.nil rfl rfl rfl) (fun b9 => ?_)
 generalize hv_v9 : (Value.slice (some ⟨b9, 0, none⟩) _ _) = v9; clear hv_v9
 refine aO 0 rfl (fun hc_v9 => ?_)
 refine aR trivial rfl rfl (cC (t := tF 1) (xs := [[⟨fEq v9, aF hc_v9⟩]]) rfl (et rfl) (aQ.cons rfl (has rfl) (aS (aF hc_v9)) aQ.nil) rfl rfl rfl) (fun b10 => ?_)
 generalize hv_v10 : (Value.slice (some ⟨b10, 0, none⟩) _ _) = v10; clear hv_v10
 refine kT ?_
 refine cA ?_
 refine eP (p := 0) (f := (fun v => aE v 30 (aB .i64) ([] : List Int))) (hf := (fun _ => dI)) rfl Ent.rfl ?_
 refine lM (o := (bQ 30 (aB .i64))) (xs := ([([] : List Int)] : List (List Int))) rfl rfl rfl ?_
 refine cM 0 rfl (fun hc_v10 => ?_)
 refine Yy (dS (ψs := [fEq v7, fEq v8, fEq v10]) rfl aBY rfl (aX.cons (has rfl) (aS (aF hc_v7)) (aX.cons (has rfl) (aS (aF hc_v8)) (aX.cons (has rfl) (aS (aF hc_v10)) aX.nil))) rfl) ?_
 refine aR trivial rfl rfl (cC (t := tF 3) (xs := [[⟨fEq v1, aF hc_v1⟩, ⟨fEq v2, aF hc_v2⟩, ⟨fEq v6, aF hc_v6⟩], [⟨fEq v7, aF hc_v7⟩, ⟨fEq v8, aF hc_v8⟩, ⟨fEq v10, aF hc_v10⟩]]) rfl (et rfl) (aQ.cons rfl (has rfl) bO (aQ.cons rfl (has rfl) bO aQ.nil)) rfl rfl rfl) (fun b11 => ?_)
 generalize hv_v11 : (Value.slice (some ⟨b11, 0, none⟩) _ _) = v11; clear hv_v11
 refine kT ?_
 refine mY ?_
 refine eP (p := 0) (f := (fun v => aE v 30 (aB .i64) [4, 2, 2])) (hf := (fun _ => dI)) rfl Ent.rfl ?_
 refine jA ?_
 refine eP (p := 1) (f := (fun v => aE v 30 (aB .i64) [4, 3])) (hf := (fun _ => dI)) rfl Ent.rfl ?_
 refine bL ?_
 refine eP (p := 2) (f := (fun v => bE v 58 (bQ 30 (aB .i64)) ([[4], [3], [4]] : List (List Int)))) (hf := (fun _ => iC)) rfl Ent.rfl ?_
 refine dD ?_
 refine eP (p := 3) (f := (fun v => aE v 30 (aB .i64) [2])) (hf := (fun _ => dI)) rfl Ent.rfl ?_
 refine eB ?_
 refine eP (p := 4) (f := (fun v => aE v 30 (aB .i64) [3])) (hf := (fun _ => dI)) rfl Ent.rfl ?_
 refine cA ?_
 refine eP (p := 5) (f := (fun v => bE v 58 (bQ 30 (aB .i64)) ([([] : List Int)] : List (List Int)))) (hf := (fun _ => iC)) rfl Ent.rfl ?_
 refine lM (o := bV) (xs := ([(⟨[4, 2, 2], [4, 3], ([[4], [3], [4]] : List (List Int))⟩ : UsageDef), (⟨[2], [3], ([([] : List Int)] : List (List Int))⟩ : UsageDef)] : List UsageDef)) rfl rfl rfl ?_
 refine cM 0 rfl (fun hc_v11 => ?_)
 refine Z3 ?_
 cases H
 exact tR rfl (bU rfl) (fun _ _ _ => trivial) rfl
theorem aCs   (r : List UsageDef) (H : sJ = some r) : FnS Tryz.prog 24 [] [] (fSl bD r) (fun _ => []) := (aBt r H).frz (fun v => (iW rfl jK))
def wL (fuel : Nat)  : Option (Bool) :=
 (aA3 fuel).bind fun y1 =>
 (rL fuel (⟨y1.Free, y1.Nodes, y1.Defs, y1.Main⟩ : ScopeProg)).bind fun y2 =>
 (sJ).bind fun y3 =>
 (wD fuel (⟨y1.Free, y1.Nodes, y1.Defs, y1.Main⟩ : ScopeProg) y3).bind fun y4 =>
 (sJ).bind fun y5 =>
 (aBN fuel (⟨y1.Free, y1.Nodes, y1.Defs, y1.Main⟩ : ScopeProg) y5 7 1).bind fun y6 =>
 (aAN fuel (⟨y1.Free, y1.Nodes, y1.Defs, y1.Main⟩ : ScopeProg) 5 3).bind fun y7 =>
 if y2.2 ≠ 0 then
  some false
 else
  if y4.2 ≠ 0 then
   some false
  else
   if y6.2 ≠ 0 then
    some false
   else
    if y7.2 ≠ 0 then
     some false
    else
     bif !y4.1 then
      some false
     else
      (sJ).bind fun y8 =>
      (oX fuel y2.1 y8).bind fun y9 =>
      bif !y9 then
       some false
      else
       if y6.1 ≠ 4 then
        some false
       else
        if y7.1 ≠ 1 then
         some false
        else
         (sJ).bind fun y10 =>
         (idx y10 0).bind fun y11 =>
         (idx y11.Args 2).bind fun y12 =>
         (idx y12 0).bind fun y13 =>
         (wD fuel (⟨y1.Free, y1.Nodes, y1.Defs, y1.Main⟩ : ScopeProg) (y10.set ((0 : Int).toNat) ({ y11 with Args := y11.Args.set ((2 : Int).toNat) (y12.set ((0 : Int).toNat) 3) }))).bind fun y14 =>
         (idx (y10.set ((0 : Int).toNat) ({ y11 with Args := y11.Args.set ((2 : Int).toNat) (y12.set ((0 : Int).toNat) 3) })) 0).bind fun y15 =>
         (idx y15.Args 2).bind fun y16 =>
         (idx y16 0).bind fun y17 =>
         (wD fuel (⟨y1.Free, y1.Nodes, y1.Defs, y1.Main⟩ : ScopeProg) ((y10.set ((0 : Int).toNat) ({ y11 with Args := y11.Args.set ((2 : Int).toNat) (y12.set ((0 : Int).toNat) 3) })).set ((0 : Int).toNat) ({ y15 with Args := y15.Args.set ((2 : Int).toNat) (y16.set ((0 : Int).toNat) 2) }))).bind fun y18 =>
         (if y14.2 = 0 then
          bif !y14.1 then
           some (decide (y18.2 = 2))
          else
           some false
         else
          some false).bind fun x1 =>
         some x1
theorem aFA (fuel : Nat)   (r : Bool) (H : wL fuel = some r) : FnS Tryz.prog 9 [] [] (aK r) (fun _ => []) := by
 unfold wL at H
 refine bK Tryz.func9 rfl Tryz.ntmps9 rfl (fun β => ?_)
 refine Z4 ?_
 revert H; refine bs fun y1 h1 H => ?_
 refine Tc (aG1 _ _ h1) ?_
 refine aR trivial rfl rfl (cB rfl aCr rfl) (fun b1 => ?_)
 refine dB (φs' := [fSl aN y1.Free, fSl aL y1.Nodes, fSl aJ y1.Defs, aA .i64 y1.Main]) trivial rfl rfl (has rfl) (has rfl) (aM (bB) (aM (bB) (aM (bB) (aM (aF trivial) bR)))) (sz rfl) rfl rfl rfl ?_
 refine Z3 ?_
 revert H; refine bs fun y2 h2 H => ?_
 refine iM trivial rfl rfl rfl (has rfl) (aD.cons (has rfl) aD.nil) rfl (cb rfl) (aDa fuel (⟨y1.Free, y1.Nodes, y1.Defs, y1.Main⟩ : ScopeProg) y2 h2) rfl ?_
 refine Z6 ?_
 refine aI ?_
 revert H; refine bs fun y3 h3 H => ?_
 revert H; refine bs fun y4 h4 H => ?_
 apply bG (ods := [_, _, _, _, _, _, _, _]) 8 0 1 bF rfl rfl rfl
 dsimp only [bA, List.take, List.replicate, List.append, List.drop]
 refine M1 ?_
 intros
 refine bP (od := odC [] true (fSl bD y3) []) (Φ := fSl bD y3) rfl (fun _ => rfl) trivial rfl rfl (has rfl) aD.nil rfl (cb rfl) (aCs y3 h3) (fun _ => ?_)
 refine bP (od := odC [] true (dC [aK y4.1, aA .i64 y4.2]) []) (Φ := dC [aK y4.1, aA .i64 y4.2]) rfl (fun _ => rfl) trivial rfl rfl (has rfl) (aD.cons (has rfl) (aD.cons (has rfl) aD.nil)) rfl (cb rfl) (aBS fuel (⟨y1.Free, y1.Nodes, y1.Defs, y1.Main⟩ : ScopeProg) y3 y4 h4) (fun _ => ?_)
 refine M5 ?_
 intros
 refine Z2 ?_
 refine aI ?_
 revert H; refine bs fun y5 h5 H => ?_
 revert H; refine bs fun y6 h6 H => ?_
 apply bG (ods := [_, _, _, _, _, _, _, _]) 8 0 1 bF rfl rfl rfl
 dsimp only [bA, List.take, List.replicate, List.append, List.drop]
 refine M1 ?_
 intros
 refine bP (od := odC [] true (fSl bD y5) []) (Φ := fSl bD y5) rfl (fun _ => rfl) trivial rfl rfl (has rfl) aD.nil rfl (cb rfl) (aCs y5 h5) (fun _ => ?_)
 refine bP (od := odC [] true (dC [aA .i64 y6.1, aA .i64 y6.2]) []) (Φ := dC [aA .i64 y6.1, aA .i64 y6.2]) rfl (fun _ => rfl) trivial rfl rfl (has rfl) (aD.cons (has rfl) (aD.cons (has rfl) (aD.cons (has rfl) (aD.cons (has rfl) aD.nil)))) rfl (cb rfl) (aG4 fuel (⟨y1.Free, y1.Nodes, y1.Defs, y1.Main⟩ : ScopeProg) y5 7 1 y6 h6) (fun _ => ?_)
 refine M5 ?_
 intros
 refine Z4 ?_
 revert H; refine bs fun y7 h7 H => ?_
 refine Tc (aIa _ _ _ _ _ h7) ?_
 refine Z6 ?_
 refine aI ?_
 refine Z4 ?_
 revert H; refine is (fun c1 H => ?_) fun c1 H => ?_
 refine Z12 ?_
 refine Z12 ?_
 refine Z11 ?_
 cases H
 refine aH [] (by decide) ?_
 exact To
 refine Z4 ?_
 revert H; refine is (fun c2 H => ?_) fun c2 H => ?_
 refine Z12 ?_
 refine Z12 ?_
 refine Z7 ?_
 cases H
 refine aH [] (by decide) ?_
 exact To
 refine Z4 ?_
 revert H; refine is (fun c3 H => ?_) fun c3 H => ?_
 refine Z12 ?_
 refine Z12 ?_
 refine Z3 ?_
 cases H
 refine aH [] (by decide) ?_
 exact To
 refine Z4 ?_
 revert H; refine is (fun c4 H => ?_) fun c4 H => ?_
 refine Z12 ?_
 refine Z11 ?_
 cases H
 refine aH [] (by decide) ?_
 exact To
 refine Z4 ?_
 revert H; refine cs (fun c5 H => ?_) fun c5 H => ?_
 refine Z12 ?_
 refine Z7 ?_
 cases H
 refine aH [] (by decide) ?_
 exact To
 refine Z1 ?_
 revert H; refine bs fun y8 h8 H => ?_
 refine vN ⟨_, _, rfl, rfl, c5⟩ rfl rfl rfl (has rfl) aD.nil rfl (cb rfl) (aBt y8 h8) (Δi := []) rfl (fun v1 => ?_)
 dsimp only [List.append, List.cons_append, List.nil_append]
 refine cM 0 rfl (fun hc_v1 => ?_)
 revert H; refine bs fun y9 h9 H => ?_
 refine xO (Δl := [bE v1 61 bV y8]) (Δi := []) (Δo := []) [(v1, fSl bD y8)] ⟨_, _, rfl, rfl, c5⟩ rfl rfl rfl (has rfl) (dW.cons rfl (uB Ent.rfl) (dW.cons rfl (oT 0 rfl) dW.nil)) (cb rfl) (aB3 fuel y2.1 y8 y9 h9) uS (fun _ h => nomatch h) (fD.cons (iW rfl jK) fD.nil) rfl ?_
 dsimp only [List.append, List.cons_append, List.nil_append]
 refine Z3 ?_
 revert H; refine cs (fun c6 H => ?_) fun c6 H => ?_
 refine Z12 ?_
 refine Z1 ?_
 cases H
 refine aH [] (by decide) ?_
 exact To
 refine Z4 ?_
 revert H; refine is (fun c7 H => ?_) fun c7 H => ?_
 refine Z9 ?_
 cases H
 refine aH [] (by decide) ?_
 exact To
 refine Z4 ?_
 revert H; refine is (fun c8 H => ?_) fun c8 H => ?_
 refine Z5 ?_
 cases H
 refine aH [] (by decide) ?_
 exact To
 refine Z4 ?_
 revert H; refine bs fun y10 h10 H => ?_
 refine vN trivial rfl rfl rfl (has rfl) aD.nil rfl (cb rfl) (aBt y10 h10) (Δi := []) rfl (fun v2 => ?_)
 dsimp only [List.append, List.cons_append, List.nil_append]
 refine cM 0 rfl (fun hc_v2 => ?_)
 refine Z4 ?_
 revert H; refine bs fun y11 h11 H => ?_
 refine Yo 0 rfl (hZ rfl hh hh (el rfl) h11) ?_
 refine Yy (qJ 2 rfl hh (fa rfl) rfl) ?_
 refine qD (i := ((0 : Int).toNat)) (k := 2) (y := y11) (f := (fun v => bE v 58 (bQ 30 (aB .i64)) y11.Args)) (bW h11) rfl (fun v3 => ?_)
 refine cM 0 rfl (fun hc_v3 => ?_)
 refine Yo 1 rfl (iT rfl rfl hh (sc rfl) (bW h11) rfl) ?_
 revert H; refine bs fun y12 h12 H => ?_
 refine Yo 0 rfl (hZ rfl hh hh (el rfl) h12) ?_
 refine qD (i := ((2 : Int).toNat)) (k := 0) (y := y12) (f := (fun v => aE v 30 (aB .i64) y12)) (bW h12) rfl (fun v4 => ?_)
 refine aO 0 rfl (fun hc_v4 => ?_)
 refine Yo 1 rfl (iT rfl rfl hh (sc rfl) (bW h12) rfl) ?_
 revert H; refine bs fun y13 h13 H => ?_
 refine Z1 ?_
 refine rJ (z' := 3) trivial rfl rfl rfl (has rfl) (has rfl) (aF trivial) (sz rfl) (bW h13) rfl rfl ?_
 refine Z4 ?_
 refine mF (o := (bQ 30 (aB .i64))) (i := ((2 : Int).toNat)) (k := 0) (y := y12) (y' := y12.set ((0 : Int).toNat) 3) (f := (fun v => aE v 30 (aB .i64) (y12.set ((0 : Int).toNat) 3))) (hf := (fun _ => dI)) (bW h12) rfl rfl ?_
 refine mF (o := bV) (i := ((0 : Int).toNat)) (k := 2) (y := y11) (y' := { y11 with Args := y11.Args.set ((2 : Int).toNat) (y12.set ((0 : Int).toNat) 3) }) (f := (fun v => bE v 58 (bQ 30 (aB .i64)) (y11.Args.set ((2 : Int).toNat) (y12.set ((0 : Int).toNat) 3)))) (hf := (fun _ => iC)) (bW h11) rfl rfl ?_
 revert H; refine bs fun y14 h14 H => ?_
 refine xO (Δl := [bE v2 61 bV (y10.set ((0 : Int).toNat) ({ y11 with Args := y11.Args.set ((2 : Int).toNat) (y12.set ((0 : Int).toNat) 3) }))]) (Δi := []) (Δo := []) [(v2, fSl bD (y10.set ((0 : Int).toNat) ({ y11 with Args := y11.Args.set ((2 : Int).toNat) (y12.set ((0 : Int).toNat) 3) })))] trivial rfl rfl rfl (has rfl) (dW.cons rfl (uB Ent.rfl) (dW.cons rfl (oT 0 rfl) dW.nil)) (cb rfl) (aBS fuel (⟨y1.Free, y1.Nodes, y1.Defs, y1.Main⟩ : ScopeProg) (y10.set ((0 : Int).toNat) ({ y11 with Args := y11.Args.set ((2 : Int).toNat) (y12.set ((0 : Int).toNat) 3) })) y14 h14) (aEC (by intro φ h; simp only [List.mem_cons, List.not_mem_nil, or_false] at h; rcases h with rfl | rfl <;> exact uS)) (fun _ h => nomatch h) (fD.cons (iW rfl jK) fD.nil) rfl ?_
 dsimp only [List.append, List.cons_append, List.nil_append]
 refine Z8 ?_
 revert H; refine bs fun y15 h15 H => ?_
 refine Yo 0 rfl (hZ rfl hh hh (el rfl) h15) ?_
 refine Yy (qJ 2 rfl hh (fa rfl) rfl) ?_
 refine qD (i := ((0 : Int).toNat)) (k := 2) (y := y15) (f := (fun v => bE v 58 (bQ 30 (aB .i64)) y15.Args)) (bW h15) rfl (fun v5 => ?_)
 refine cM 0 rfl (fun hc_v5 => ?_)
 refine Yo 1 rfl (iT rfl rfl hh (sc rfl) (bW h15) rfl) ?_
 revert H; refine bs fun y16 h16 H => ?_
 refine Yo 0 rfl (hZ rfl hh hh (el rfl) h16) ?_
 refine qD (i := ((2 : Int).toNat)) (k := 0) (y := y16) (f := (fun v => aE v 30 (aB .i64) y16)) (bW h16) rfl (fun v6 => ?_)
 refine aO 0 rfl (fun hc_v6 => ?_)
 refine Yo 1 rfl (iT rfl rfl hh (sc rfl) (bW h16) rfl) ?_
 revert H; refine bs fun y17 h17 H => ?_
 refine Z1 ?_
 refine rJ (z' := 2) trivial rfl rfl rfl (has rfl) (has rfl) (aF trivial) (sz rfl) (bW h17) rfl rfl ?_
 refine Z4 ?_
 refine mF (o := (bQ 30 (aB .i64))) (i := ((2 : Int).toNat)) (k := 0) (y := y16) (y' := y16.set ((0 : Int).toNat) 2) (f := (fun v => aE v 30 (aB .i64) (y16.set ((0 : Int).toNat) 2))) (hf := (fun _ => dI)) (bW h16) rfl rfl ?_
 refine mF (o := bV) (i := ((0 : Int).toNat)) (k := 2) (y := y15) (y' := { y15 with Args := y15.Args.set ((2 : Int).toNat) (y16.set ((0 : Int).toNat) 2) }) (f := (fun v => bE v 58 (bQ 30 (aB .i64)) (y15.Args.set ((2 : Int).toNat) (y16.set ((0 : Int).toNat) 2)))) (hf := (fun _ => iC)) (bW h15) rfl rfl ?_
 revert H; refine bs fun y18 h18 H => ?_
 refine xO (Δl := [bE v2 61 bV ((y10.set ((0 : Int).toNat) ({ y11 with Args := y11.Args.set ((2 : Int).toNat) (y12.set ((0 : Int).toNat) 3) })).set ((0 : Int).toNat) ({ y15 with Args := y15.Args.set ((2 : Int).toNat) (y16.set ((0 : Int).toNat) 2) }))]) (Δi := []) (Δo := []) [(v2, fSl bD ((y10.set ((0 : Int).toNat) ({ y11 with Args := y11.Args.set ((2 : Int).toNat) (y12.set ((0 : Int).toNat) 3) })).set ((0 : Int).toNat) ({ y15 with Args := y15.Args.set ((2 : Int).toNat) (y16.set ((0 : Int).toNat) 2) })))] trivial rfl rfl rfl (has rfl) (dW.cons rfl (uB Ent.rfl) (dW.cons rfl (oT 0 rfl) dW.nil)) (cb rfl) (aBS fuel (⟨y1.Free, y1.Nodes, y1.Defs, y1.Main⟩ : ScopeProg) ((y10.set ((0 : Int).toNat) ({ y11 with Args := y11.Args.set ((2 : Int).toNat) (y12.set ((0 : Int).toNat) 3) })).set ((0 : Int).toNat) ({ y15 with Args := y15.Args.set ((2 : Int).toNat) (y16.set ((0 : Int).toNat) 2) })) y18 h18) (aEC (by intro φ h; simp only [List.mem_cons, List.not_mem_nil, or_false] at h; rcases h with rfl | rfl <;> exact uS)) (fun _ h => nomatch h) (fD.cons (iW rfl jK) fD.nil) rfl ?_
 dsimp only [List.append, List.cons_append, List.nil_append]
 refine Z5 ?_
 revert H; refine bs fun o1 H Hr1 => ?_
 refine aT (ι := Bool) (fun i => o1 = i) (fun i => [(0, aK i)]) (fun i => [aC b1 26 [fSl aN y1.Free, fSl aL y1.Nodes, fSl aJ y1.Defs, aA .i64 y1.Main]]) ?_ ?_
 refine Z4 ?_
 revert H; refine is (fun c9 H => ?_) fun c9 H => ?_
 refine Z4 ?_
 revert H; refine cs (fun c10 H => ?_) fun c10 H => ?_
 refine Z5 ?_
 refine aH [2] (by decide) ?_
 exact Tm (decide (y18.2 = 2)) (ij H)
 refine Z5 ?_
 refine aH [2] (by decide) ?_
 exact Tm (false) (ij H)
 refine Z9 ?_
 refine aH [2] (by decide) ?_
 exact Tm (false) (ij H)
 clear H; intro x1 hi; subst o1; have H := Hr1; clear Hr1; try dsimp only at H
 try dsimp only
 refine Z1 ?_
 cases H
 refine aH [] (by decide) ?_
 exact To
 exact fk
 kernel_rfl
 exact fk
 kernel_rfl
def pW (a0 : List ByteArray) (a1 : ByteArray) : Nat → Int → Option ((Unit) ⊕ (Bool))
| 0, _ => none
| k + 1, x2 =>
 if x2 < (a0.length : Int) then
  (idx a0 x2).bind fun y1 =>
  if y1 = a1 then
   (some true).bind fun r => some (Sum.inr r)
  else
   (chk (x2 + 1)).bind fun z1 =>
   pW a0 a1 k z1
 else
  some (Sum.inl ())
def vU (fuel : Nat) (a0 : List ByteArray) (a1 : ByteArray) : Option (Bool) :=
 (pW a0 a1 fuel 0).bind fun o => match o with
 | Sum.inr r => some r
 | Sum.inl _ =>
 some false
theorem aGF (fuel : Nat)  (a0 : List ByteArray) (a1 : ByteArray) (r : Bool) (H : vU fuel a0 a1 = some r) : FnS Tryz.prog 103 [fSl aN a0, gV a1] [] (aK r) (fun _ => []) := by
 unfold vU at H
 refine bK Tryz.func103 rfl Tryz.ntmps103 rfl (fun β => ?_)
 refine Z3 ?_
 revert H; refine bs fun o1 H Hr1 => ?_
 refine aT (ι := Unit) (fun i => o1 = Sum.inl ()) (fun i => []) (fun i => []) ?_ ?_
 refine Z4 ?_
 refine Tl (ι := Nat × Int) (fun i => pW a0 a1 i.1 i.2 = _) (fun i => i.1) (fun i => [(0, fSl aN a0), (1, gV a1), (5, aA .i64 i.2)]) (fun i => []) (fuel, 0) H ?_
 clear H; rintro ⟨k1, x2⟩ H
 replace H : pW a0 a1 k1 x2 = _ := H
 try dsimp only
 obtain _ | k1 := k1
 rw [pW] at H; cases H
 rw [pW] at H
 refine aI ?_
 refine Z6 ?_
 revert H; refine is (fun c1 H => ?_) fun c1 H => ?_
 refine Z3 ?_
 refine aI ?_
 refine Z4 ?_
 revert H; refine bs fun y1 h1 H => ?_
 refine Z3 ?_
 refine Yy (o_eqlS rfl hh hh) ?_
 refine Z1 ?_
 revert H; refine is (fun c2 H => ?_) fun c2 H => ?_
 refine Z10 ?_
 revert H; refine bs fun r1 H e1 => ?_
 cases e1; cases Hr1
 cases H
 exact To
 refine Z6 ?_
 revert H; refine bs fun z1 h2 H => ?_
 refine Z3 ?_
 exact Tm ((k1, z1)) ⟨H, ls⟩
 refine Z6 ?_
 exact Tm (()) (ij H)
 clear H; intro i hi; subst o1; have H := Hr1; clear Hr1; try dsimp only at H
 try dsimp only
 refine Z4 ?_
 cases H
 exact To
end Go.Proofs.YtmnbfgeljmhekaaGreat
set_option maxRecDepth 100000
set_option maxHeartbeats 2000000
namespace Go.Proofs.YtmnbfgeljmhekaaGreat
open Go.SX Go.SW Go.Dt
attribute [local irreducible] Code.wpIn wpListIn Exit.then Exit.inBlock
def qH (a0 : ByteArray) : Nat → Int → Option ((Unit) ⊕ (Bool))
| 0, _ => none
| k + 1, x2 =>
 if x2 < (a0.size : Int) then
  (sidx a0 x2).bind fun z1 =>
  if z1 < 97 then
   (some false).bind fun r => some (Sum.inr r)
  else
   (sidx a0 x2).bind fun z2 =>
   if 122 < z2 then
    (some false).bind fun r => some (Sum.inr r)
   else
    (chk (x2 + 1)).bind fun z3 =>
    qH a0 k z3
 else
  some (Sum.inl ())
def tT (fuel : Nat) (a0 : ByteArray) : Option (Bool) :=
 if (a0.size : Int) < 1 then
  some false
 else
  if 8 < (a0.size : Int) then
   some false
  else
   (qH a0 fuel 0).bind fun o => match o with
   | Sum.inr r => some r
   | Sum.inl _ =>
   (vU fuel [{ data := #[97, 110, 100] }, { data := #[100, 101, 102] }, { data := #[101, 108, 115, 101] }, { data := #[103, 111] }, { data := #[105, 102] }, { data := #[105, 110] }, { data := #[112, 108, 97, 99, 101] }, { data := #[115, 116, 111, 112] }, { data := #[116, 104, 101, 110] }, { data := #[119, 97, 116, 99, 104] }] a0).bind fun y1 =>
   some (!y1)
theorem aBZ (fuel : Nat)  (a0 : ByteArray) (r : Bool) (H : tT fuel a0 = some r) : FnS Tryz.prog 87 [gV a0] [] (aK r) (fun _ => []) := by
 unfold tT at H
 refine bK Tryz.func87 rfl Tryz.ntmps87 rfl (fun β => ?_)
 refine Z3 ?_
 refine aI ?_
 refine Z2 ?_
 refine Yy (vM rfl hh oD) ?_
 refine Z2 ?_
 revert H; refine is (fun c1 H => ?_) fun c1 H => ?_
 refine Z10 ?_
 cases H
 exact To
 refine Z1 ?_
 refine Yg c1 (vM rfl hh oD) ?_
 refine Z3 ?_
 revert H; refine is (fun c2 H => ?_) fun c2 H => ?_
 refine Z5 ?_
 cases H
 exact To
 refine Z3 ?_
 revert H; refine bs fun o1 H Hr1 => ?_
 refine aT (ι := Unit) (fun i => o1 = Sum.inl ()) (fun i => [(0, gV a0)]) (fun i => []) ?_ ?_
 refine Z4 ?_
 refine Tl (ι := Nat × Int) (fun i => qH a0 i.1 i.2 = _) (fun i => i.1) (fun i => [(0, gV a0), (3, aA .i64 i.2)]) (fun i => []) (fuel, 0) H ?_
 clear H; rintro ⟨k1, x2⟩ H
 replace H : qH a0 k1 x2 = _ := H
 try dsimp only
 obtain _ | k1 := k1
 rw [qH] at H; cases H
 rw [qH] at H
 refine aI ?_
 refine Z3 ?_
 refine Yy (vM rfl hh oD) ?_
 refine Z2 ?_
 revert H; refine is (fun c3 H => ?_) fun c3 H => ?_
 refine Z3 ?_
 refine aI ?_
 refine Z4 ?_
 revert H; refine bs fun z1 h1 H => ?_
 refine Yy (yL rfl hh hh oD h1) ?_
 refine Z2 ?_
 revert H; refine is (fun c4 H => ?_) fun c4 H => ?_
 refine Z12 ?_
 refine Z4 ?_
 revert H; refine bs fun r1 H e1 => ?_
 cases e1; cases Hr1
 cases H
 exact To
 refine Z2 ?_
 revert H; refine bs fun z2 h2 H => ?_
 refine Yg c4 (yL rfl hh hh oD h2) ?_
 refine Z3 ?_
 revert H; refine is (fun c5 H => ?_) fun c5 H => ?_
 refine Z10 ?_
 revert H; refine bs fun r2 H e2 => ?_
 cases e2; cases Hr1
 cases H
 exact To
 refine Z6 ?_
 revert H; refine bs fun z3 h3 H => ?_
 refine Z3 ?_
 exact Tm ((k1, z3)) ⟨H, ls⟩
 refine Z6 ?_
 exact Tm (()) (ij H)
 clear H; intro i hi; subst o1; have H := Hr1; clear Hr1; try dsimp only at H
 try dsimp only
 refine Z1 ?_
 refine aR trivial rfl rfl (cC (t := aN) (xs := [{ data := #[97, 110, 100] }, { data := #[100, 101, 102] }, { data := #[101, 108, 115, 101] }, { data := #[103, 111] }, { data := #[105, 102] }, { data := #[105, 110] }, { data := #[112, 108, 97, 99, 101] }, { data := #[115, 116, 111, 112] }, { data := #[116, 104, 101, 110] }, { data := #[119, 97, 116, 99, 104] }]) rfl (et rfl) (aQ.cons rfl (has rfl) (aS (aF trivial)) (aQ.cons rfl (has rfl) (aS (aF trivial)) (aQ.cons rfl (has rfl) (aS (aF trivial)) (aQ.cons rfl (has rfl) (aS (aF trivial)) (aQ.cons rfl (has rfl) (aS (aF trivial)) (aQ.cons rfl (has rfl) (aS (aF trivial)) (aQ.cons rfl (has rfl) (aS (aF trivial)) (aQ.cons rfl (has rfl) (aS (aF trivial)) (aQ.cons rfl (has rfl) (aS (aF trivial)) (aQ.cons rfl (has rfl) (aS (aF trivial)) aQ.nil)))))))))) rfl rfl rfl) (fun b1 => ?_)
 generalize hv_v1 : (Value.slice (some ⟨b1, 0, none⟩) _ _) = v1; clear hv_v1
 refine aO 0 rfl (fun hc_v1 => ?_)
 refine Z1 ?_
 refine cW (φ := fSl aN [{ data := #[97, 110, 100] }, { data := #[100, 101, 102] }, { data := #[101, 108, 115, 101] }, { data := #[103, 111] }, { data := #[105, 102] }, { data := #[105, 110] }, { data := #[112, 108, 97, 99, 101] }, { data := #[115, 116, 111, 112] }, { data := #[116, 104, 101, 110] }, { data := #[119, 97, 116, 99, 104] }]) (v := v1) [28] cR (by intro s hs; simp only [List.mem_cons, List.not_mem_nil, or_false] at hs; rcases hs with rfl <;> rfl) ?_
 refine cV ?_
 revert H; refine bs fun y1 h4 H => ?_
 refine Tc (aGF _ _ _ _ h4) ?_
 refine Z4 ?_
 cases H
 exact To
end Go.Proofs.YtmnbfgeljmhekaaGreat
set_option maxRecDepth 100000
set_option maxHeartbeats 2000000
namespace Go.Proofs.YtmnbfgeljmhekaaGreat
open Go.SX Go.SW Go.Dt
attribute [local irreducible] Code.wpIn wpListIn Exit.then Exit.inBlock
def oR (a0 : ScopeDef) : Nat → Int → Option ((Unit) ⊕ (Bool))
| 0, _ => none
| k + 1, x2 =>
 if x2 < (a0.Chans.length : Int) then
  (idx a0.Chans x2).bind fun y1 =>
  if y1.At < 0 then
   (some false).bind fun r => some (Sum.inr r)
  else
   (idx a0.Chans x2).bind fun y2 =>
   if (a0.Spots.length : Int) < y2.At then
    (some false).bind fun r => some (Sum.inr r)
   else
    (idx a0.Chans x2).bind fun y3 =>
    if y3.Many < 0 then
     (some false).bind fun r => some (Sum.inr r)
    else
     (idx a0.Chans x2).bind fun y4 =>
     if 3 < y4.Many then
      (some false).bind fun r => some (Sum.inr r)
     else
      (chk (x2 + 1)).bind fun z1 =>
      oR a0 k z1
 else
  some (Sum.inl ())
def oY (a0 : ScopeDef) : Nat → Int → Option ((Unit) ⊕ (Bool))
| 0, _ => none
| k + 1, x4 =>
 if x4 < (a0.Spots.length : Int) then
  (idx a0.Spots x4).bind fun y5 =>
  if y5.In < 0 then
   (some false).bind fun r => some (Sum.inr r)
  else
   (idx a0.Spots x4).bind fun y6 =>
   if x4 < y6.In then
    (some false).bind fun r => some (Sum.inr r)
   else
    (chk (x4 + 1)).bind fun z2 =>
    oY a0 k z2
 else
  some (Sum.inl ())
def pL (y8 : ScopeRule) (x14 : Int) (y9 : Int) : Nat → Int → Option ((Unit) ⊕ ((List Bool) ⊕ ((List Bool) ⊕ ((List Bool) ⊕ (Bool)))))
| 0, _ => none
| k + 1, x17 =>
 if x17 < x14 then
  (idx y8.Joins x17).bind fun y11 =>
  if y11 = y9 then
   ((((some false).bind fun r => some (Sum.inr r)).bind fun r => some (Sum.inr r)).bind fun r => some (Sum.inr r)).bind fun r => some (Sum.inr r)
  else
   (chk (x17 + 1)).bind fun z3 =>
   pL y8 x14 y9 k z3
 else
  some (Sum.inl ())
def jV (fuel : Nat) (a0 : ScopeDef) (y8 : ScopeRule) : Nat → (List Bool) → Int → Option ((List Bool) ⊕ ((List Bool) ⊕ (Bool)))
| 0, _, _ => none
| k + 1, x13, x14 =>
 if x14 < (y8.Joins.length : Int) then
  ((idx y8.Joins x14).bind fun y9 =>
  if y9 < 0 then
   (((some false).bind fun r => some (Sum.inr r)).bind fun r => some (Sum.inr r)).bind fun r => some (Sum.inr r)
  else
   if (a0.Chans.length : Int) ≤ y9 then
    (((some false).bind fun r => some (Sum.inr r)).bind fun r => some (Sum.inr r)).bind fun r => some (Sum.inr r)
   else
    (idx a0.Chans y9).bind fun y10 =>
    if y10.At ≠ y8.At then
     (((some false).bind fun r => some (Sum.inr r)).bind fun r => some (Sum.inr r)).bind fun r => some (Sum.inr r)
    else
     (pL y8 x14 y9 fuel 0).bind fun o => match o with
     | Sum.inr r => some r
     | Sum.inl _ =>
     (idx x13 y9).bind fun y12 =>
     some (Sum.inl (x13.set y9.toNat true))).bind fun o => match o with
  | Sum.inr r => some r
  | Sum.inl x15 =>
  (chk (x14 + 1)).bind fun z4 =>
  jV fuel a0 y8 k x15 z4
 else
  some (Sum.inl x13)
def nY (fuel : Nat) (a0 : ScopeDef) : Nat → (List Bool) → Int → Option ((List Bool) ⊕ (Bool))
| 0, _, _ => none
| k + 1, x8, x9 =>
 if x9 < (a0.Rules.length : Int) then
  ((idx a0.Rules x9).bind fun y8 =>
  if y8.At < 0 then
   ((some false).bind fun r => some (Sum.inr r)).bind fun r => some (Sum.inr r)
  else
   if (a0.Spots.length : Int) < y8.At then
    ((some false).bind fun r => some (Sum.inr r)).bind fun r => some (Sum.inr r)
   else
    if (y8.Joins.length : Int) < 1 then
     ((some false).bind fun r => some (Sum.inr r)).bind fun r => some (Sum.inr r)
    else
     if 3 < (y8.Joins.length : Int) then
      ((some false).bind fun r => some (Sum.inr r)).bind fun r => some (Sum.inr r)
     else
      jV fuel a0 y8 fuel x8 0).bind fun o => match o with
  | Sum.inr r => some r
  | Sum.inl x10 =>
  (chk (x9 + 1)).bind fun z5 =>
  nY fuel a0 k x10 z5
 else
  some (Sum.inl x8)
def pJ (x5 : List Bool) : Nat → Int → Option ((Unit) ⊕ (Bool))
| 0, _ => none
| k + 1, x19 =>
 if x19 < (x5.length : Int) then
  (idx x5 x19).bind fun y13 =>
  bif y13 then
   (chk (x19 + 1)).bind fun z6 =>
   pJ x5 k z6
  else
   (some false).bind fun r => some (Sum.inr r)
 else
  some (Sum.inl ())
def vV (fuel : Nat) (a0 : ScopeDef) : Option (Bool) :=
 if 30 < (a0.Chans.length : Int) then
  some false
 else
  if 30 < (a0.Spots.length : Int) then
   some false
  else
   if 30 < (a0.Rules.length : Int) then
    some false
   else
    (oR a0 fuel 0).bind fun o => match o with
    | Sum.inr r => some r
    | Sum.inl _ =>
    (oY a0 fuel 0).bind fun o => match o with
    | Sum.inr r => some r
    | Sum.inl _ =>
    (mk false (a0.Chans.length : Int)).bind fun y7 =>
    (nY fuel a0 fuel y7 0).bind fun o => match o with
    | Sum.inr r => some r
    | Sum.inl x5 =>
    (pJ x5 fuel 0).bind fun o => match o with
    | Sum.inr r => some r
    | Sum.inl _ =>
    some true
theorem aHi (fuel : Nat)  (a0 : ScopeDef) (r : Bool) (H : vV fuel a0 = some r) : FnS Tryz.prog 88 [fSt aJ a0] [] (aK r) (fun _ => []) := by
 unfold vV at H
 refine bK Tryz.func88 rfl Tryz.ntmps88 rfl (fun β => ?_)
 refine Z1 ?_
 refine aR trivial rfl rfl (cF rfl (has rfl) bO) (fun b1 => ?_)
 refine Z2 ?_
 refine aI ?_
 refine Z6 ?_
 revert H; refine is (fun c1 H => ?_) fun c1 H => ?_
 refine Yt c1 ?_
 refine Yt c1 ?_
 refine Yt c1 ?_
 refine Yt c1 ?_
 refine Yy (dQ rfl hh c1 hh) ?_
 refine Z12 ?_
 cases H
 refine aH [] (by decide) ?_
 exact To
 refine Yg c1 (cO 1 rfl hh (fa rfl) rfl) ?_
 refine Yh 0 rfl c1 (bM rfl hh (sc rfl) rfl Ent.rfl) ?_
 refine Yg c1 (fT rfl hh (us rfl)) ?_
 refine Yg c1 (gY rfl hh hh) ?_
 refine Yy (cQ rfl hh c1 hh) ?_
 refine Z1 ?_
 revert H; refine is (fun c2 H => ?_) fun c2 H => ?_
 refine Yt c2 ?_
 refine Yt c2 ?_
 refine Yt c2 ?_
 refine Yt c2 ?_
 refine Yy (dQ rfl hh c2 hh) ?_
 refine Z6 ?_
 cases H
 refine aH [] (by decide) ?_
 exact To
 refine Yg c2 (cO 2 rfl hh (fa rfl) rfl) ?_
 refine Yh 0 rfl c2 (bM rfl hh (sc rfl) rfl Ent.rfl) ?_
 refine Yg c2 (fT rfl hh (us rfl)) ?_
 refine Yg c2 (gY rfl hh hh) ?_
 refine Yy (cQ rfl hh c2 hh) ?_
 refine Z1 ?_
 revert H; refine is (fun c3 H => ?_) fun c3 H => ?_
 refine dP (has rfl) c3 ?_
 refine Z4 ?_
 cases H
 refine aH [] (by decide) ?_
 exact To
 refine dN (has rfl) c3 ?_
 refine Z2 ?_
 revert H; refine bs fun o1 H Hr1 => ?_
 refine aT (ι := Unit) (fun i => o1 = Sum.inl ()) (fun i => [(1, fEq (.pointer (some ⟨b1, 0, none⟩)))]) (fun i => [aC b1 99 [fSl aY a0.Chans, fSl bI a0.Spots, fSl bC a0.Rules]]) ?_ ?_
 refine Z4 ?_
 refine Tl (ι := Nat × Int) (fun i => oR a0 i.1 i.2 = _) (fun i => i.1) (fun i => [(1, fEq (.pointer (some ⟨b1, 0, none⟩))), (3, aA .i64 i.2)]) (fun i => [aC b1 99 [fSl aY a0.Chans, fSl bI a0.Spots, fSl bC a0.Rules]]) (fuel, 0) H ?_
 clear H; rintro ⟨k1, x2⟩ H
 replace H : oR a0 k1 x2 = _ := H
 try dsimp only
 obtain _ | k1 := k1
 rw [oR] at H; cases H
 rw [oR] at H
 refine aI ?_
 refine Z7 ?_
 revert H; refine is (fun c4 H => ?_) fun c4 H => ?_
 refine dP (has rfl) c4 ?_
 refine Z2 ?_
 refine aI ?_
 refine Z1 ?_
 refine aI ?_
 revert H; refine bs fun y1 h1 H => ?_
 revert H; refine is (fun c5 H => ?_) fun c5 H => ?_
 apply bG (ods := [_, _, _, _, _, _, _, _, _, _, _, _, _, _, _, _, _, _, _, _, _, _, _, _, _, _, _, _, _, _, _, _, _, _, _, _, _]) 37 0 1 bF rfl rfl rfl
 dsimp only [bA, List.take, List.replicate, List.append, List.drop]
 refine M3 ?_
 intros
 refine My (cG rfl hh hh (el rfl) h1) fun _ => ?_
 refine M4 ?_
 intros
 refine Mt c5 fun _ => ?_
 refine Mt c5 fun _ => ?_
 refine Mt c5 fun _ => ?_
 refine Mt c5 fun _ => ?_
 refine Mt c5 fun _ => ?_
 refine Mt c5 fun _ => ?_
 refine Mt c5 fun _ => ?_
 refine Mt c5 fun _ => ?_
 refine Mt c5 fun _ => ?_
 refine Mt c5 fun _ => ?_
 refine My (dQ rfl hh c5 hh) fun _ => ?_
 refine M8 ?_
 intros
 refine M8 ?_
 intros
 refine M2 ?_
 intros
 refine Z12 ?_
 revert H; refine bs fun r1 H e1 => ?_
 cases e1; cases Hr1
 cases H
 refine aH [] (by decide) ?_
 exact To
 exact fk
 kernel_rfl
 revert H; refine bs fun y2 h2 H => ?_
 revert H; refine is (fun c6 H => ?_) fun c6 H => ?_
 apply bG (ods := [_, _, _, _, _, _, _, _, _, _, _, _, _, _, _, _, _, _, _, _, _, _, _, _, _, _, _, _, _, _, _, _, _, _, _, _, _]) 37 0 1 bF rfl rfl rfl
 dsimp only [bA, List.take, List.replicate, List.append, List.drop]
 refine M3 ?_
 intros
 refine My (cG rfl hh hh (el rfl) h1) fun _ => ?_
 refine M4 ?_
 intros
 refine Mg c5 (cO 0 rfl hh (fa rfl) rfl) fun _ => ?_
 refine cU (od := odC [0] false (fSl aY a0.Chans) [cK]) (ps := [0]) (φ := fSl aY a0.Chans) rfl (fun _ => rfl) ⟨_, _, rfl, rfl, c5⟩ rfl rfl (bM rfl (has rfl) (sc rfl) rfl Ent.rfl) (fun _ => ?_)
 refine Mg c5 (bY rfl hh) fun _ => ?_
 refine Mg c5 (cG rfl hh hh (el rfl) h2) fun _ => ?_
 refine Mg c5 (fW (t' := (aB .i64)) (z := y2.At) rfl hh (fa rfl) rfl) fun _ => ?_
 refine Mg c5 (fQ rfl hh (sc rfl) rfl) fun _ => ?_
 refine Mg c5 (cO 1 rfl hh (fa rfl) rfl) fun _ => ?_
 refine cU (od := odC [0] false (fSl bI a0.Spots) [cK]) (ps := [0]) (φ := fSl bI a0.Spots) rfl (fun _ => rfl) ⟨_, _, rfl, rfl, c5⟩ rfl rfl (bM rfl (has rfl) (sc rfl) rfl Ent.rfl) (fun _ => ?_)
 refine Mg c5 (fT rfl hh (us rfl)) fun _ => ?_
 refine Mg c5 (gY rfl hh hh) fun _ => ?_
 refine My (cQ rfl hh c5 hh) fun _ => ?_
 refine M1 ?_
 intros
 refine Mt c6 fun _ => ?_
 refine Mt c6 fun _ => ?_
 refine Mt c6 fun _ => ?_
 refine Mt c6 fun _ => ?_
 refine Mt c6 fun _ => ?_
 refine Mt c6 fun _ => ?_
 refine Mt c6 fun _ => ?_
 refine My (dQ rfl hh c6 hh) fun _ => ?_
 refine M8 ?_
 intros
 refine M1 ?_
 intros
 refine Z12 ?_
 revert H; refine bs fun r2 H e2 => ?_
 cases e2; cases Hr1
 cases H
 refine aH [] (by decide) ?_
 exact To
 exact fk
 kernel_rfl
 revert H; refine bs fun y3 h3 H => ?_
 revert H; refine is (fun c7 H => ?_) fun c7 H => ?_
 apply bG (ods := [_, _, _, _, _, _, _, _, _, _, _, _, _, _, _, _, _, _, _, _, _, _, _, _, _, _, _, _, _, _, _, _, _, _, _, _, _]) 37 0 1 bF rfl rfl rfl
 dsimp only [bA, List.take, List.replicate, List.append, List.drop]
 refine M3 ?_
 intros
 refine My (cG rfl hh hh (el rfl) h1) fun _ => ?_
 refine M4 ?_
 intros
 refine Mg c5 (cO 0 rfl hh (fa rfl) rfl) fun _ => ?_
 refine cU (od := odC [0] false (fSl aY a0.Chans) [cK]) (ps := [0]) (φ := fSl aY a0.Chans) rfl (fun _ => rfl) ⟨_, _, rfl, rfl, c5⟩ rfl rfl (bM rfl (has rfl) (sc rfl) rfl Ent.rfl) (fun _ => ?_)
 refine Mg c5 (bY rfl hh) fun _ => ?_
 refine Mg c5 (cG rfl hh hh (el rfl) h2) fun _ => ?_
 refine Mg c5 (fW (t' := (aB .i64)) (z := y2.At) rfl hh (fa rfl) rfl) fun _ => ?_
 refine Mg c5 (fQ rfl hh (sc rfl) rfl) fun _ => ?_
 refine Mg c5 (cO 1 rfl hh (fa rfl) rfl) fun _ => ?_
 refine cU (od := odC [0] false (fSl bI a0.Spots) [cK]) (ps := [0]) (φ := fSl bI a0.Spots) rfl (fun _ => rfl) ⟨_, _, rfl, rfl, c5⟩ rfl rfl (bM rfl (has rfl) (sc rfl) rfl Ent.rfl) (fun _ => ?_)
 refine Mg c5 (fT rfl hh (us rfl)) fun _ => ?_
 refine Mg c5 (gY rfl hh hh) fun _ => ?_
 refine My (cQ rfl hh c5 hh) fun _ => ?_
 refine M1 ?_
 intros
 refine Mg c6 (cO 0 rfl hh (fa rfl) rfl) fun _ => ?_
 refine cU (od := odC [0] false (fSl aY a0.Chans) [cK]) (ps := [0]) (φ := fSl aY a0.Chans) rfl (fun _ => rfl) ⟨_, _, rfl, rfl, c6⟩ rfl rfl (bM rfl (has rfl) (sc rfl) rfl Ent.rfl) (fun _ => ?_)
 refine Mg c6 (bY rfl hh) fun _ => ?_
 refine Mg c6 (cG rfl hh hh (el rfl) h3) fun _ => ?_
 refine Mg c6 (fW (t' := (aB .i64)) (z := y3.Many) rfl hh (fa rfl) rfl) fun _ => ?_
 refine Mg c6 (fQ rfl hh (sc rfl) rfl) fun _ => ?_
 refine Mg c6 (tQ rfl hh hh) fun _ => ?_
 refine My (cQ rfl hh c6 hh) fun _ => ?_
 refine M1 ?_
 intros
 refine Mt c7 fun _ => ?_
 refine Mt c7 fun _ => ?_
 refine Mt c7 fun _ => ?_
 refine Mt c7 fun _ => ?_
 refine Mt c7 fun _ => ?_
 refine Mt c7 fun _ => ?_
 refine Mt c7 fun _ => ?_
 refine My (dQ rfl hh c7 hh) fun _ => ?_
 refine Z12 ?_
 revert H; refine bs fun r3 H e3 => ?_
 cases e3; cases Hr1
 cases H
 refine aH [] (by decide) ?_
 exact To
 exact fk
 kernel_rfl
 revert H; refine bs fun y4 h4 H => ?_
 apply bG (ods := [_, _, _, _, _, _, _, _, _, _, _, _, _, _, _, _, _, _, _, _, _, _, _, _, _, _, _, _, _, _, _, _, _, _, _, _, _]) 37 0 1 bF rfl rfl rfl
 dsimp only [bA, List.take, List.replicate, List.append, List.drop]
 refine M3 ?_
 intros
 refine My (cG rfl hh hh (el rfl) h1) fun _ => ?_
 refine M4 ?_
 intros
 refine Mg c5 (cO 0 rfl hh (fa rfl) rfl) fun _ => ?_
 refine cU (od := odC [0] false (fSl aY a0.Chans) [cK]) (ps := [0]) (φ := fSl aY a0.Chans) rfl (fun _ => rfl) ⟨_, _, rfl, rfl, c5⟩ rfl rfl (bM rfl (has rfl) (sc rfl) rfl Ent.rfl) (fun _ => ?_)
 refine Mg c5 (bY rfl hh) fun _ => ?_
 refine Mg c5 (cG rfl hh hh (el rfl) h2) fun _ => ?_
 refine Mg c5 (fW (t' := (aB .i64)) (z := y2.At) rfl hh (fa rfl) rfl) fun _ => ?_
 refine Mg c5 (fQ rfl hh (sc rfl) rfl) fun _ => ?_
 refine Mg c5 (cO 1 rfl hh (fa rfl) rfl) fun _ => ?_
 refine cU (od := odC [0] false (fSl bI a0.Spots) [cK]) (ps := [0]) (φ := fSl bI a0.Spots) rfl (fun _ => rfl) ⟨_, _, rfl, rfl, c5⟩ rfl rfl (bM rfl (has rfl) (sc rfl) rfl Ent.rfl) (fun _ => ?_)
 refine Mg c5 (fT rfl hh (us rfl)) fun _ => ?_
 refine Mg c5 (gY rfl hh hh) fun _ => ?_
 refine My (cQ rfl hh c5 hh) fun _ => ?_
 refine M1 ?_
 intros
 refine Mg c6 (cO 0 rfl hh (fa rfl) rfl) fun _ => ?_
 refine cU (od := odC [0] false (fSl aY a0.Chans) [cK]) (ps := [0]) (φ := fSl aY a0.Chans) rfl (fun _ => rfl) ⟨_, _, rfl, rfl, c6⟩ rfl rfl (bM rfl (has rfl) (sc rfl) rfl Ent.rfl) (fun _ => ?_)
 refine Mg c6 (bY rfl hh) fun _ => ?_
 refine Mg c6 (cG rfl hh hh (el rfl) h3) fun _ => ?_
 refine Mg c6 (fW (t' := (aB .i64)) (z := y3.Many) rfl hh (fa rfl) rfl) fun _ => ?_
 refine Mg c6 (fQ rfl hh (sc rfl) rfl) fun _ => ?_
 refine Mg c6 (tQ rfl hh hh) fun _ => ?_
 refine My (cQ rfl hh c6 hh) fun _ => ?_
 refine M1 ?_
 intros
 refine Mg c7 (cO 0 rfl hh (fa rfl) rfl) fun _ => ?_
 refine cU (od := odC [0] false (fSl aY a0.Chans) [cK]) (ps := [0]) (φ := fSl aY a0.Chans) rfl (fun _ => rfl) ⟨_, _, rfl, rfl, c7⟩ rfl rfl (bM rfl (has rfl) (sc rfl) rfl Ent.rfl) (fun _ => ?_)
 refine Mg c7 (bY rfl hh) fun _ => ?_
 refine Mg c7 (cG rfl hh hh (el rfl) h4) fun _ => ?_
 refine Mg c7 (fW (t' := (aB .i64)) (z := y4.Many) rfl hh (fa rfl) rfl) fun _ => ?_
 refine Mg c7 (fQ rfl hh (sc rfl) rfl) fun _ => ?_
 refine Mg c7 (gY rfl hh hh) fun _ => ?_
 refine My (cQ rfl hh c7 hh) fun _ => ?_
 refine Z2 ?_
 revert H; refine is (fun c8 H => ?_) fun c8 H => ?_
 refine dP (has rfl) c8 ?_
 refine Z9 ?_
 revert H; refine bs fun r4 H e4 => ?_
 cases e4; cases Hr1
 cases H
 refine aH [] (by decide) ?_
 exact To
 refine dN (has rfl) c8 ?_
 refine Z5 ?_
 revert H; refine bs fun z1 h5 H => ?_
 refine Yy (fO rfl hh hh h5) ?_
 refine Z2 ?_
 exact Tm ((k1, z1)) ⟨H, ls⟩
 exact fk
 kernel_rfl
 refine dN (has rfl) c4 ?_
 refine Z5 ?_
 exact Tm (()) (ij H)
 clear H; intro i hi; subst o1; have H := Hr1; clear Hr1; try dsimp only at H
 try dsimp only
 revert H; refine bs fun o2 H Hr2 => ?_
 refine aT (ι := Unit) (fun i => o2 = Sum.inl ()) (fun i => [(1, fEq (.pointer (some ⟨b1, 0, none⟩)))]) (fun i => [aC b1 99 [fSl aY a0.Chans, fSl bI a0.Spots, fSl bC a0.Rules]]) ?_ ?_
 refine Z4 ?_
 refine Tl (ι := Nat × Int) (fun i => oY a0 i.1 i.2 = _) (fun i => i.1) (fun i => [(1, fEq (.pointer (some ⟨b1, 0, none⟩))), (4, aA .i64 i.2)]) (fun i => [aC b1 99 [fSl aY a0.Chans, fSl bI a0.Spots, fSl bC a0.Rules]]) (fuel, 0) H ?_
 clear H; rintro ⟨k2, x4⟩ H
 replace H : oY a0 k2 x4 = _ := H
 try dsimp only
 obtain _ | k2 := k2
 rw [oY] at H; cases H
 rw [oY] at H
 refine aI ?_
 refine Z7 ?_
 revert H; refine is (fun c9 H => ?_) fun c9 H => ?_
 refine dP (has rfl) c9 ?_
 refine Z2 ?_
 refine aI ?_
 refine Z5 ?_
 revert H; refine bs fun y5 h6 H => ?_
 refine Yy (cG rfl hh hh (el rfl) h6) ?_
 refine Z4 ?_
 revert H; refine is (fun c10 H => ?_) fun c10 H => ?_
 refine Yt c10 ?_
 refine Yt c10 ?_
 refine Yt c10 ?_
 refine Yt c10 ?_
 refine Yt c10 ?_
 refine Yt c10 ?_
 refine Yt c10 ?_
 refine Yt c10 ?_
 refine Yy (dQ rfl hh c10 hh) ?_
 refine Z11 ?_
 revert H; refine bs fun r5 H e5 => ?_
 cases e5; cases Hr2
 cases H
 refine aH [] (by decide) ?_
 exact To
 refine Yg c10 (cO 1 rfl hh (fa rfl) rfl) ?_
 refine Yh 0 rfl c10 (bM rfl hh (sc rfl) rfl Ent.rfl) ?_
 refine Yg c10 (bY rfl hh) ?_
 revert H; refine bs fun y6 h7 H => ?_
 refine Yg c10 (cG rfl hh hh (el rfl) h7) ?_
 refine Yg c10 (fW (t' := (aB .i64)) (z := y6.In) rfl hh (fa rfl) rfl) ?_
 refine Yg c10 (fQ rfl hh (sc rfl) rfl) ?_
 refine Yg c10 (bY rfl hh) ?_
 refine Yg c10 (gY rfl hh hh) ?_
 refine Yy (cQ rfl hh c10 hh) ?_
 refine Z1 ?_
 revert H; refine is (fun c11 H => ?_) fun c11 H => ?_
 refine dP (has rfl) c11 ?_
 refine Z9 ?_
 revert H; refine bs fun r6 H e6 => ?_
 cases e6; cases Hr2
 cases H
 refine aH [] (by decide) ?_
 exact To
 refine dN (has rfl) c11 ?_
 refine Z5 ?_
 revert H; refine bs fun z2 h8 H => ?_
 refine Yy (fO rfl hh hh h8) ?_
 refine Z2 ?_
 exact Tm ((k2, z2)) ⟨H, ls⟩
 refine dN (has rfl) c9 ?_
 refine Z5 ?_
 exact Tm (()) (ij H)
 clear H; intro i hi; subst o2; have H := Hr2; clear Hr2; try dsimp only at H
 try dsimp only
 refine Z4 ?_
 revert H; refine bs fun y7 h9 H => ?_
 refine aR trivial rfl rfl (kU (t := cH) (z := false) rfl (has rfl) (et rfl) rfl aCd rfl h9) (fun b2 => ?_)
 generalize hv_v1 : (Value.slice (some ⟨b2, 0, none⟩) _ _) = v1; clear hv_v1
 refine aO 0 rfl (fun hc_v1 => ?_)
 refine Z2 ?_
 revert H; refine bs fun o3 H Hr3 => ?_
 refine aT (ι := List Bool) (fun i => o3 = Sum.inl i) (fun i => [(5, fEq v1)]) (fun i => [aC b1 99 [fSl aY a0.Chans, fSl bI a0.Spots, fSl bC a0.Rules], aE v1 4 cH i]) ?_ ?_
 refine Z4 ?_
 refine aH [1, 0] (by decide) ?_
 refine Tl (ι := Nat × List Bool × Int) (fun i => nY fuel a0 i.1 i.2.1 i.2.2 = _) (fun i => i.1) (fun i => [(1, fEq (.pointer (some ⟨b1, 0, none⟩))), (5, fEq v1), (6, aA .i64 i.2.2)]) (fun i => [aC b1 99 [fSl aY a0.Chans, fSl bI a0.Spots, fSl bC a0.Rules], aE v1 4 cH i.2.1]) (fuel, y7, 0) H ?_
 clear H; rintro ⟨k3, x8, x9⟩ H
 replace H : nY fuel a0 k3 x8 x9 = _ := H
 try dsimp only
 obtain _ | k3 := k3
 rw [nY] at H; cases H
 rw [nY] at H
 refine aI ?_
 refine Z7 ?_
 revert H; refine is (fun c12 H => ?_) fun c12 H => ?_
 refine dP (has rfl) c12 ?_
 refine Z2 ?_
 revert H; refine bs fun o4 H Hr4 => ?_
 refine aT (ι := List Bool) (fun i => o4 = Sum.inl i) (fun i => [(1, fEq (.pointer (some ⟨b1, 0, none⟩))), (5, fEq v1), (6, aA .i64 x9)]) (fun i => [aC b1 99 [fSl aY a0.Chans, fSl bI a0.Spots, fSl bC a0.Rules], aE v1 4 cH i]) ?_ ?_
 refine Z5 ?_
 revert H; refine bs fun y8 h10 H => ?_
 refine Yy (cG rfl hh hh (el rfl) h10) ?_
 refine Z1 ?_
 refine aR trivial rfl rfl (cB rfl vF rfl) (fun b3 => ?_)
 refine dB (φs' := [aA .i64 y8.At, fSl (aB .i64) y8.Joins, aA .i64 y8.Node]) trivial rfl rfl (has rfl) (has rfl) (aM (aF trivial) (aM (bB) (aM (aF trivial) bR))) (sz rfl) rfl rfl rfl ?_
 refine Z1 ?_
 refine aI ?_
 refine Z5 ?_
 revert H; refine is (fun c13 H => ?_) fun c13 H => ?_
 refine Yt c13 ?_
 refine Yt c13 ?_
 refine Yt c13 ?_
 refine Yt c13 ?_
 refine Yt c13 ?_
 refine Yt c13 ?_
 refine Yy (dQ rfl hh c13 hh) ?_
 refine Z12 ?_
 refine Z8 ?_
 revert H; refine bs fun r7 H e7 => ?_
 cases e7; cases Hr4
 refine Z3 ?_
 revert H; refine bs fun r8 H e8 => ?_
 cases e8; cases Hr3
 cases H
 refine aH [] (by decide) ?_
 exact To
 refine Yg c13 (cO 0 rfl hh (fa rfl) rfl) ?_
 refine Yh 0 rfl c13 (bM rfl hh (sc rfl) rfl Ent.rfl) ?_
 refine Yg c13 (cO 1 rfl hh (fa rfl) rfl) ?_
 refine Yh 1 rfl c13 (bM rfl hh (sc rfl) rfl Ent.rfl) ?_
 refine Yg c13 (fT rfl hh (us rfl)) ?_
 refine Yg c13 (gY rfl hh hh) ?_
 refine Yy (cQ rfl hh c13 hh) ?_
 refine Z1 ?_
 revert H; refine is (fun c14 H => ?_) fun c14 H => ?_
 refine Yt c14 ?_
 refine Yt c14 ?_
 refine Yt c14 ?_
 refine Yt c14 ?_
 refine Yy (dQ rfl hh c14 hh) ?_
 refine Z12 ?_
 refine Z2 ?_
 revert H; refine bs fun r9 H e9 => ?_
 cases e9; cases Hr4
 refine Z3 ?_
 revert H; refine bs fun r10 H e10 => ?_
 cases e10; cases Hr3
 cases H
 refine aH [] (by decide) ?_
 exact To
 refine Yg c14 (cO 1 rfl hh (fa rfl) rfl) ?_
 refine Yh 0 rfl c14 (bM rfl hh (sc rfl) rfl Ent.rfl) ?_
 refine Yg c14 (fT rfl hh (us rfl)) ?_
 refine Yg c14 (tQ rfl hh hh) ?_
 refine Yy (cQ rfl hh c14 hh) ?_
 refine Z1 ?_
 revert H; refine is (fun c15 H => ?_) fun c15 H => ?_
 refine Yt c15 ?_
 refine Yt c15 ?_
 refine Yt c15 ?_
 refine Yt c15 ?_
 refine Yy (dQ rfl hh c15 hh) ?_
 refine Z8 ?_
 revert H; refine bs fun r11 H e11 => ?_
 cases e11; cases Hr4
 refine Z3 ?_
 revert H; refine bs fun r12 H e12 => ?_
 cases e12; cases Hr3
 cases H
 refine aH [] (by decide) ?_
 exact To
 refine Yg c15 (cO 1 rfl hh (fa rfl) rfl) ?_
 refine Yh 0 rfl c15 (bM rfl hh (sc rfl) rfl Ent.rfl) ?_
 refine Yg c15 (fT rfl hh (us rfl)) ?_
 refine Yg c15 (gY rfl hh hh) ?_
 refine Yy (cQ rfl hh c15 hh) ?_
 refine Z1 ?_
 revert H; refine is (fun c16 H => ?_) fun c16 H => ?_
 refine dP (has rfl) c16 ?_
 refine Z6 ?_
 revert H; refine bs fun r13 H e13 => ?_
 cases e13; cases Hr4
 refine Z3 ?_
 revert H; refine bs fun r14 H e14 => ?_
 cases e14; cases Hr3
 cases H
 refine aH [] (by decide) ?_
 exact To
 refine dN (has rfl) c16 ?_
 refine Z6 ?_
 refine Tl (ι := Nat × List Bool × Int) (fun i => jV fuel a0 y8 i.1 i.2.1 i.2.2 = _) (fun i => i.1) (fun i => [(1, fEq (.pointer (some ⟨b1, 0, none⟩))), (5, fEq v1), (6, aA .i64 x9), (7, fEq (.pointer (some ⟨b3, 0, none⟩))), (8, aA .i64 i.2.2)]) (fun i => [aC b3 105 [aA .i64 y8.At, fSl (aB .i64) y8.Joins, aA .i64 y8.Node], aC b1 99 [fSl aY a0.Chans, fSl bI a0.Spots, fSl bC a0.Rules], aE v1 4 cH i.2.1]) (fuel, x8, 0) H ?_
 clear H; rintro ⟨k4, x13, x14⟩ H
 replace H : jV fuel a0 y8 k4 x13 x14 = _ := H
 try dsimp only
 obtain _ | k4 := k4
 rw [jV] at H; cases H
 rw [jV] at H
 refine aI ?_
 refine Z7 ?_
 revert H; refine is (fun c17 H => ?_) fun c17 H => ?_
 refine dP (has rfl) c17 ?_
 refine Z2 ?_
 revert H; refine bs fun o5 H Hr5 => ?_
 refine aT (ι := List Bool) (fun i => o5 = Sum.inl i) (fun i => [(1, fEq (.pointer (some ⟨b1, 0, none⟩))), (5, fEq v1), (6, aA .i64 x9), (7, fEq (.pointer (some ⟨b3, 0, none⟩))), (8, aA .i64 x14)]) (fun i => [aC b3 105 [aA .i64 y8.At, fSl (aB .i64) y8.Joins, aA .i64 y8.Node], aC b1 99 [fSl aY a0.Chans, fSl bI a0.Spots, fSl bC a0.Rules], aE v1 4 cH i]) ?_ ?_
 refine Z5 ?_
 revert H; refine bs fun y9 h11 H => ?_
 refine Yy (cG rfl hh hh (el rfl) h11) ?_
 refine Z3 ?_
 refine aI ?_
 refine aI ?_
 revert H; refine is (fun c18 H => ?_) fun c18 H => ?_
 apply bG (ods := [_, _, _, _, _, _, _, _, _, _, _, _, _, _, _, _, _, _, _, _]) 20 0 3 bF rfl rfl rfl
 dsimp only [bA, List.take, List.replicate, List.append, List.drop]
 refine M3 ?_
 intros
 refine Mt c18 fun _ => ?_
 refine Mt c18 fun _ => ?_
 refine Mt c18 fun _ => ?_
 refine Mt c18 fun _ => ?_
 refine Mt c18 fun _ => ?_
 refine My (dQ rfl hh c18 hh) fun _ => ?_
 refine M8 ?_
 intros
 refine M3 ?_
 intros
 refine Z9 ?_
 revert H; refine bs fun r15 H e15 => ?_
 cases e15; cases Hr5
 refine Z4 ?_
 revert H; refine bs fun r16 H e16 => ?_
 cases e16; cases Hr4
 refine Z3 ?_
 revert H; refine bs fun r17 H e17 => ?_
 cases e17; cases Hr3
 cases H
 refine aH [] (by decide) ?_
 exact To
 exact fk
 kernel_rfl
 revert H; refine is (fun c19 H => ?_) fun c19 H => ?_
 apply bG (ods := [_, _, _, _, _, _, _, _, _, _, _, _, _, _, _, _, _, _, _, _]) 20 0 3 bF rfl rfl rfl
 dsimp only [bA, List.take, List.replicate, List.append, List.drop]
 refine M3 ?_
 intros
 refine Mg c18 (bY rfl hh) fun _ => ?_
 refine Mg c18 (cO 0 rfl hh (fa rfl) rfl) fun _ => ?_
 refine cU (od := odC [1] false (fSl aY a0.Chans) [cK]) (ps := [1]) (φ := fSl aY a0.Chans) rfl (fun _ => rfl) ⟨_, _, rfl, rfl, c18⟩ rfl rfl (bM rfl (has rfl) (sc rfl) rfl Ent.rfl) (fun _ => ?_)
 refine Mg c18 (fT rfl hh (us rfl)) fun _ => ?_
 refine Mg c18 (qU rfl hh hh) fun _ => ?_
 refine My (cQ rfl hh c18 hh) fun _ => ?_
 refine M1 ?_
 intros
 refine Mt c19 fun _ => ?_
 refine Mt c19 fun _ => ?_
 refine Mt c19 fun _ => ?_
 refine Mt c19 fun _ => ?_
 refine Mt c19 fun _ => ?_
 refine Mt c19 fun _ => ?_
 refine Mt c19 fun _ => ?_
 refine Mt c19 fun _ => ?_
 refine Mt c19 fun _ => ?_
 refine My (dQ rfl hh c19 hh) fun _ => ?_
 refine Z9 ?_
 revert H; refine bs fun r18 H e18 => ?_
 cases e18; cases Hr5
 refine Z4 ?_
 revert H; refine bs fun r19 H e19 => ?_
 cases e19; cases Hr4
 refine Z3 ?_
 revert H; refine bs fun r20 H e20 => ?_
 cases e20; cases Hr3
 cases H
 refine aH [] (by decide) ?_
 exact To
 exact fk
 kernel_rfl
 revert H; refine bs fun y10 h12 H => ?_
 apply bG (ods := [_, _, _, _, _, _, _, _, _, _, _, _, _, _, _, _, _, _, _, _]) 20 0 3 bF rfl rfl rfl
 dsimp only [bA, List.take, List.replicate, List.append, List.drop]
 refine M3 ?_
 intros
 refine Mg c18 (bY rfl hh) fun _ => ?_
 refine Mg c18 (cO 0 rfl hh (fa rfl) rfl) fun _ => ?_
 refine cU (od := odC [1] false (fSl aY a0.Chans) [cK]) (ps := [1]) (φ := fSl aY a0.Chans) rfl (fun _ => rfl) ⟨_, _, rfl, rfl, c18⟩ rfl rfl (bM rfl (has rfl) (sc rfl) rfl Ent.rfl) (fun _ => ?_)
 refine Mg c18 (fT rfl hh (us rfl)) fun _ => ?_
 refine Mg c18 (qU rfl hh hh) fun _ => ?_
 refine My (cQ rfl hh c18 hh) fun _ => ?_
 refine M1 ?_
 intros
 refine Mg c19 (cO 0 rfl hh (fa rfl) rfl) fun _ => ?_
 refine cU (od := odC [1] false (fSl aY a0.Chans) [cK]) (ps := [1]) (φ := fSl aY a0.Chans) rfl (fun _ => rfl) ⟨_, _, rfl, rfl, c19⟩ rfl rfl (bM rfl (has rfl) (sc rfl) rfl Ent.rfl) (fun _ => ?_)
 refine Mg c19 (bY rfl hh) fun _ => ?_
 refine Mg c19 (cG rfl hh hh (el rfl) h12) fun _ => ?_
 refine Mg c19 (fW (t' := (aB .i64)) (z := y10.At) rfl hh (fa rfl) rfl) fun _ => ?_
 refine Mg c19 (fQ rfl hh (sc rfl) rfl) fun _ => ?_
 refine Mg c19 (cO 0 rfl hh (fa rfl) rfl) fun _ => ?_
 refine cU (od := odC [0] false (aA .i64 y8.At) [cK]) (ps := [0]) (φ := aA .i64 y8.At) rfl (fun _ => rfl) ⟨_, _, rfl, rfl, c19⟩ rfl rfl (bM rfl (has rfl) (sc rfl) rfl Ent.rfl) (fun _ => ?_)
 refine Mg c19 (tA rfl hh hh) fun _ => ?_
 refine My (cQ rfl hh c19 hh) fun _ => ?_
 refine Z2 ?_
 revert H; refine is (fun c20 H => ?_) fun c20 H => ?_
 refine dP (has rfl) c20 ?_
 refine Z6 ?_
 revert H; refine bs fun r21 H e21 => ?_
 cases e21; cases Hr5
 refine Z4 ?_
 revert H; refine bs fun r22 H e22 => ?_
 cases e22; cases Hr4
 refine Z3 ?_
 revert H; refine bs fun r23 H e23 => ?_
 cases e23; cases Hr3
 cases H
 refine aH [] (by decide) ?_
 exact To
 refine dN (has rfl) c20 ?_
 refine Z2 ?_
 revert H; refine bs fun o6 H Hr6 => ?_
 refine aT (ι := Unit) (fun i => o6 = Sum.inl ()) (fun i => [(1, fEq (.pointer (some ⟨b1, 0, none⟩))), (5, fEq v1), (6, aA .i64 x9), (7, fEq (.pointer (some ⟨b3, 0, none⟩))), (8, aA .i64 x14), (9, aA .i64 y9)]) (fun i => [aC b3 105 [aA .i64 y8.At, fSl (aB .i64) y8.Joins, aA .i64 y8.Node], aC b1 99 [fSl aY a0.Chans, fSl bI a0.Spots, fSl bC a0.Rules], aE v1 4 cH x13]) ?_ ?_
 refine Z4 ?_
 refine Tl (ι := Nat × Int) (fun i => pL y8 x14 y9 i.1 i.2 = _) (fun i => i.1) (fun i => [(1, fEq (.pointer (some ⟨b1, 0, none⟩))), (5, fEq v1), (6, aA .i64 x9), (7, fEq (.pointer (some ⟨b3, 0, none⟩))), (8, aA .i64 x14), (9, aA .i64 y9), (10, aA .i64 i.2)]) (fun i => [aC b3 105 [aA .i64 y8.At, fSl (aB .i64) y8.Joins, aA .i64 y8.Node], aC b1 99 [fSl aY a0.Chans, fSl bI a0.Spots, fSl bC a0.Rules], aE v1 4 cH x13]) (fuel, 0) H ?_
 clear H; rintro ⟨k5, x17⟩ H
 replace H : pL y8 x14 y9 k5 x17 = _ := H
 try dsimp only
 obtain _ | k5 := k5
 rw [pL] at H; cases H
 rw [pL] at H
 refine aI ?_
 refine Z5 ?_
 revert H; refine is (fun c21 H => ?_) fun c21 H => ?_
 refine dP (has rfl) c21 ?_
 refine Z2 ?_
 refine aI ?_
 refine Z5 ?_
 revert H; refine bs fun y11 h13 H => ?_
 refine Yy (cG rfl hh hh (el rfl) h13) ?_
 refine Z4 ?_
 revert H; refine is (fun c22 H => ?_) fun c22 H => ?_
 refine dP (has rfl) c22 ?_
 refine Z9 ?_
 revert H; refine bs fun r24 H e24 => ?_
 cases e24; cases Hr6
 refine Z2 ?_
 revert H; refine bs fun r25 H e25 => ?_
 cases e25; cases Hr5
 refine Z4 ?_
 revert H; refine bs fun r26 H e26 => ?_
 cases e26; cases Hr4
 refine Z3 ?_
 revert H; refine bs fun r27 H e27 => ?_
 cases e27; cases Hr3
 cases H
 refine aH [] (by decide) ?_
 exact To
 refine dN (has rfl) c22 ?_
 refine Z5 ?_
 revert H; refine bs fun z3 h14 H => ?_
 refine Yy (fO rfl hh hh h14) ?_
 refine Z2 ?_
 exact Tm ((k5, z3)) ⟨H, ls⟩
 refine dN (has rfl) c21 ?_
 refine Z5 ?_
 exact Tm (()) (ij H)
 clear H; intro i hi; subst o6; have H := Hr6; clear Hr6; try dsimp only at H
 try dsimp only
 refine Z3 ?_
 revert H; refine bs fun y12 h15 H => ?_
 refine Yo 2 rfl (jJ rfl hh hh (el rfl) h15) ?_
 refine eB ?_
 refine rJ (z' := true) trivial rfl rfl rfl (has rfl) (has rfl) (aF trivial) (sz rfl) (bW h15) rfl rfl ?_
 refine Z3 ?_
 refine aH [1, 2, 0] (by decide) ?_
 exact Tm (x13.set y9.toNat true) (ij H)
 exact fk
 kernel_rfl
 clear H; intro x15 hi; subst o5; have H := Hr5; clear Hr5; try dsimp only at H
 try dsimp only
 refine Z2 ?_
 revert H; refine bs fun z4 h16 H => ?_
 refine Yy (fO rfl hh hh h16) ?_
 refine Z2 ?_
 exact Tm ((k4, x15, z4)) ⟨H, ls⟩
 refine dN (has rfl) c17 ?_
 refine Z6 ?_
 refine aH [1, 2] (by decide) ?_
 exact Tm (x13) (ij H)
 clear H; intro x10 hi; subst o4; have H := Hr4; clear Hr4; try dsimp only at H
 try dsimp only
 refine Z2 ?_
 revert H; refine bs fun z5 h17 H => ?_
 refine Yy (fO rfl hh hh h17) ?_
 refine Z2 ?_
 exact Tm ((k3, x10, z5)) ⟨H, ls⟩
 refine dN (has rfl) c12 ?_
 refine Z5 ?_
 exact Tm (x8) (ij H)
 clear H; intro x5 hi; subst o3; have H := Hr3; clear Hr3; try dsimp only at H
 try dsimp only
 revert H; refine bs fun o7 H Hr7 => ?_
 refine aT (ι := Unit) (fun i => o7 = Sum.inl ()) (fun i => []) (fun i => [aC b1 99 [fSl aY a0.Chans, fSl bI a0.Spots, fSl bC a0.Rules]]) ?_ ?_
 refine Z4 ?_
 refine Tl (ι := Nat × Int) (fun i => pJ x5 i.1 i.2 = _) (fun i => i.1) (fun i => [(5, fEq v1), (11, aA .i64 i.2)]) (fun i => [aC b1 99 [fSl aY a0.Chans, fSl bI a0.Spots, fSl bC a0.Rules], aE v1 4 cH x5]) (fuel, 0) H ?_
 clear H; rintro ⟨k6, x19⟩ H
 replace H : pJ x5 k6 x19 = _ := H
 try dsimp only
 obtain _ | k6 := k6
 rw [pJ] at H; cases H
 rw [pJ] at H
 refine aI ?_
 refine Z6 ?_
 revert H; refine is (fun c23 H => ?_) fun c23 H => ?_
 refine dP (has rfl) c23 ?_
 refine Z2 ?_
 refine aI ?_
 refine Z4 ?_
 revert H; refine bs fun y13 h18 H => ?_
 refine Yo 1 rfl (jJ rfl hh hh (el rfl) h18) ?_
 refine Yo 1 rfl (iN rfl rfl hh (sc rfl) (bW h18) rfl) ?_
 refine Z2 ?_
 revert H; refine cs (fun c24 H => ?_) fun c24 H => ?_
 refine dN (has rfl) (pH c24) ?_
 refine Z5 ?_
 revert H; refine bs fun z6 h19 H => ?_
 refine Yy (fO rfl hh hh h19) ?_
 refine Z2 ?_
 exact Tm ((k6, z6)) ⟨H, ls⟩
 refine dP (has rfl) (oZ c24) ?_
 refine Z9 ?_
 revert H; refine bs fun r28 H e28 => ?_
 cases e28; cases Hr7
 cases H
 refine aH [] (by decide) ?_
 exact To
 refine dN (has rfl) c23 ?_
 refine Z5 ?_
 refine aH [0] (by decide) ?_
 exact Tm (()) (ij H)
 clear H; intro i hi; subst o7; have H := Hr7; clear Hr7; try dsimp only at H
 try dsimp only
 refine Z4 ?_
 cases H
 refine aH [] (by decide) ?_
 exact To
end Go.Proofs.YtmnbfgeljmhekaaGreat
set_option maxRecDepth 100000
set_option maxHeartbeats 2000000
namespace Go.Proofs.YtmnbfgeljmhekaaGreat
open Go.SX Go.SW Go.Dt
attribute [local irreducible] Code.wpIn wpListIn Exit.then Exit.inBlock
def vE (a0 : Int) : Option (Int × Int × Bool) :=
 (if a0 = 1 then
  some (decide (a0 = 1))
 else
  some (decide (a0 = 7))).bind fun x1 =>
 bif x1 then
  some (0, 0, true)
 else
  if a0 = 2 then
   some ((-1), 0, true)
  else
   if a0 = 3 then
    some (0, 2, true)
   else
    if a0 = 5 then
     some (1, 2, true)
    else
     (if a0 = 4 then
      some (decide (a0 = 4))
     else
      if a0 = 6 then
       some (decide (a0 = 6))
      else
       some (decide (a0 = 8))).bind fun x2 =>
     bif x2 then
      some (0, 1, true)
     else
      some (0, 0, false)
theorem aFM  (a0 : Int) (r : Int × Int × Bool) (H : vE a0 = some r) : FnS Tryz.prog 104 [aA .i64 a0] [] (dC [aA .i64 r.1, aA .i64 r.2.1, aK r.2.2]) (fun _ => []) := by
 unfold vE at H
 refine bK Tryz.func104 rfl Tryz.ntmps104 rfl (fun β => ?_)
 refine Z5 ?_
 refine aI ?_
 refine Z4 ?_
 revert H; refine bs fun o1 H Hr1 => ?_
 refine aT (ι := Bool) (fun i => o1 = i) (fun i => [(5, aA .i64 a0), (6, aK i)]) (fun i => []) ?_ ?_
 refine Z4 ?_
 revert H; refine is (fun c1 H => ?_) fun c1 H => ?_
 refine Z3 ?_
 exact Tm (decide (a0 = 1)) (ij H)
 refine Z5 ?_
 exact Tm (decide (a0 = 7)) (ij H)
 clear H; intro x1 hi; subst o1; have H := Hr1; clear Hr1; try dsimp only at H
 try dsimp only
 revert H; refine cs (fun c2 H => ?_) fun c2 H => ?_
 refine Z9 ?_
 cases H
 exact tX rfl (bU rfl) (bU rfl) (bU rfl) rfl
 refine Z5 ?_
 revert H; refine is (fun c3 H => ?_) fun c3 H => ?_
 refine Z9 ?_
 cases H
 exact tX rfl (bU rfl) (bU rfl) (bU rfl) rfl
 refine Z5 ?_
 revert H; refine is (fun c4 H => ?_) fun c4 H => ?_
 refine Z9 ?_
 cases H
 exact tX rfl (bU rfl) (bU rfl) (bU rfl) rfl
 refine Z5 ?_
 revert H; refine is (fun c5 H => ?_) fun c5 H => ?_
 refine Z9 ?_
 cases H
 exact tX rfl (bU rfl) (bU rfl) (bU rfl) rfl
 refine Z1 ?_
 revert H; refine bs fun o2 H Hr2 => ?_
 refine aT (ι := Bool) (fun i => o2 = i) (fun i => [(15, aK i)]) (fun i => []) ?_ ?_
 refine Z4 ?_
 revert H; refine is (fun c6 H => ?_) fun c6 H => ?_
 refine Z3 ?_
 exact Tm (decide (a0 = 4)) (ij H)
 refine Z5 ?_
 revert H; refine is (fun c7 H => ?_) fun c7 H => ?_
 refine Z3 ?_
 exact Tm (decide (a0 = 6)) (ij H)
 refine Z5 ?_
 exact Tm (decide (a0 = 8)) (ij H)
 clear H; intro x2 hi; subst o2; have H := Hr2; clear Hr2; try dsimp only at H
 try dsimp only
 revert H; refine cs (fun c8 H => ?_) fun c8 H => ?_
 refine Z9 ?_
 cases H
 exact tX rfl (bU rfl) (bU rfl) (bU rfl) rfl
 refine Z10 ?_
 cases H
 exact tX rfl (bU rfl) (bU rfl) (bU rfl) rfl
def pM (rec_r03_expNodes : ScopeExp → Int → Option (Int)) (a0 : ScopeExp) (a1 : Int) : Nat → Int → Int → Option (Int)
| 0, _, _ => none
| k + 1, x4, x5 =>
 if x5 < (a0.Kids.length : Int) then
  if x4 ≤ a1 then
   (idx a0.Kids x5).bind fun y1 =>
   (chk (a1 - x4)).bind fun z1 =>
   (rec_r03_expNodes y1 z1).bind fun y2 =>
   (chk (x4 + y2)).bind fun z2 =>
   (chk (x5 + 1)).bind fun z3 =>
   pM rec_r03_expNodes a0 a1 k z2 z3
  else
   some x4
 else
  some x4
def mZ : Nat → ScopeExp → Int → Option (Int)
| 0, _, _ => none
| fuel + 1, a0, a1 =>
 (pM (mZ fuel) a0 a1 fuel 1 0).bind fun x1 =>
 some x1
theorem aG7 : ∀ (fuel : Nat), (∀  (a0 : ScopeExp) (a1 : Int) (r : Int) (H : mZ fuel a0 a1 = some r), FnS Tryz.prog 118 [fSt aW a0, aA .i64 a1] [] (aA .i64 r) (fun _ => [])) := by
 intro fuel
 induction fuel with
 | zero => exact fun a0 a1 r H => (by rw [mZ] at H; cases H)
 | succ fuel ih =>
 have ih_r03_expNodes := ih
 refine ?_
 intro a0 a1 r H
 rw [mZ] at H
 refine bK Tryz.func118 rfl Tryz.ntmps118 rfl (fun β => ?_)
 refine Z1 ?_
 refine aR trivial rfl rfl (cF rfl (has rfl) bO) (fun b1 => ?_)
 refine Z5 ?_
 revert H; refine bs fun o1 H Hr1 => ?_
 refine aT (ι := Int) (fun i => o1 = i) (fun i => [(5, aA .i64 i)]) (fun i => [aC b1 56 [aA .i64 a0.Op, aA .i64 a0.N, gG a0.Kids]]) ?_ ?_
 refine Z4 ?_
 refine Tl (ι := Nat × Int × Int) (fun i => pM (mZ fuel) a0 a1 i.1 i.2.1 i.2.2 = _) (fun i => i.1) (fun i => [(1, aA .i64 a1), (2, fEq (.pointer (some ⟨b1, 0, none⟩))), (5, aA .i64 i.2.1), (6, aA .i64 i.2.2)]) (fun i => [aC b1 56 [aA .i64 a0.Op, aA .i64 a0.N, gG a0.Kids]]) (fuel, 1, 0) H ?_
 clear H; rintro ⟨k1, x4, x5⟩ H
 replace H : pM (mZ fuel) a0 a1 k1 x4 x5 = _ := H
 try dsimp only
 obtain _ | k1 := k1
 rw [pM] at H; cases H
 rw [pM] at H
 refine aI ?_
 refine Z3 ?_
 refine Yo 0 rfl (bM rfl hh (sc rfl) rfl (jB iG)) ?_
 refine Z3 ?_
 revert H; refine is (fun c1 H => ?_) fun c1 H => ?_
 refine Z5 ?_
 revert H; refine is (fun c2 H => ?_) fun c2 H => ?_
 refine Z3 ?_
 refine aI ?_
 refine Z4 ?_
 refine Yo 0 rfl (bM rfl hh (sc rfl) rfl (jB iG)) ?_
 refine Z1 ?_
 revert H; refine bs fun y1 h1 H => ?_
 refine Z4 ?_
 revert H; refine bs fun z1 h2 H => ?_
 refine Z1 ?_
 revert H; refine bs fun y2 h3 H => ?_
 refine Tc (ih_r03_expNodes _ _ _ h3) ?_
 revert H; refine bs fun z2 h4 H => ?_
 refine Z7 ?_
 revert H; refine bs fun z3 h5 H => ?_
 refine Z3 ?_
 exact Tm ((k1, z2, z3)) ⟨H, ls⟩
 refine Z6 ?_
 exact Tm (x4) (ij H)
 refine Z11 ?_
 exact Tm (x4) (ij H)
 clear H; intro x1 hi; subst o1; have H := Hr1; clear Hr1; try dsimp only at H
 try dsimp only
 refine Z5 ?_
 cases H
 refine aH [] (by decide) ?_
 exact To
def pV (rec_r03_expDepth : ScopeExp → Option (Int)) (a0 : ScopeExp) : Nat → Int → Int → Option (Int)
| 0, _, _ => none
| k + 1, x4, x5 =>
 if x5 < (a0.Kids.length : Int) then
  (idx a0.Kids x5).bind fun y1 =>
  (rec_r03_expDepth y1).bind fun y2 =>
  (chk (x5 + 1)).bind fun z1 =>
  pV rec_r03_expDepth a0 k (max x4 y2) z1
 else
  some x4
def nI : Nat → ScopeExp → Option (Int)
| 0, _ => none
| fuel + 1, a0 =>
 (pV (nI fuel) a0 fuel 0 0).bind fun x1 =>
 (chk (x1 + 1)).bind fun z2 =>
 some z2
theorem aHm : ∀ (fuel : Nat), (∀  (a0 : ScopeExp) (r : Int) (H : nI fuel a0 = some r), FnS Tryz.prog 119 [fSt aW a0] [] (aA .i64 r) (fun _ => [])) := by
 intro fuel
 induction fuel with
 | zero => exact fun a0 r H => (by rw [nI] at H; cases H)
 | succ fuel ih =>
 have ih_r03_expDepth := ih
 refine ?_
 intro a0 r H
 rw [nI] at H
 refine bK Tryz.func119 rfl Tryz.ntmps119 rfl (fun β => ?_)
 refine Z1 ?_
 refine aR trivial rfl rfl (cF rfl (has rfl) bO) (fun b1 => ?_)
 refine Z5 ?_
 revert H; refine bs fun o1 H Hr1 => ?_
 refine aT (ι := Int) (fun i => o1 = i) (fun i => [(3, aA .i64 i)]) (fun i => [aC b1 56 [aA .i64 a0.Op, aA .i64 a0.N, gG a0.Kids]]) ?_ ?_
 refine Z4 ?_
 refine Tl (ι := Nat × Int × Int) (fun i => pV (nI fuel) a0 i.1 i.2.1 i.2.2 = _) (fun i => i.1) (fun i => [(1, fEq (.pointer (some ⟨b1, 0, none⟩))), (3, aA .i64 i.2.1), (4, aA .i64 i.2.2)]) (fun i => [aC b1 56 [aA .i64 a0.Op, aA .i64 a0.N, gG a0.Kids]]) (fuel, 0, 0) H ?_
 clear H; rintro ⟨k1, x4, x5⟩ H
 replace H : pV (nI fuel) a0 k1 x4 x5 = _ := H
 try dsimp only
 obtain _ | k1 := k1
 rw [pV] at H; cases H
 rw [pV] at H
 refine aI ?_
 refine Z3 ?_
 refine Yo 0 rfl (bM rfl hh (sc rfl) rfl (jB iG)) ?_
 refine Z3 ?_
 revert H; refine is (fun c1 H => ?_) fun c1 H => ?_
 refine Z3 ?_
 refine aI ?_
 refine Z4 ?_
 refine Yo 0 rfl (bM rfl hh (sc rfl) rfl (jB iG)) ?_
 refine Z1 ?_
 revert H; refine bs fun y1 h1 H => ?_
 refine Z2 ?_
 revert H; refine bs fun y2 h2 H => ?_
 refine Tc (ih_r03_expDepth _ _ h2) ?_
 refine Yy (o_max rfl hh hh) ?_
 refine Z6 ?_
 revert H; refine bs fun z1 h3 H => ?_
 refine Z3 ?_
 exact Tm ((k1, max x4 y2, z1)) ⟨H, ls⟩
 refine Z6 ?_
 exact Tm (x4) (ij H)
 clear H; intro x1 hi; subst o1; have H := Hr1; clear Hr1; try dsimp only at H
 try dsimp only
 refine Z2 ?_
 revert H; refine bs fun z2 h4 H => ?_
 refine Z4 ?_
 cases H
 refine aH [] (by decide) ?_
 exact To
def rG : Nat → ScopeExp → Int → Option (Bool)
| 0, _, _ => none
| fuel + 1, a0, a1 =>
 if a0.Op = 1 then
  (if (a0.Kids.length : Int) = 0 then
   if (-1000000000) ≤ a0.N then
    some (decide (a0.N ≤ 1000000000))
   else
    some false
  else
   some false).bind fun x1 =>
  some x1
 else
  if a0.Op = 2 then
   (if (a0.Kids.length : Int) = 0 then
    if 0 ≤ a0.N then
     some (decide (a0.N < a1))
    else
     some false
   else
    some false).bind fun x2 =>
   some x2
  else
   if a0.Op < 3 then
    some false
   else
    if 7 < a0.Op then
     some false
    else
     if (a0.Kids.length : Int) ≠ 2 then
      some false
     else
      if a0.N ≠ 0 then
       some false
      else
       ((idx a0.Kids 0).bind fun y1 =>
       ((rG fuel) y1 a1).bind fun y2 =>
       bif y2 then
        (idx a0.Kids 1).bind fun y3 =>
        ((rG fuel) y3 a1).bind fun y4 =>
        some y4
       else
        some false).bind fun x3 =>
       some x3
theorem aF8 : ∀ (fuel : Nat), (∀  (a0 : ScopeExp) (a1 : Int) (r : Bool) (H : rG fuel a0 a1 = some r), FnS Tryz.prog 120 [fSt aW a0, aA .i64 a1] [] (aK r) (fun _ => [])) := by
 intro fuel
 induction fuel with
 | zero => exact fun a0 a1 r H => (by rw [rG] at H; cases H)
 | succ fuel ih =>
 have ih_r03_expFormed := ih
 refine ?_
 intro a0 a1 r H
 rw [rG] at H
 refine bK Tryz.func120 rfl Tryz.ntmps120 rfl (fun β => ?_)
 refine Z1 ?_
 refine aR trivial rfl rfl (cF rfl (has rfl) bO) (fun b1 => ?_)
 refine Z2 ?_
 refine aI ?_
 refine Z7 ?_
 revert H; refine is (fun c1 H => ?_) fun c1 H => ?_
 refine Z1 ?_
 revert H; refine bs fun o1 H Hr1 => ?_
 refine aT (ι := Bool) (fun i => o1 = i) (fun i => [(4, aK i)]) (fun i => [aC b1 56 [aA .i64 a0.Op, aA .i64 a0.N, gG a0.Kids]]) ?_ ?_
 refine Z2 ?_
 refine Yo 0 rfl (bM rfl hh (sc rfl) rfl (jB iG)) ?_
 refine Z3 ?_
 revert H; refine is (fun c2 H => ?_) fun c2 H => ?_
 refine Z5 ?_
 revert H; refine is (fun c3 H => ?_) fun c3 H => ?_
 refine Z6 ?_
 exact Tm (decide (a0.N ≤ 1000000000)) (ij H)
 refine Z6 ?_
 exact Tm (false) (ij H)
 refine Z11 ?_
 exact Tm (false) (ij H)
 clear H; intro x1 hi; subst o1; have H := Hr1; clear Hr1; try dsimp only at H
 try dsimp only
 refine Z3 ?_
 cases H
 refine aH [] (by decide) ?_
 exact To
 refine Z7 ?_
 revert H; refine is (fun c4 H => ?_) fun c4 H => ?_
 refine Z1 ?_
 revert H; refine bs fun o2 H Hr2 => ?_
 refine aT (ι := Bool) (fun i => o2 = i) (fun i => [(4, aK i)]) (fun i => [aC b1 56 [aA .i64 a0.Op, aA .i64 a0.N, gG a0.Kids]]) ?_ ?_
 refine Z2 ?_
 refine Yo 0 rfl (bM rfl hh (sc rfl) rfl (jB iG)) ?_
 refine Z3 ?_
 revert H; refine is (fun c5 H => ?_) fun c5 H => ?_
 refine Z5 ?_
 revert H; refine is (fun c6 H => ?_) fun c6 H => ?_
 refine Z7 ?_
 exact Tm (decide (a0.N < a1)) (ij H)
 refine Z7 ?_
 exact Tm (false) (ij H)
 refine Z12 ?_
 exact Tm (false) (ij H)
 clear H; intro x2 hi; subst o2; have H := Hr2; clear Hr2; try dsimp only at H
 try dsimp only
 refine Z3 ?_
 cases H
 refine aH [] (by decide) ?_
 exact To
 refine Z6 ?_
 revert H; refine is (fun c7 H => ?_) fun c7 H => ?_
 refine Z12 ?_
 refine Z12 ?_
 cases H
 refine aH [] (by decide) ?_
 exact To
 refine Z5 ?_
 revert H; refine is (fun c8 H => ?_) fun c8 H => ?_
 refine Z12 ?_
 refine Z7 ?_
 cases H
 refine aH [] (by decide) ?_
 exact To
 refine Z1 ?_
 refine Yh 0 rfl c8 (bM rfl hh (sc rfl) rfl (jB iG)) ?_
 refine Z4 ?_
 revert H; refine is (fun c9 H => ?_) fun c9 H => ?_
 refine Z12 ?_
 refine Z1 ?_
 cases H
 refine aH [] (by decide) ?_
 exact To
 refine Z6 ?_
 revert H; refine is (fun c10 H => ?_) fun c10 H => ?_
 refine Z7 ?_
 cases H
 refine aH [] (by decide) ?_
 exact To
 refine Z4 ?_
 revert H; refine bs fun o3 H Hr3 => ?_
 refine aT (ι := Bool) (fun i => o3 = i) (fun i => [(4, aK i)]) (fun i => [aC b1 56 [aA .i64 a0.Op, aA .i64 a0.N, gG a0.Kids]]) ?_ ?_
 refine Z2 ?_
 refine Yo 0 rfl (bM rfl hh (sc rfl) rfl (jB iG)) ?_
 revert H; refine bs fun y1 h1 H => ?_
 refine Z3 ?_
 revert H; refine bs fun y2 h2 H => ?_
 refine Tc (ih_r03_expFormed _ _ _ h2) ?_
 refine Z1 ?_
 revert H; refine cs (fun c11 H => ?_) fun c11 H => ?_
 refine Z1 ?_
 refine Yh 0 rfl c11 (bM rfl hh (sc rfl) rfl (jB iG)) ?_
 revert H; refine bs fun y3 h3 H => ?_
 refine Z3 ?_
 revert H; refine bs fun y4 h4 H => ?_
 refine Tc (ih_r03_expFormed _ _ _ h4) ?_
 refine Z3 ?_
 exact Tm (y4) (ij H)
 refine Z9 ?_
 exact Tm (false) (ij H)
 clear H; intro x3 hi; subst o3; have H := Hr3; clear Hr3; try dsimp only at H
 try dsimp only
 refine Z1 ?_
 cases H
 refine aH [] (by decide) ?_
 exact To
def xD (fuel : Nat) (a0 : ScopeExp) (a1 : Int) : Option (Bool) :=
 ((mZ fuel (⟨a0.Op, a0.N, a0.Kids⟩ : ScopeExp) 60).bind fun y1 =>
 if y1 ≤ 60 then
  (nI fuel (⟨a0.Op, a0.N, a0.Kids⟩ : ScopeExp)).bind fun y2 =>
  if y2 ≤ 12 then
   (rG fuel (⟨a0.Op, a0.N, a0.Kids⟩ : ScopeExp) a1).bind fun y3 =>
   some y3
  else
   some false
 else
  some false).bind fun x1 =>
 some x1
theorem aF7 (fuel : Nat)  (a0 : ScopeExp) (a1 : Int) (r : Bool) (H : xD fuel a0 a1 = some r) : FnS Tryz.prog 105 [fSt aW a0, aA .i64 a1] [] (aK r) (fun _ => []) := by
 unfold xD at H
 refine bK Tryz.func105 rfl Tryz.ntmps105 rfl (fun β => ?_)
 refine Z1 ?_
 refine aR trivial rfl rfl (cF rfl (has rfl) bO) (fun b1 => ?_)
 refine Z2 ?_
 revert H; refine bs fun o1 H Hr1 => ?_
 refine aT (ι := Bool) (fun i => o1 = i) (fun i => [(4, aK i)]) (fun i => [aC b1 56 [aA .i64 a0.Op, aA .i64 a0.N, gG a0.Kids]]) ?_ ?_
 refine Z2 ?_
 revert H; refine bs fun y1 h1 H => ?_
 refine Tc (aG7 _ _ _ _ h1) ?_
 refine Z2 ?_
 revert H; refine is (fun c1 H => ?_) fun c1 H => ?_
 refine Z1 ?_
 revert H; refine bs fun y2 h2 H => ?_
 refine Tc (aHm _ _ _ h2) ?_
 refine Z3 ?_
 revert H; refine is (fun c2 H => ?_) fun c2 H => ?_
 refine Z2 ?_
 revert H; refine bs fun y3 h3 H => ?_
 refine Tc (aF8 _ _ _ _ h3) ?_
 refine Z3 ?_
 exact Tm (y3) (ij H)
 refine Z6 ?_
 exact Tm (false) (ij H)
 refine Z11 ?_
 exact Tm (false) (ij H)
 clear H; intro x1 hi; subst o1; have H := Hr1; clear Hr1; try dsimp only at H
 try dsimp only
 refine Z1 ?_
 cases H
 refine aH [] (by decide) ?_
 exact To
def tK (a0 : ScopeDef) : Option (Int) :=
 (chk ((a0.Chans.length : Int) + (a0.Spots.length : Int))).bind fun z1 =>
 some z1
theorem aGk  (a0 : ScopeDef) (r : Int) (H : tK a0 = some r) : FnS Tryz.prog 106 [fSt aJ a0] [] (aA .i64 r) (fun _ => []) := by
 unfold tK at H
 refine bK Tryz.func106 rfl Tryz.ntmps106 rfl (fun β => ?_)
 refine Z1 ?_
 refine aR trivial rfl rfl (cF rfl (has rfl) bO) (fun b1 => ?_)
 refine Z9 ?_
 revert H; refine bs fun z1 h1 H => ?_
 refine Z4 ?_
 cases H
 refine aH [] (by decide) ?_
 exact To
def oQ (a0 : ScopeDef) (a1 : ScopeRule) : Nat → Int → Int → Option (Int)
| 0, _, _ => none
| k + 1, x4, x5 =>
 if x5 < (a1.Joins.length : Int) then
  (idx a1.Joins x5).bind fun y1 =>
  (idx a0.Chans y1).bind fun y2 =>
  (chk (x4 + y2.Many)).bind fun z1 =>
  (chk (x5 + 1)).bind fun z2 =>
  oQ a0 a1 k z1 z2
 else
  some x4
def xJ (fuel : Nat) (a0 : ScopeDef) (a1 : ScopeRule) : Option (Int) :=
 (oQ a0 a1 fuel 0 0).bind fun x1 =>
 some x1
theorem aGK (fuel : Nat)  (a0 : ScopeDef) (a1 : ScopeRule) (r : Int) (H : xJ fuel a0 a1 = some r) : FnS Tryz.prog 121 [fSt aJ a0, fSt bC a1] [] (aA .i64 r) (fun _ => []) := by
 unfold xJ at H
 refine bK Tryz.func121 rfl Tryz.ntmps121 rfl (fun β => ?_)
 refine Z1 ?_
 refine aR trivial rfl rfl (cF rfl (has rfl) bO) (fun b1 => ?_)
 refine aR trivial rfl rfl (cF rfl (has rfl) bO) (fun b2 => ?_)
 refine Z5 ?_
 revert H; refine bs fun o1 H Hr1 => ?_
 refine aT (ι := Int) (fun i => o1 = i) (fun i => [(5, aA .i64 i)]) (fun i => [aC b2 105 [aA .i64 a1.At, fSl (aB .i64) a1.Joins, aA .i64 a1.Node], aC b1 99 [fSl aY a0.Chans, fSl bI a0.Spots, fSl bC a0.Rules]]) ?_ ?_
 refine Z4 ?_
 refine Tl (ι := Nat × Int × Int) (fun i => oQ a0 a1 i.1 i.2.1 i.2.2 = _) (fun i => i.1) (fun i => [(2, fEq (.pointer (some ⟨b1, 0, none⟩))), (3, fEq (.pointer (some ⟨b2, 0, none⟩))), (5, aA .i64 i.2.1), (6, aA .i64 i.2.2)]) (fun i => [aC b2 105 [aA .i64 a1.At, fSl (aB .i64) a1.Joins, aA .i64 a1.Node], aC b1 99 [fSl aY a0.Chans, fSl bI a0.Spots, fSl bC a0.Rules]]) (fuel, 0, 0) H ?_
 clear H; rintro ⟨k1, x4, x5⟩ H
 replace H : oQ a0 a1 k1 x4 x5 = _ := H
 try dsimp only
 obtain _ | k1 := k1
 rw [oQ] at H; cases H
 rw [oQ] at H
 refine aI ?_
 refine Z7 ?_
 revert H; refine is (fun c1 H => ?_) fun c1 H => ?_
 refine Z3 ?_
 refine aI ?_
 refine Z1 ?_
 revert H; refine bs fun y1 h1 H => ?_
 revert H; refine bs fun y2 h2 H => ?_
 revert H; refine bs fun z1 h3 H => ?_
 apply bG (ods := [_, _, _, _, _, _, _, _, _, _, _, _, _]) 13 0 2 bF rfl rfl rfl
 dsimp only [bA, List.take, List.replicate, List.append, List.drop]
 refine M8 ?_
 intros
 refine M5 ?_
 intros
 refine Z6 ?_
 revert H; refine bs fun z2 h4 H => ?_
 refine Z3 ?_
 exact Tm ((k1, z1, z2)) ⟨H, ls⟩
 exact fk
 kernel_rfl
 refine Z6 ?_
 exact Tm (x4) (ij H)
 clear H; intro x1 hi; subst o1; have H := Hr1; clear Hr1; try dsimp only at H
 try dsimp only
 refine Z5 ?_
 cases H
 refine aH [] (by decide) ?_
 exact To
end Go.Proofs.YtmnbfgeljmhekaaGreat
set_option maxRecDepth 100000
set_option maxHeartbeats 2000000
namespace Go.Proofs.YtmnbfgeljmhekaaGreat
open Go.SX Go.SW Go.Dt
attribute [local irreducible] Code.wpIn wpListIn Exit.then Exit.inBlock
def jO (fuel : Nat) (a2 : Int) (y5 : ScopeNode) : Nat → Int → Bool → Option (Bool)
| 0, _, _ => none
| k + 1, x4, x5 =>
 if x4 < (y5.Args.length : Int) then
  (bif x5 then
   some true
  else
   (idx y5.Args x4).bind fun y7 =>
   (xD fuel y7 a2).bind fun y8 =>
   some (!y8)).bind fun x6 =>
  (chk (x4 + 1)).bind fun z2 =>
  jO fuel a2 y5 k z2 x6
 else
  some x5
def jG (rec_r03_look_node : Ref03_look → Int → Int → Option (Ref03_look)) (y5 : ScopeNode) (x7 : Int) : Nat → Int → (List ByteArray) → (List ScopeNode) → (List ScopeDef) → Int → (List Int) → (List Int) → (List Int) → Bool → Option (Ref03_look)
| 0, _, _, _, _, _, _, _, _, _ => none
| k + 1, x26, x27, x28, x29, x30, x31, x32, x33, x34 =>
 if x26 < (y5.Kids.length : Int) then
  bif x34 then
   some (⟨(⟨x27, x28, x29, x30⟩ : ScopeProg), x31, x32, x33, x34⟩ : Ref03_look)
  else
   (idx y5.Kids x26).bind fun y16 =>
   (rec_r03_look_node (⟨(⟨x27, x28, x29, x30⟩ : ScopeProg), x31, x32, x33, x34⟩ : Ref03_look) y16 x7).bind fun y17 =>
   (chk (x26 + 1)).bind fun z5 =>
   jG rec_r03_look_node y5 x7 k z5 y17.p.Free y17.p.Nodes y17.p.Defs y17.p.Main y17.sizes y17.owner y17.users y17.bad
 else
  some (⟨(⟨x27, x28, x29, x30⟩ : ScopeProg), x31, x32, x33, x34⟩ : Ref03_look)
def lB (fuel : Nat) (rec_r03_look_node : Ref03_look → Int → Int → Option (Ref03_look)) (a1 : ScopeDef) (a2 : Int) : Nat → Int → (List ByteArray) → (List ScopeNode) → (List ScopeDef) → Int → (List Int) → (List Int) → (List Int) → Bool → Option (List ByteArray × List ScopeNode × List ScopeDef × Int × List Int × List Int × List Int × Bool)
| 0, _, _, _, _, _, _, _, _, _ => none
| k + 1, x18, x19, x20, x21, x22, x23, x24, x25, x26 =>
 if x18 < (a1.Rules.length : Int) then
  bif x26 then
   some (x19, x20, x21, x22, x23, x24, x25, x26)
  else
   (idx a1.Rules x18).bind fun y1 =>
   (idx a1.Rules x18).bind fun y2 =>
   (xJ fuel (⟨a1.Chans, a1.Spots, a1.Rules⟩ : ScopeDef) y2).bind fun y3 =>
   (chk (a2 + y3)).bind fun z1 =>
   (rec_r03_look_node (⟨(⟨x19, x20, x21, x22⟩ : ScopeProg), x23, x24, x25, x26⟩ : Ref03_look) y1.Node z1).bind fun y4 =>
   (chk (x18 + 1)).bind fun z2 =>
   lB fuel rec_r03_look_node a1 a2 k z2 y4.p.Free y4.p.Nodes y4.p.Defs y4.p.Main y4.sizes y4.owner y4.users y4.bad
 else
  some (x19, x20, x21, x22, x23, x24, x25, x26)
def lK (rec_r03_look_node : Ref03_look → Int → Int → Option (Ref03_look)) (a1 : ScopeDef) (a2 : Int) : Nat → Int → (List ByteArray) → (List ScopeNode) → (List ScopeDef) → Int → (List Int) → (List Int) → (List Int) → Bool → Option (Ref03_look)
| 0, _, _, _, _, _, _, _, _, _ => none
| k + 1, x36, x37, x38, x39, x40, x41, x42, x43, x44 =>
 if x36 < (a1.Spots.length : Int) then
  bif x44 then
   some (⟨(⟨x37, x38, x39, x40⟩ : ScopeProg), x41, x42, x43, x44⟩ : Ref03_look)
  else
   (idx a1.Spots x36).bind fun y5 =>
   (rec_r03_look_node (⟨(⟨x37, x38, x39, x40⟩ : ScopeProg), x41, x42, x43, x44⟩ : Ref03_look) y5.Node a2).bind fun y6 =>
   (chk (x36 + 1)).bind fun z3 =>
   lK rec_r03_look_node a1 a2 k z3 y6.p.Free y6.p.Nodes y6.p.Defs y6.p.Main y6.sizes y6.owner y6.users y6.bad
 else
  some (⟨(⟨x37, x38, x39, x40⟩ : ScopeProg), x41, x42, x43, x44⟩ : Ref03_look)
mutual
def eS : Nat → Ref03_look → Int → Int → Option (Ref03_look)
| 0, _, _, _ => none
| fuel + 1, a0, a1, a2 =>
 if a1 < 0 then
  some (⟨(⟨a0.p.Free, a0.p.Nodes, a0.p.Defs, a0.p.Main⟩ : ScopeProg), a0.sizes, a0.owner, a0.users, true⟩ : Ref03_look)
 else
  if (a0.p.Nodes.length : Int) ≤ a1 then
   some (⟨(⟨a0.p.Free, a0.p.Nodes, a0.p.Defs, a0.p.Main⟩ : ScopeProg), a0.sizes, a0.owner, a0.users, true⟩ : Ref03_look)
  else
   (idx a0.owner a1).bind fun y1 =>
   if 0 < y1 then
    some (⟨(⟨a0.p.Free, a0.p.Nodes, a0.p.Defs, a0.p.Main⟩ : ScopeProg), a0.sizes, a0.owner, a0.users, true⟩ : Ref03_look)
   else
    (idx a0.owner a1).bind fun y2 =>
    (chk (y2 + 1)).bind fun z1 =>
    (idx a0.owner a1).bind fun y3 =>
    (idx a0.sizes a1).bind fun y4 =>
    (idx a0.p.Nodes a1).bind fun y5 =>
    (vE y5.Op).bind fun y6 =>
    (bif !y6.2.2 then
     (some (⟨(⟨a0.p.Free, a0.p.Nodes, a0.p.Defs, a0.p.Main⟩ : ScopeProg), a0.sizes.set a1.toNat a2, a0.owner.set a1.toNat z1, a0.users, true⟩ : Ref03_look)).bind fun r => some (Sum.inr r)
    else
     if (y5.Kids.length : Int) ≠ y6.2.1 then
      (some (⟨(⟨a0.p.Free, a0.p.Nodes, a0.p.Defs, a0.p.Main⟩ : ScopeProg), a0.sizes.set a1.toNat a2, a0.owner.set a1.toNat z1, a0.users, true⟩ : Ref03_look)).bind fun r => some (Sum.inr r)
     else
      if y6.1 < 0 then
       if 3 < (y5.Args.length : Int) then
        (some (⟨(⟨a0.p.Free, a0.p.Nodes, a0.p.Defs, a0.p.Main⟩ : ScopeProg), a0.sizes.set a1.toNat a2, a0.owner.set a1.toNat z1, a0.users, true⟩ : Ref03_look)).bind fun r => some (Sum.inr r)
       else
        if 0 ≤ y6.1 then
         if (y5.Args.length : Int) ≠ y6.1 then
          (some (⟨(⟨a0.p.Free, a0.p.Nodes, a0.p.Defs, a0.p.Main⟩ : ScopeProg), a0.sizes.set a1.toNat a2, a0.owner.set a1.toNat z1, a0.users, true⟩ : Ref03_look)).bind fun r => some (Sum.inr r)
         else
          some (Sum.inl ())
        else
         some (Sum.inl ())
      else
       if 0 ≤ y6.1 then
        if (y5.Args.length : Int) ≠ y6.1 then
         (some (⟨(⟨a0.p.Free, a0.p.Nodes, a0.p.Defs, a0.p.Main⟩ : ScopeProg), a0.sizes.set a1.toNat a2, a0.owner.set a1.toNat z1, a0.users, true⟩ : Ref03_look)).bind fun r => some (Sum.inr r)
        else
         some (Sum.inl ())
       else
        some (Sum.inl ())).bind fun o => match o with
    | Sum.inr r => some r
    | Sum.inl _ =>
    (jO fuel a2 y5 fuel 0 a0.bad).bind fun x1 =>
    ((if y5.Op = 2 then
     some (decide (y5.Op = 2))
    else
     if y5.Op = 6 then
      some (decide (y5.Op = 6))
     else
      some (decide (y5.Op = 8))).bind fun x16 =>
    bif x16 then
     bif x1 then
      some (Sum.inl (a2, a0.p.Free, a0.p.Nodes, a0.p.Defs, a0.p.Main, a0.sizes.set a1.toNat a2, a0.owner.set a1.toNat z1, a0.users, true))
     else
      if y5.N < 0 then
       some (Sum.inl (a2, a0.p.Free, a0.p.Nodes, a0.p.Defs, a0.p.Main, a0.sizes.set a1.toNat a2, a0.owner.set a1.toNat z1, a0.users, true))
      else
       some (Sum.inl (a2, a0.p.Free, a0.p.Nodes, a0.p.Defs, a0.p.Main, a0.sizes.set a1.toNat a2, a0.owner.set a1.toNat z1, a0.users, decide (a2 ≤ y5.N)))
    else
     if y5.Op = 4 then
      if y5.N < 0 then
       (some (⟨(⟨a0.p.Free, a0.p.Nodes, a0.p.Defs, a0.p.Main⟩ : ScopeProg), a0.sizes.set a1.toNat a2, a0.owner.set a1.toNat z1, a0.users, true⟩ : Ref03_look)).bind fun r => some (Sum.inr r)
      else
       if (a0.p.Defs.length : Int) ≤ y5.N then
        (some (⟨(⟨a0.p.Free, a0.p.Nodes, a0.p.Defs, a0.p.Main⟩ : ScopeProg), a0.sizes.set a1.toNat a2, a0.owner.set a1.toNat z1, a0.users, true⟩ : Ref03_look)).bind fun r => some (Sum.inr r)
       else
        (idx a0.users y5.N).bind fun y9 =>
        if 0 < y9 then
         (some (⟨(⟨a0.p.Free, a0.p.Nodes, a0.p.Defs, a0.p.Main⟩ : ScopeProg), a0.sizes.set a1.toNat a2, a0.owner.set a1.toNat z1, a0.users, true⟩ : Ref03_look)).bind fun r => some (Sum.inr r)
        else
         (idx a0.users y5.N).bind fun y10 =>
         (chk (y10 + 1)).bind fun z3 =>
         (idx a0.users y5.N).bind fun y11 =>
         (idx a0.p.Defs y5.N).bind fun y12 =>
         (tK y12).bind fun y13 =>
         (chk (a2 + y13)).bind fun z4 =>
         (idx a0.p.Defs y5.N).bind fun y14 =>
         ((pX fuel) (⟨(⟨a0.p.Free, a0.p.Nodes, a0.p.Defs, a0.p.Main⟩ : ScopeProg), a0.sizes.set a1.toNat a2, a0.owner.set a1.toNat z1, a0.users.set y5.N.toNat z3, x1⟩ : Ref03_look) y14 z4).bind fun y15 =>
         some (Sum.inl (z4, y15.p.Free, y15.p.Nodes, y15.p.Defs, y15.p.Main, y15.sizes, y15.owner, y15.users, y15.bad))
     else
      bif x1 then
       some (Sum.inl (a2, a0.p.Free, a0.p.Nodes, a0.p.Defs, a0.p.Main, a0.sizes.set a1.toNat a2, a0.owner.set a1.toNat z1, a0.users, true))
      else
       some (Sum.inl (a2, a0.p.Free, a0.p.Nodes, a0.p.Defs, a0.p.Main, a0.sizes.set a1.toNat a2, a0.owner.set a1.toNat z1, a0.users, decide (y5.N ≠ 0)))).bind fun o => match o with
    | Sum.inr r => some r
    | Sum.inl (x7, x8, x9, x10, x11, x12, x13, x14, x15) =>
    jG (eS fuel) y5 x7 fuel 0 x8 x9 x10 x11 x12 x13 x14 x15
def pX : Nat → Ref03_look → ScopeDef → Int → Option (Ref03_look)
| 0, _, _, _ => none
| fuel + 1, a0, a1, a2 =>
 (lB fuel (eS fuel) a1 a2 fuel 0 a0.p.Free a0.p.Nodes a0.p.Defs a0.p.Main a0.sizes a0.owner a0.users a0.bad).bind fun (x1, x2, x3, x4, x5, x6, x7, x8) =>
 lK (eS fuel) a1 a2 fuel 0 x1 x2 x3 x4 x5 x6 x7 x8
end
theorem aHA : ∀ (fuel : Nat), (∀ (p0 : Nat) (a0 : Ref03_look) (a1 : Int) (a2 : Int) (r : Ref03_look) (H : eS fuel a0 a1 a2 = some r), FnS Tryz.prog 89 [fEq (.pointer (some ⟨p0, 0, none⟩)), aA .i64 a1, aA .i64 a2] [qP p0 a0] (dC []) (fun _ => [qP p0 r])) ∧ (∀ (p0 : Nat) (a0 : Ref03_look) (a1 : ScopeDef) (a2 : Int) (r : Ref03_look) (H : pX fuel a0 a1 a2 = some r), FnS Tryz.prog 107 [fEq (.pointer (some ⟨p0, 0, none⟩)), fSt aJ a1, aA .i64 a2] [qP p0 a0] (dC []) (fun _ => [qP p0 r])) := by
 intro fuel
 induction fuel with
 | zero => exact ⟨fun p0 a0 a1 a2 r H => (by rw [eS] at H; cases H), fun p0 a0 a1 a2 r H => (by rw [pX] at H; cases H)⟩
 | succ fuel ih =>
 obtain ⟨ih_r03_look_node, ih_r03_look_def⟩ := ih
 refine ⟨?_, ?_⟩
 intro p0 a0 a1 a2 r H
 rw [eS] at H
 refine bK Tryz.func89 rfl Tryz.ntmps89 rfl (fun β => ?_)
 refine sQ (fun v1 v2 v3 => ?_)
 refine aO 1 rfl (fun hc_v1 => ?_)
 refine aO 2 rfl (fun hc_v2 => ?_)
 refine aO 3 rfl (fun hc_v3 => ?_)
 refine aI ?_
 refine Z4 ?_
 revert H; refine is (fun c1 H => ?_) fun c1 H => ?_
 refine Yt c1 ?_
 refine Yt c1 ?_
 refine Yt c1 ?_
 refine Yt c1 ?_
 refine Yt c1 ?_
 refine Yt c1 ?_
 refine Yt c1 ?_
 refine Yt c1 ?_
 refine Yy (dQ rfl hh c1 hh) ?_
 refine Z12 ?_
 refine Z4 ?_
 refine cY (φs' := [fSl aN a0.p.Free, fSl aL a0.p.Nodes, fSl aJ a0.p.Defs, aA .i64 a0.p.Main, fEq v1, fEq v2, fEq v3, aK true]) trivial rfl rfl (has rfl) (has rfl) (aF trivial) (sz rfl) rfl rfl ?_
 refine Z2 ?_
 refine gD (x := (⟨(⟨a0.p.Free, a0.p.Nodes, a0.p.Defs, a0.p.Main⟩ : ScopeProg), a0.sizes, a0.owner, a0.users, true⟩ : Ref03_look)) ?_
 cases H
 exact eX (.inl rfl) rfl rfl
 refine Yg c1 (bY rfl hh) ?_
 refine Yg c1 (bY rfl hh) ?_
 refine Yg c1 (kE rfl (has rfl) (fun m v h => ⟨_, h⟩)) ?_
 refine Yg c1 (cO 0 rfl hh (fa rfl) rfl) ?_
 refine Yg c1 (cO 1 rfl hh (fa rfl) rfl) ?_
 refine Yh 0 rfl c1 (bM rfl hh (sc rfl) rfl Ent.rfl) ?_
 refine Yg c1 (fT rfl hh (us rfl)) ?_
 refine Yg c1 (qU rfl hh hh) ?_
 refine Yy (cQ rfl hh c1 hh) ?_
 refine Z1 ?_
 revert H; refine is (fun c2 H => ?_) fun c2 H => ?_
 refine Yt c2 ?_
 refine Yt c2 ?_
 refine Yt c2 ?_
 refine Yt c2 ?_
 refine Yt c2 ?_
 refine Yt c2 ?_
 refine Yt c2 ?_
 refine Yt c2 ?_
 refine Yy (dQ rfl hh c2 hh) ?_
 refine Z6 ?_
 refine cY (φs' := [fSl aN a0.p.Free, fSl aL a0.p.Nodes, fSl aJ a0.p.Defs, aA .i64 a0.p.Main, fEq v1, fEq v2, fEq v3, aK true]) trivial rfl rfl (has rfl) (has rfl) (aF trivial) (sz rfl) rfl rfl ?_
 refine Z2 ?_
 refine gD (x := (⟨(⟨a0.p.Free, a0.p.Nodes, a0.p.Defs, a0.p.Main⟩ : ScopeProg), a0.sizes, a0.owner, a0.users, true⟩ : Ref03_look)) ?_
 cases H
 exact eX (.inl rfl) rfl rfl
 refine Yg c2 (bY rfl hh) ?_
 refine Yg c2 (kE rfl (has rfl) (fun m v h => ⟨_, h⟩)) ?_
 refine Yg c2 (cO 5 rfl hh (fa rfl) rfl) ?_
 refine Yh 0 rfl c2 (bM rfl hh (sc rfl) rfl Ent.rfl) ?_
 refine Yg c2 (bY rfl hh) ?_
 revert H; refine bs fun y1 h1 H => ?_
 refine Yh 2 rfl c2 (jJ rfl hh hh (el rfl) h1) ?_
 refine Yh 2 rfl c2 (iN rfl rfl hh (sc rfl) (bW h1) rfl) ?_
 refine Yg c2 (gY rfl hh hh) ?_
 refine Yy (cQ rfl hh c2 hh) ?_
 refine Z1 ?_
 revert H; refine is (fun c3 H => ?_) fun c3 H => ?_
 refine dP (has rfl) c3 ?_
 refine Z4 ?_
 refine cY (φs' := [fSl aN a0.p.Free, fSl aL a0.p.Nodes, fSl aJ a0.p.Defs, aA .i64 a0.p.Main, fEq v1, fEq v2, fEq v3, aK true]) trivial rfl rfl (has rfl) (has rfl) (aF trivial) (sz rfl) rfl rfl ?_
 refine Z2 ?_
 refine gD (x := (⟨(⟨a0.p.Free, a0.p.Nodes, a0.p.Defs, a0.p.Main⟩ : ScopeProg), a0.sizes, a0.owner, a0.users, true⟩ : Ref03_look)) ?_
 cases H
 exact eX (.inl rfl) rfl rfl
 refine dN (has rfl) c3 ?_
 refine Z8 ?_
 revert H; refine bs fun y2 h2 H => ?_
 refine Yo 2 rfl (jJ rfl hh hh (el rfl) h2) ?_
 refine Yo 2 rfl (iN rfl rfl hh (sc rfl) (bW h2) rfl) ?_
 revert H; refine bs fun z1 h3 H => ?_
 refine Yy (fO rfl hh hh h3) ?_
 revert H; refine bs fun y3 h4 H => ?_
 refine Yo 2 rfl (jJ rfl hh hh (el rfl) h4) ?_
 refine eB ?_
 refine rJ (z' := z1) trivial rfl rfl rfl (has rfl) (has rfl) (aF trivial) (sz rfl) (bW h4) rfl rfl ?_
 refine Z8 ?_
 revert H; refine bs fun y4 h5 H => ?_
 refine Yo 2 rfl (jJ rfl hh hh (el rfl) h5) ?_
 refine eB ?_
 refine rJ (z' := a2) trivial rfl rfl rfl (has rfl) (has rfl) (aF trivial) (sz rfl) (bW h5) rfl rfl ?_
 refine Z8 ?_
 revert H; refine bs fun y5 h6 H => ?_
 refine Yy (cG rfl hh hh (el rfl) h6) ?_
 refine Z1 ?_
 refine aR trivial rfl rfl (cB rfl iS rfl) (fun b1 => ?_)
 refine dB (φs' := [aA .i64 y5.Op, aA .i64 y5.N, fSl aW y5.Args, fSl (aB .i64) y5.Kids]) trivial rfl rfl (has rfl) (has rfl) (aM (aF trivial) (aM (aF trivial) (aM (bB) (aM (bB) bR)))) (sz rfl) rfl rfl rfl ?_
 refine Z4 ?_
 revert H; refine bs fun y6 h7 H => ?_
 refine Tc (aFM _ _ h7) ?_
 refine Z8 ?_
 revert H; refine bs fun o1 H Hr1 => ?_
 refine aT (ι := Unit) (fun i => o1 = Sum.inl ()) (fun i => [(0, fEq (.pointer (some ⟨p0, 0, none⟩))), (2, aA .i64 a2), (6, fEq (.pointer (some ⟨b1, 0, none⟩)))]) (fun i => [aC b1 51 [aA .i64 y5.Op, aA .i64 y5.N, fSl aW y5.Args, fSl (aB .i64) y5.Kids], aC p0 89 [fSl aN a0.p.Free, fSl aL a0.p.Nodes, fSl aJ a0.p.Defs, aA .i64 a0.p.Main, fEq v1, fEq v2, fEq v3, aK a0.bad], aE v1 3 (aB .i64) (a0.sizes.set a1.toNat a2), aE v2 3 (aB .i64) (a0.owner.set a1.toNat z1), aE v3 3 (aB .i64) a0.users]) ?_ ?_
 refine Z4 ?_
 revert H; refine cs (fun c4 H => ?_) fun c4 H => ?_
 refine Yt c4 ?_
 refine Yt c4 ?_
 refine Yt c4 ?_
 refine Yt c4 ?_
 refine Yt c4 ?_
 refine Yy (dQ rfl hh c4 hh) ?_
 refine Z4 ?_
 refine dU (⟨_, _, _, _, rfl, rfl, rfl, nu⟩) rfl rfl ?_
 refine dU (⟨_, _, _, _, rfl, rfl, rfl, nu⟩) rfl rfl ?_
 refine dU (⟨_, _, _, _, rfl, rfl, rfl, nu⟩) rfl rfl ?_
 refine dU (⟨_, _, _, _, rfl, rfl, rfl, nu⟩) rfl rfl ?_
 refine Z6 ?_
 refine dU (⟨_, _, _, _, rfl, rfl, rfl, nu⟩) rfl rfl ?_
 refine dU (⟨_, _, _, _, rfl, rfl, rfl, nu⟩) rfl rfl ?_
 refine dU (⟨_, _, _, _, rfl, rfl, rfl, nu⟩) rfl rfl ?_
 refine dU (⟨_, _, _, _, rfl, rfl, rfl, nu⟩) rfl rfl ?_
 refine dU (⟨_, _, _, _, rfl, rfl, rfl, nu⟩) rfl rfl ?_
 refine Z8 ?_
 refine dD ?_
 refine cY (φs' := [fSl aN a0.p.Free, fSl aL a0.p.Nodes, fSl aJ a0.p.Defs, aA .i64 a0.p.Main, fEq v1, fEq v2, fEq v3, aK true]) trivial rfl rfl (has rfl) (has rfl) (aF trivial) (sz rfl) rfl rfl ?_
 refine Z2 ?_
 revert H; refine bs fun r1 H e1 => ?_
 cases e1; cases Hr1
 refine bL ?_
 refine bL ?_
 refine bL ?_
 refine dD ?_
 refine gD (x := (⟨(⟨a0.p.Free, a0.p.Nodes, a0.p.Defs, a0.p.Main⟩ : ScopeProg), a0.sizes.set a1.toNat a2, a0.owner.set a1.toNat z1, a0.users, true⟩ : Ref03_look)) ?_
 cases H
 refine aH [0] (by decide) ?_
 exact eX (.inl rfl) rfl rfl
 refine Yg c4 (cO 3 rfl hh (fa rfl) rfl) ?_
 refine Yh 0 rfl c4 (bM rfl hh (sc rfl) rfl Ent.rfl) ?_
 refine Yg c4 (fT rfl hh (us rfl)) ?_
 refine Yg c4 (bY rfl hh) ?_
 refine Yg c4 (tA rfl hh hh) ?_
 refine Yy (cQ rfl hh c4 hh) ?_
 refine Z1 ?_
 revert H; refine is (fun c5 H => ?_) fun c5 H => ?_
 refine Yt c5 ?_
 refine Yt c5 ?_
 refine Yt c5 ?_
 refine dU (⟨_, _, _, _, rfl, rfl, rfl, nu⟩) rfl rfl ?_
 refine dU (⟨_, _, _, _, rfl, rfl, rfl, nu⟩) rfl rfl ?_
 refine dU (⟨_, _, _, _, rfl, rfl, rfl, nu⟩) rfl rfl ?_
 refine dU (⟨_, _, _, _, rfl, rfl, rfl, nu⟩) rfl rfl ?_
 refine Yt c5 ?_
 refine Yy (dQ rfl hh c5 hh) ?_
 refine Z4 ?_
 refine dU (⟨_, _, _, _, rfl, rfl, rfl, nu⟩) rfl rfl ?_
 refine dU (⟨_, _, _, _, rfl, rfl, rfl, nu⟩) rfl rfl ?_
 refine dU (⟨_, _, _, _, rfl, rfl, rfl, nu⟩) rfl rfl ?_
 refine dU (⟨_, _, _, _, rfl, rfl, rfl, nu⟩) rfl rfl ?_
 refine dU (⟨_, _, _, _, rfl, rfl, rfl, nu⟩) rfl rfl ?_
 refine Z8 ?_
 refine dD ?_
 refine cY (φs' := [fSl aN a0.p.Free, fSl aL a0.p.Nodes, fSl aJ a0.p.Defs, aA .i64 a0.p.Main, fEq v1, fEq v2, fEq v3, aK true]) trivial rfl rfl (has rfl) (has rfl) (aF trivial) (sz rfl) rfl rfl ?_
 refine Z2 ?_
 revert H; refine bs fun r2 H e2 => ?_
 cases e2; cases Hr1
 refine bL ?_
 refine bL ?_
 refine bL ?_
 refine dD ?_
 refine gD (x := (⟨(⟨a0.p.Free, a0.p.Nodes, a0.p.Defs, a0.p.Main⟩ : ScopeProg), a0.sizes.set a1.toNat a2, a0.owner.set a1.toNat z1, a0.users, true⟩ : Ref03_look)) ?_
 cases H
 refine aH [0] (by decide) ?_
 exact eX (.inl rfl) rfl rfl
 refine Yg c5 (bY rfl hh) ?_
 refine Yg c5 (tQ rfl hh hh) ?_
 refine Yg c5 (bY rfl hh) ?_
 revert H; refine is (fun c6 H => ?_) fun c6 H => ?_
 refine Yg c6 (cO 2 rfl hh (fa rfl) rfl) ?_
 refine Yh 0 rfl c6 (bM rfl hh (sc rfl) rfl Ent.rfl) ?_
 refine Yg c6 (fT rfl hh (us rfl)) ?_
 refine Yg c6 (gY rfl hh hh) ?_
 refine Yg c5 (dQ rfl hh c6 hh) ?_
 refine Yy (cQ rfl hh c5 hh) ?_
 refine Z1 ?_
 revert H; refine is (fun c7 H => ?_) fun c7 H => ?_
 refine Yt c7 ?_
 refine Yt c7 ?_
 refine Yt c7 ?_
 refine dU (⟨_, _, _, _, rfl, rfl, rfl, nu⟩) rfl rfl ?_
 refine dU (⟨_, _, _, _, rfl, rfl, rfl, nu⟩) rfl rfl ?_
 refine dU (⟨_, _, _, _, rfl, rfl, rfl, nu⟩) rfl rfl ?_
 refine dU (⟨_, _, _, _, rfl, rfl, rfl, nu⟩) rfl rfl ?_
 refine dU (⟨_, _, _, _, rfl, rfl, rfl, nu⟩) rfl rfl ?_
 refine Yt c7 ?_
 refine Yy (dQ rfl hh c7 hh) ?_
 refine Z6 ?_
 refine dD ?_
 refine cY (φs' := [fSl aN a0.p.Free, fSl aL a0.p.Nodes, fSl aJ a0.p.Defs, aA .i64 a0.p.Main, fEq v1, fEq v2, fEq v3, aK true]) trivial rfl rfl (has rfl) (has rfl) (aF trivial) (sz rfl) rfl rfl ?_
 refine Z2 ?_
 revert H; refine bs fun r3 H e3 => ?_
 cases e3; cases Hr1
 refine bL ?_
 refine bL ?_
 refine bL ?_
 refine dD ?_
 refine gD (x := (⟨(⟨a0.p.Free, a0.p.Nodes, a0.p.Defs, a0.p.Main⟩ : ScopeProg), a0.sizes.set a1.toNat a2, a0.owner.set a1.toNat z1, a0.users, true⟩ : Ref03_look)) ?_
 cases H
 refine aH [0] (by decide) ?_
 exact eX (.inl rfl) rfl rfl
 refine Yg c7 (bY rfl hh) ?_
 refine Yg c7 (qU rfl hh hh) ?_
 refine Yg c7 (bY rfl hh) ?_
 revert H; refine is (fun c8 H => ?_) fun c8 H => ?_
 refine Yg c8 (cO 2 rfl hh (fa rfl) rfl) ?_
 refine Yh 0 rfl c8 (bM rfl hh (sc rfl) rfl Ent.rfl) ?_
 refine Yg c8 (fT rfl hh (us rfl)) ?_
 refine Yg c8 (bY rfl hh) ?_
 refine Yg c8 (tA rfl hh hh) ?_
 refine Yg c7 (dQ rfl hh c8 hh) ?_
 refine Yy (cQ rfl hh c7 hh) ?_
 refine Z1 ?_
 revert H; refine is (fun c9 H => ?_) fun c9 H => ?_
 refine dP (has rfl) c9 ?_
 refine Z4 ?_
 refine dD ?_
 refine cY (φs' := [fSl aN a0.p.Free, fSl aL a0.p.Nodes, fSl aJ a0.p.Defs, aA .i64 a0.p.Main, fEq v1, fEq v2, fEq v3, aK true]) trivial rfl rfl (has rfl) (has rfl) (aF trivial) (sz rfl) rfl rfl ?_
 refine Z2 ?_
 revert H; refine bs fun r4 H e4 => ?_
 cases e4; cases Hr1
 refine bL ?_
 refine bL ?_
 refine bL ?_
 refine dD ?_
 refine gD (x := (⟨(⟨a0.p.Free, a0.p.Nodes, a0.p.Defs, a0.p.Main⟩ : ScopeProg), a0.sizes.set a1.toNat a2, a0.owner.set a1.toNat z1, a0.users, true⟩ : Ref03_look)) ?_
 cases H
 refine aH [0] (by decide) ?_
 exact eX (.inl rfl) rfl rfl
 refine dN (has rfl) c9 ?_
 refine Z2 ?_
 refine aH [0, 3, 1, 2, 4] (by decide) ?_
 exact Tm (()) (ij H)
 refine Yf c8 ?_
 refine Yf c8 ?_
 refine Yf c8 ?_
 refine Yf c8 ?_
 refine Yf c8 ?_
 refine Yg c7 (cQ rfl hh c8 hh) ?_
 refine Yy (cQ rfl hh c7 hh) ?_
 refine Z4 ?_
 refine aH [0, 3, 1, 2, 4] (by decide) ?_
 exact Tm (()) (ij H)
 refine Yf c6 ?_
 refine Yf c6 ?_
 refine Yf c6 ?_
 refine Yf c6 ?_
 refine Yg c5 (cQ rfl hh c6 hh) ?_
 refine Yy (cQ rfl hh c5 hh) ?_
 refine Z4 ?_
 revert H; refine is (fun c10 H => ?_) fun c10 H => ?_
 refine Yg c10 (cO 2 rfl hh (fa rfl) rfl) ?_
 refine Yh 0 rfl c10 (bM rfl hh (sc rfl) rfl Ent.rfl) ?_
 refine Yg c10 (fT rfl hh (us rfl)) ?_
 refine Yg c10 (bY rfl hh) ?_
 refine Yg c10 (tA rfl hh hh) ?_
 refine Yg rfl (dQ rfl hh c10 hh) ?_
 refine Z2 ?_
 revert H; refine is (fun c11 H => ?_) fun c11 H => ?_
 refine dP (has rfl) c11 ?_
 refine Z4 ?_
 refine dD ?_
 refine cY (φs' := [fSl aN a0.p.Free, fSl aL a0.p.Nodes, fSl aJ a0.p.Defs, aA .i64 a0.p.Main, fEq v1, fEq v2, fEq v3, aK true]) trivial rfl rfl (has rfl) (has rfl) (aF trivial) (sz rfl) rfl rfl ?_
 refine Z2 ?_
 revert H; refine bs fun r5 H e5 => ?_
 cases e5; cases Hr1
 refine bL ?_
 refine bL ?_
 refine bL ?_
 refine dD ?_
 refine gD (x := (⟨(⟨a0.p.Free, a0.p.Nodes, a0.p.Defs, a0.p.Main⟩ : ScopeProg), a0.sizes.set a1.toNat a2, a0.owner.set a1.toNat z1, a0.users, true⟩ : Ref03_look)) ?_
 cases H
 refine aH [0] (by decide) ?_
 exact eX (.inl rfl) rfl rfl
 refine dN (has rfl) c11 ?_
 refine Z2 ?_
 refine aH [0, 3, 1, 2, 4] (by decide) ?_
 exact Tm (()) (ij H)
 refine Yf c10 ?_
 refine Yf c10 ?_
 refine Yf c10 ?_
 refine Yf c10 ?_
 refine Yf c10 ?_
 refine Yg rfl (cQ rfl hh c10 hh) ?_
 refine Z5 ?_
 refine aH [0, 3, 1, 2, 4] (by decide) ?_
 exact Tm (()) (ij H)
 clear H; intro i hi; subst o1; have H := Hr1; clear Hr1; try dsimp only at H
 try dsimp only
 revert H; refine bs fun o2 H Hr2 => ?_
 refine aT (ι := Bool) (fun i => o2 = i) (fun i => [(0, fEq (.pointer (some ⟨p0, 0, none⟩))), (2, aA .i64 a2), (6, fEq (.pointer (some ⟨b1, 0, none⟩)))]) (fun i => [aC b1 51 [aA .i64 y5.Op, aA .i64 y5.N, fSl aW y5.Args, fSl (aB .i64) y5.Kids], aC p0 89 [fSl aN a0.p.Free, fSl aL a0.p.Nodes, fSl aJ a0.p.Defs, aA .i64 a0.p.Main, fEq v1, fEq v2, fEq v3, aK i], aE v1 3 (aB .i64) (a0.sizes.set a1.toNat a2), aE v2 3 (aB .i64) (a0.owner.set a1.toNat z1), aE v3 3 (aB .i64) a0.users]) ?_ ?_
 refine Z4 ?_
 refine Tl (ι := Nat × Int × Bool) (fun i => jO fuel a2 y5 i.1 i.2.1 i.2.2 = _) (fun i => i.1) (fun i => [(0, fEq (.pointer (some ⟨p0, 0, none⟩))), (2, aA .i64 a2), (6, fEq (.pointer (some ⟨b1, 0, none⟩))), (10, aA .i64 i.2.1)]) (fun i => [aC b1 51 [aA .i64 y5.Op, aA .i64 y5.N, fSl aW y5.Args, fSl (aB .i64) y5.Kids], aC p0 89 [fSl aN a0.p.Free, fSl aL a0.p.Nodes, fSl aJ a0.p.Defs, aA .i64 a0.p.Main, fEq v1, fEq v2, fEq v3, aK i.2.2], aE v1 3 (aB .i64) (a0.sizes.set a1.toNat a2), aE v2 3 (aB .i64) (a0.owner.set a1.toNat z1), aE v3 3 (aB .i64) a0.users]) (fuel, 0, a0.bad) H ?_
 clear H; rintro ⟨k1, x4, x5⟩ H
 replace H : jO fuel a2 y5 k1 x4 x5 = _ := H
 try dsimp only
 obtain _ | k1 := k1
 rw [jO] at H; cases H
 rw [jO] at H
 refine aI ?_
 refine Z7 ?_
 revert H; refine is (fun c12 H => ?_) fun c12 H => ?_
 refine dP (has rfl) c12 ?_
 refine Z2 ?_
 revert H; refine bs fun o3 H Hr3 => ?_
 refine aT (ι := Bool) (fun i => o3 = i) (fun i => [(0, fEq (.pointer (some ⟨p0, 0, none⟩))), (2, aA .i64 a2), (6, fEq (.pointer (some ⟨b1, 0, none⟩))), (10, aA .i64 x4)]) (fun i => [aC p0 89 [fSl aN a0.p.Free, fSl aL a0.p.Nodes, fSl aJ a0.p.Defs, aA .i64 a0.p.Main, fEq v1, fEq v2, fEq v3, aK i], aC b1 51 [aA .i64 y5.Op, aA .i64 y5.N, fSl aW y5.Args, fSl (aB .i64) y5.Kids], aE v1 3 (aB .i64) (a0.sizes.set a1.toNat a2), aE v2 3 (aB .i64) (a0.owner.set a1.toNat z1), aE v3 3 (aB .i64) a0.users]) ?_ ?_
 refine Z8 ?_
 revert H; refine cs (fun c13 H => ?_) fun c13 H => ?_
 refine Yt c13 ?_
 refine Yt c13 ?_
 refine Yt c13 ?_
 refine Yt c13 ?_
 refine Yt c13 ?_
 refine Yt c13 ?_
 refine Yt c13 ?_
 refine Yt c13 ?_
 refine Yy (dQ rfl hh c13 hh) ?_
 refine Z2 ?_
 refine cA ?_
 refine cY (φs' := [fSl aN a0.p.Free, fSl aL a0.p.Nodes, fSl aJ a0.p.Defs, aA .i64 a0.p.Main, fEq v1, fEq v2, fEq v3, aK true]) trivial rfl rfl (has rfl) (has rfl) (aF trivial) (sz rfl) rfl rfl ?_
 refine Z3 ?_
 exact Tm (true) (ij H)
 refine Yg c13 (cO 2 rfl hh (fa rfl) rfl) ?_
 refine Yh 0 rfl c13 (bM rfl hh (sc rfl) rfl Ent.rfl) ?_
 refine Yg c13 (bY rfl hh) ?_
 revert H; refine bs fun y7 h8 H => ?_
 refine Yg c13 (cG rfl hh hh (el rfl) h8) ?_
 refine Yg c13 (aAM rfl hh (ag rfl)) ?_
 refine Yg c13 (bY rfl hh) ?_
 revert H; refine bs fun y8 h9 H => ?_
 refine Tc (aF7 _ _ _ _ h9) ?_
 refine Yg c13 (kR rfl hh) ?_
 refine Yy (cQ rfl hh c13 hh) ?_
 refine Z2 ?_
 refine cA ?_
 refine cY (φs' := [fSl aN a0.p.Free, fSl aL a0.p.Nodes, fSl aJ a0.p.Defs, aA .i64 a0.p.Main, fEq v1, fEq v2, fEq v3, aK (!y8)]) trivial rfl rfl (has rfl) (has rfl) (aF trivial) (sz rfl) rfl rfl ?_
 refine Z3 ?_
 exact Tm (!y8) (ij H)
 clear H; intro x6 hi; subst o3; have H := Hr3; clear Hr3; try dsimp only at H
 try dsimp only
 refine Z2 ?_
 revert H; refine bs fun z2 h10 H => ?_
 refine Yy (fO rfl hh hh h10) ?_
 refine Z2 ?_
 refine aH [1, 0, 2, 3, 4] (by decide) ?_
 exact Tm ((k1, z2, x6)) ⟨H, ls⟩
 refine dN (has rfl) c12 ?_
 refine Z5 ?_
 exact Tm (x5) (ij H)
 clear H; intro x1 hi; subst o2; have H := Hr2; clear Hr2; try dsimp only at H
 try dsimp only
 refine Z4 ?_
 revert H; refine bs fun o4 H Hr4 => ?_
 refine aT (ι := Int × List ByteArray × List ScopeNode × List ScopeDef × Int × List Int × List Int × List Int × Bool × Value × Value × Value) (fun i => o4 = Sum.inl (i.1, i.2.1, i.2.2.1, i.2.2.2.1, i.2.2.2.2.1, i.2.2.2.2.2.1, i.2.2.2.2.2.2.1, i.2.2.2.2.2.2.2.1, i.2.2.2.2.2.2.2.2.1)) (fun i => [(0, fEq (.pointer (some ⟨p0, 0, none⟩))), (6, fEq (.pointer (some ⟨b1, 0, none⟩))), (11, aA .i64 i.1)]) (fun i => [aC p0 89 [fSl aN i.2.1, fSl aL i.2.2.1, fSl aJ i.2.2.2.1, aA .i64 i.2.2.2.2.1, fEq i.2.2.2.2.2.2.2.2.2.1, fEq i.2.2.2.2.2.2.2.2.2.2.1, fEq i.2.2.2.2.2.2.2.2.2.2.2, aK i.2.2.2.2.2.2.2.2.1], aC b1 51 [aA .i64 y5.Op, aA .i64 y5.N, fSl aW y5.Args, fSl (aB .i64) y5.Kids], aE i.2.2.2.2.2.2.2.2.2.1 3 (aB .i64) i.2.2.2.2.2.1, aE i.2.2.2.2.2.2.2.2.2.2.1 3 (aB .i64) i.2.2.2.2.2.2.1, aE i.2.2.2.2.2.2.2.2.2.2.2 3 (aB .i64) i.2.2.2.2.2.2.2.1]) ?_ ?_
 refine Z5 ?_
 revert H; refine bs fun o5 H Hr5 => ?_
 refine aT (ι := Bool) (fun i => o5 = i) (fun i => [(0, fEq (.pointer (some ⟨p0, 0, none⟩))), (2, aA .i64 a2), (6, fEq (.pointer (some ⟨b1, 0, none⟩))), (11, aA .i64 a2), (128, aA .i64 y5.Op), (141, aK i)]) (fun i => [aC b1 51 [aA .i64 y5.Op, aA .i64 y5.N, fSl aW y5.Args, fSl (aB .i64) y5.Kids], aC p0 89 [fSl aN a0.p.Free, fSl aL a0.p.Nodes, fSl aJ a0.p.Defs, aA .i64 a0.p.Main, fEq v1, fEq v2, fEq v3, aK x1], aE v1 3 (aB .i64) (a0.sizes.set a1.toNat a2), aE v2 3 (aB .i64) (a0.owner.set a1.toNat z1), aE v3 3 (aB .i64) a0.users]) ?_ ?_
 refine Z4 ?_
 revert H; refine is (fun c14 H => ?_) fun c14 H => ?_
 refine dP (has rfl) c14 ?_
 refine Z2 ?_
 exact Tm (decide (y5.Op = 2)) (ij H)
 refine dN (has rfl) c14 ?_
 refine Z4 ?_
 revert H; refine is (fun c15 H => ?_) fun c15 H => ?_
 refine dP (has rfl) c15 ?_
 refine Z2 ?_
 exact Tm (decide (y5.Op = 6)) (ij H)
 refine dN (has rfl) c15 ?_
 refine Z4 ?_
 exact Tm (decide (y5.Op = 8)) (ij H)
 clear H; intro x16 hi; subst o5; have H := Hr5; clear Hr5; try dsimp only at H
 try dsimp only
 revert H; refine cs (fun c16 H => ?_) fun c16 H => ?_
 refine dP (has rfl) c16 ?_
 refine Z7 ?_
 revert H; refine cs (fun c17 H => ?_) fun c17 H => ?_
 refine Yt c17 ?_
 refine Yt c17 ?_
 refine Yt c17 ?_
 refine Yy (dQ rfl hh c17 hh) ?_
 refine Z8 ?_
 refine cA ?_
 refine cY (φs' := [fSl aN a0.p.Free, fSl aL a0.p.Nodes, fSl aJ a0.p.Defs, aA .i64 a0.p.Main, fEq v1, fEq v2, fEq v3, aK true]) trivial rfl rfl (has rfl) (has rfl) (aF trivial) (sz rfl) rfl rfl ?_
 refine Z3 ?_
 exact Tm ((a2, a0.p.Free, a0.p.Nodes, a0.p.Defs, a0.p.Main, a0.sizes.set a1.toNat a2, a0.owner.set a1.toNat z1, a0.users, true, v1, v2, v3)) (ij H)
 refine Yg c17 (cO 1 rfl hh (fa rfl) rfl) ?_
 refine Yh 0 rfl c17 (bM rfl hh (sc rfl) rfl Ent.rfl) ?_
 refine Yg c17 (tQ rfl hh hh) ?_
 refine Yy (cQ rfl hh c17 hh) ?_
 refine Z1 ?_
 revert H; refine is (fun c18 H => ?_) fun c18 H => ?_
 refine Yt c18 ?_
 refine Yt c18 ?_
 refine Yt c18 ?_
 refine Yt c18 ?_
 refine Yy (dQ rfl hh c18 hh) ?_
 refine Z2 ?_
 refine cA ?_
 refine cY (φs' := [fSl aN a0.p.Free, fSl aL a0.p.Nodes, fSl aJ a0.p.Defs, aA .i64 a0.p.Main, fEq v1, fEq v2, fEq v3, aK true]) trivial rfl rfl (has rfl) (has rfl) (aF trivial) (sz rfl) rfl rfl ?_
 refine Z3 ?_
 exact Tm ((a2, a0.p.Free, a0.p.Nodes, a0.p.Defs, a0.p.Main, a0.sizes.set a1.toNat a2, a0.owner.set a1.toNat z1, a0.users, true, v1, v2, v3)) (ij H)
 refine Yg c18 (cO 1 rfl hh (fa rfl) rfl) ?_
 refine Yh 0 rfl c18 (bM rfl hh (sc rfl) rfl Ent.rfl) ?_
 refine Yg c18 (bY rfl hh) ?_
 refine Yg c18 (qU rfl hh hh) ?_
 refine Yy (cQ rfl hh c18 hh) ?_
 refine Z2 ?_
 refine cA ?_
 refine cY (φs' := [fSl aN a0.p.Free, fSl aL a0.p.Nodes, fSl aJ a0.p.Defs, aA .i64 a0.p.Main, fEq v1, fEq v2, fEq v3, aK (decide (a2 ≤ y5.N))]) trivial rfl rfl (has rfl) (has rfl) (aF trivial) (sz rfl) rfl rfl ?_
 refine Z3 ?_
 exact Tm ((a2, a0.p.Free, a0.p.Nodes, a0.p.Defs, a0.p.Main, a0.sizes.set a1.toNat a2, a0.owner.set a1.toNat z1, a0.users, decide (a2 ≤ y5.N), v1, v2, v3)) (ij H)
 refine dN (has rfl) c16 ?_
 refine Z4 ?_
 revert H; refine is (fun c19 H => ?_) fun c19 H => ?_
 refine dP (has rfl) c19 ?_
 refine aI ?_
 refine aI ?_
 revert H; refine is (fun c20 H => ?_) fun c20 H => ?_
 apply bG (ods := [_, _, _, _, _, _, _, _, _, _, _, _, _, _, _, _, _, _, _, _, _, _, _, _, _]) 25 0 5 bF rfl rfl rfl
 dsimp only [bA, List.take, List.replicate, List.append, List.drop]
 refine M4 ?_
 intros
 refine Mt c20 fun _ => ?_
 refine Mt c20 fun _ => ?_
 refine Mt c20 fun _ => ?_
 refine Mt c20 fun _ => ?_
 refine Mt c20 fun _ => ?_
 refine Mt c20 fun _ => ?_
 refine Mt c20 fun _ => ?_
 refine Mt c20 fun _ => ?_
 refine Mt c20 fun _ => ?_
 refine My (dQ rfl hh c20 hh) fun _ => ?_
 refine M8 ?_
 intros
 refine M3 ?_
 intros
 refine Z7 ?_
 refine cA ?_
 refine cY (φs' := [fSl aN a0.p.Free, fSl aL a0.p.Nodes, fSl aJ a0.p.Defs, aA .i64 a0.p.Main, fEq v1, fEq v2, fEq v3, aK true]) trivial rfl rfl (has rfl) (has rfl) (aF trivial) (sz rfl) rfl rfl ?_
 refine Z4 ?_
 revert H; refine bs fun r6 H e6 => ?_
 cases e6; cases Hr4
 refine bL ?_
 refine bL ?_
 refine bL ?_
 refine dD ?_
 refine gD (x := (⟨(⟨a0.p.Free, a0.p.Nodes, a0.p.Defs, a0.p.Main⟩ : ScopeProg), a0.sizes.set a1.toNat a2, a0.owner.set a1.toNat z1, a0.users, true⟩ : Ref03_look)) ?_
 cases H
 refine aH [0] (by decide) ?_
 exact eX (.inl rfl) rfl rfl
 exact fk
 kernel_rfl
 revert H; refine is (fun c21 H => ?_) fun c21 H => ?_
 apply bG (ods := [_, _, _, _, _, _, _, _, _, _, _, _, _, _, _, _, _, _, _, _, _, _, _, _, _]) 25 0 5 bF rfl rfl rfl
 dsimp only [bA, List.take, List.replicate, List.append, List.drop]
 refine M4 ?_
 intros
 refine Mg c20 (cO 1 rfl hh (fa rfl) rfl) fun _ => ?_
 refine cU (od := odC [0] false (aA .i64 y5.N) [cK]) (ps := [0]) (φ := aA .i64 y5.N) rfl (fun _ => rfl) ⟨_, _, rfl, rfl, c20⟩ rfl rfl (bM rfl (has rfl) (sc rfl) rfl Ent.rfl) (fun _ => ?_)
 refine Mg c20 (bY rfl hh) fun _ => ?_
 refine Mg c20 (kE rfl (has rfl) (fun m v h => ⟨_, h⟩)) fun _ => ?_
 refine Mg c20 (cO 0 rfl hh (fa rfl) rfl) fun _ => ?_
 refine Mg c20 (cO 2 rfl hh (fa rfl) rfl) fun _ => ?_
 refine cU (od := odC [1] false (fSl aJ a0.p.Defs) [cK]) (ps := [1]) (φ := fSl aJ a0.p.Defs) rfl (fun _ => rfl) ⟨_, _, rfl, rfl, c20⟩ rfl rfl (bM rfl (has rfl) (sc rfl) rfl Ent.rfl) (fun _ => ?_)
 refine Mg c20 (fT rfl hh (us rfl)) fun _ => ?_
 refine Mg c20 (qU rfl hh hh) fun _ => ?_
 refine My (cQ rfl hh c20 hh) fun _ => ?_
 refine M1 ?_
 intros
 refine Mt c21 fun _ => ?_
 refine Mt c21 fun _ => ?_
 refine Mt c21 fun _ => ?_
 refine Mt c21 fun _ => ?_
 refine Mt c21 fun _ => ?_
 refine Mt c21 fun _ => ?_
 refine Mt c21 fun _ => ?_
 refine Mt c21 fun _ => ?_
 refine Mt c21 fun _ => ?_
 refine My (dQ rfl hh c21 hh) fun _ => ?_
 refine Z7 ?_
 refine cA ?_
 refine cY (φs' := [fSl aN a0.p.Free, fSl aL a0.p.Nodes, fSl aJ a0.p.Defs, aA .i64 a0.p.Main, fEq v1, fEq v2, fEq v3, aK true]) trivial rfl rfl (has rfl) (has rfl) (aF trivial) (sz rfl) rfl rfl ?_
 refine Z4 ?_
 revert H; refine bs fun r7 H e7 => ?_
 cases e7; cases Hr4
 refine bL ?_
 refine bL ?_
 refine bL ?_
 refine dD ?_
 refine gD (x := (⟨(⟨a0.p.Free, a0.p.Nodes, a0.p.Defs, a0.p.Main⟩ : ScopeProg), a0.sizes.set a1.toNat a2, a0.owner.set a1.toNat z1, a0.users, true⟩ : Ref03_look)) ?_
 cases H
 refine aH [0] (by decide) ?_
 exact eX (.inl rfl) rfl rfl
 exact fk
 kernel_rfl
 revert H; refine bs fun y9 h11 H => ?_
 apply bG (ods := [_, _, _, _, _, _, _, _, _, _, _, _, _, _, _, _, _, _, _, _, _, _, _, _, _]) 25 0 5 bF rfl rfl rfl
 dsimp only [bA, List.take, List.replicate, List.append, List.drop]
 refine M4 ?_
 intros
 refine Mg c20 (cO 1 rfl hh (fa rfl) rfl) fun _ => ?_
 refine cU (od := odC [0] false (aA .i64 y5.N) [cK]) (ps := [0]) (φ := aA .i64 y5.N) rfl (fun _ => rfl) ⟨_, _, rfl, rfl, c20⟩ rfl rfl (bM rfl (has rfl) (sc rfl) rfl Ent.rfl) (fun _ => ?_)
 refine Mg c20 (bY rfl hh) fun _ => ?_
 refine Mg c20 (kE rfl (has rfl) (fun m v h => ⟨_, h⟩)) fun _ => ?_
 refine Mg c20 (cO 0 rfl hh (fa rfl) rfl) fun _ => ?_
 refine Mg c20 (cO 2 rfl hh (fa rfl) rfl) fun _ => ?_
 refine cU (od := odC [1] false (fSl aJ a0.p.Defs) [cK]) (ps := [1]) (φ := fSl aJ a0.p.Defs) rfl (fun _ => rfl) ⟨_, _, rfl, rfl, c20⟩ rfl rfl (bM rfl (has rfl) (sc rfl) rfl Ent.rfl) (fun _ => ?_)
 refine Mg c20 (fT rfl hh (us rfl)) fun _ => ?_
 refine Mg c20 (qU rfl hh hh) fun _ => ?_
 refine My (cQ rfl hh c20 hh) fun _ => ?_
 refine M1 ?_
 intros
 refine Mg c21 (bY rfl hh) fun _ => ?_
 refine Mg c21 (kE rfl (has rfl) (fun m v h => ⟨_, h⟩)) fun _ => ?_
 refine Mg c21 (cO 6 rfl hh (fa rfl) rfl) fun _ => ?_
 refine cU (od := odC [1] false (fEq v3) [cK]) (ps := [1]) (φ := fEq v3) rfl (fun _ => rfl) ⟨_, _, rfl, rfl, c21⟩ rfl rfl (bM rfl (has rfl) (sc rfl) rfl Ent.rfl) (fun _ => ?_)
 refine Mg c21 (cO 1 rfl hh (fa rfl) rfl) fun _ => ?_
 refine cU (od := odC [0] false (aA .i64 y5.N) [cK]) (ps := [0]) (φ := aA .i64 y5.N) rfl (fun _ => rfl) ⟨_, _, rfl, rfl, c21⟩ rfl rfl (bM rfl (has rfl) (sc rfl) rfl Ent.rfl) (fun _ => ?_)
 refine cU (od := odC [4] false (hQ v3 1 y5.N.toNat 0) [cK]) (ps := [4]) (φ := hQ v3 1 y5.N.toNat 0) rfl (fun _ => rfl) ⟨_, _, rfl, rfl, c21⟩ rfl rfl (jJ rfl (has rfl) (has rfl) (el rfl) h11) (fun _ => ?_)
 refine cU (od := odC [4] false (aA .i64 y9) [cK]) (ps := [4]) (φ := aA .i64 y9) rfl (fun _ => rfl) ⟨_, _, rfl, rfl, c21⟩ rfl rfl (iN rfl rfl (has rfl) (sc rfl) (bW h11) rfl) (fun _ => ?_)
 refine Mg c21 (gY rfl hh hh) fun _ => ?_
 refine My (cQ rfl hh c21 hh) fun _ => ?_
 refine Z2 ?_
 revert H; refine is (fun c22 H => ?_) fun c22 H => ?_
 refine dP (has rfl) c22 ?_
 refine Z4 ?_
 refine cA ?_
 refine cY (φs' := [fSl aN a0.p.Free, fSl aL a0.p.Nodes, fSl aJ a0.p.Defs, aA .i64 a0.p.Main, fEq v1, fEq v2, fEq v3, aK true]) trivial rfl rfl (has rfl) (has rfl) (aF trivial) (sz rfl) rfl rfl ?_
 refine Z4 ?_
 revert H; refine bs fun r8 H e8 => ?_
 cases e8; cases Hr4
 refine bL ?_
 refine bL ?_
 refine bL ?_
 refine dD ?_
 refine gD (x := (⟨(⟨a0.p.Free, a0.p.Nodes, a0.p.Defs, a0.p.Main⟩ : ScopeProg), a0.sizes.set a1.toNat a2, a0.owner.set a1.toNat z1, a0.users, true⟩ : Ref03_look)) ?_
 cases H
 refine aH [0] (by decide) ?_
 exact eX (.inl rfl) rfl rfl
 refine dN (has rfl) c22 ?_
 refine Z2 ?_
 refine aI ?_
 revert H; refine bs fun y10 h12 H => ?_
 revert H; refine bs fun z3 h13 H => ?_
 revert H; refine bs fun y11 h14 H => ?_
 apply bG (ods := [_, _, _, _, _, _, _, _, _, _, _]) 11 0 5 bF rfl rfl rfl
 dsimp only [bA, List.take, List.replicate, List.append, List.drop]
 refine M6 ?_
 intros
 refine Mo 4 rfl (jJ rfl hh hh (el rfl) h12) fun _ => ?_
 refine Mo 4 rfl (iN rfl rfl hh (sc rfl) (bW h12) rfl) fun _ => ?_
 refine My (fO rfl hh hh h13) fun _ => ?_
 refine Mo 4 rfl (jJ rfl hh hh (el rfl) h14) fun _ => ?_
 refine rH (od := odC [4] true (fAny) [aE v3 3 (aB .i64) (a0.users.set y5.N.toNat z3)]) (p := 4) (z' := z3) rfl (fun _ => rfl) (fun _ => rfl) trivial rfl rfl rfl rfl (has rfl) (has rfl) (aF trivial) (sz rfl) (bW h14) rfl rfl (fun _ => ?_)
 refine Z2 ?_
 refine aI ?_
 revert H; refine bs fun y12 h15 H => ?_
 revert H; refine bs fun y13 h16 H => ?_
 revert H; refine bs fun z4 h17 H => ?_
 apply bG (ods := [_, _, _, _, _, _, _, _, _, _, _, _, _]) 13 0 5 bF rfl rfl rfl
 dsimp only [bA, List.take, List.replicate, List.append, List.drop]
 refine M8 ?_
 intros
 refine My (cG rfl hh hh (el rfl) h15) fun _ => ?_
 refine M1 ?_
 intros
 refine bP (od := odC [] true (aA .i64 y13) []) (Φ := aA .i64 y13) rfl (fun _ => rfl) trivial rfl rfl (has rfl) (aD.cons (has rfl) aD.nil) rfl (cb rfl) (aGk y12 y13 h16) (fun _ => ?_)
 refine My (fO rfl hh hh h17) fun _ => ?_
 refine M1 ?_
 intros
 refine Z2 ?_
 revert H; refine bs fun y14 h18 H => ?_
 apply bG (ods := [_, _, _, _, _, _, _, _, _, _, _]) 11 0 5 bF rfl rfl rfl
 dsimp only [bA, List.take, List.replicate, List.append, List.drop]
 refine M8 ?_
 intros
 refine My (cG rfl hh hh (el rfl) h18) fun _ => ?_
 refine M2 ?_
 intros
 refine Z1 ?_
 refine bL ?_
 refine bL ?_
 refine bL ?_
 refine bL ?_
 refine gD (x := (⟨(⟨a0.p.Free, a0.p.Nodes, a0.p.Defs, a0.p.Main⟩ : ScopeProg), a0.sizes.set a1.toNat a2, a0.owner.set a1.toNat z1, a0.users.set y5.N.toNat z3, x1⟩ : Ref03_look)) ?_
 revert H; refine bs fun y15 h19 H => ?_
 refine Tc (ih_r03_look_def _ _ _ _ _ h19) ?_
 refine sQ (fun v7 v8 v9 => ?_)
 refine aO 1 rfl (fun hc_v7 => ?_)
 refine aO 2 rfl (fun hc_v8 => ?_)
 refine aO 3 rfl (fun hc_v9 => ?_)
 refine Z3 ?_
 refine aH [0, 4, 1, 2, 3] (by decide) ?_
 exact Tm ((z4, y15.p.Free, y15.p.Nodes, y15.p.Defs, y15.p.Main, y15.sizes, y15.owner, y15.users, y15.bad, v7, v8, v9)) (ij H)
 exact fk
 kernel_rfl
 exact fk
 kernel_rfl
 exact fk
 kernel_rfl
 exact fk
 kernel_rfl
 refine dN (has rfl) c19 ?_
 refine Z7 ?_
 revert H; refine cs (fun c23 H => ?_) fun c23 H => ?_
 refine Yt c23 ?_
 refine Yt c23 ?_
 refine Yt c23 ?_
 refine Yy (dQ rfl hh c23 hh) ?_
 refine Z2 ?_
 refine cA ?_
 refine cY (φs' := [fSl aN a0.p.Free, fSl aL a0.p.Nodes, fSl aJ a0.p.Defs, aA .i64 a0.p.Main, fEq v1, fEq v2, fEq v3, aK true]) trivial rfl rfl (has rfl) (has rfl) (aF trivial) (sz rfl) rfl rfl ?_
 refine Z3 ?_
 exact Tm ((a2, a0.p.Free, a0.p.Nodes, a0.p.Defs, a0.p.Main, a0.sizes.set a1.toNat a2, a0.owner.set a1.toNat z1, a0.users, true, v1, v2, v3)) (ij H)
 refine Yg c23 (cO 1 rfl hh (fa rfl) rfl) ?_
 refine Yh 0 rfl c23 (bM rfl hh (sc rfl) rfl Ent.rfl) ?_
 refine Yg c23 (tA rfl hh hh) ?_
 refine Yy (cQ rfl hh c23 hh) ?_
 refine Z2 ?_
 refine cA ?_
 refine cY (φs' := [fSl aN a0.p.Free, fSl aL a0.p.Nodes, fSl aJ a0.p.Defs, aA .i64 a0.p.Main, fEq v1, fEq v2, fEq v3, aK (decide (y5.N ≠ 0))]) trivial rfl rfl (has rfl) (has rfl) (aF trivial) (sz rfl) rfl rfl ?_
 refine Z3 ?_
 exact Tm ((a2, a0.p.Free, a0.p.Nodes, a0.p.Defs, a0.p.Main, a0.sizes.set a1.toNat a2, a0.owner.set a1.toNat z1, a0.users, decide (y5.N ≠ 0), v1, v2, v3)) (ij H)
 clear H; intro i hi; obtain ⟨x7, x8, x9, x10, x11, x12, x13, x14, x15, v4, v5, v6⟩ := i; subst o4; have H := Hr4; clear Hr4; try dsimp only at H
 try dsimp only
 refine aO 2 rfl (fun hc_v4 => ?_)
 refine aO 3 rfl (fun hc_v5 => ?_)
 refine aO 4 rfl (fun hc_v6 => ?_)
 refine Z4 ?_
 refine Tl (ι := Nat × Int × List ByteArray × List ScopeNode × List ScopeDef × Int × List Int × List Int × List Int × Bool × Value × Value × Value) (fun i => jG (eS fuel) y5 x7 i.1 i.2.1 i.2.2.1 i.2.2.2.1 i.2.2.2.2.1 i.2.2.2.2.2.1 i.2.2.2.2.2.2.1 i.2.2.2.2.2.2.2.1 i.2.2.2.2.2.2.2.2.1 i.2.2.2.2.2.2.2.2.2.1 = _) (fun i => i.1) (fun i => [(0, fEq (.pointer (some ⟨p0, 0, none⟩))), (6, fEq (.pointer (some ⟨b1, 0, none⟩))), (11, aA .i64 x7), (12, aA .i64 i.2.1)]) (fun i => [aC p0 89 [fSl aN i.2.2.1, fSl aL i.2.2.2.1, fSl aJ i.2.2.2.2.1, aA .i64 i.2.2.2.2.2.1, fEq i.2.2.2.2.2.2.2.2.2.2.1, fEq i.2.2.2.2.2.2.2.2.2.2.2.1, fEq i.2.2.2.2.2.2.2.2.2.2.2.2, aK i.2.2.2.2.2.2.2.2.2.1], aC b1 51 [aA .i64 y5.Op, aA .i64 y5.N, fSl aW y5.Args, fSl (aB .i64) y5.Kids], aE i.2.2.2.2.2.2.2.2.2.2.1 3 (aB .i64) i.2.2.2.2.2.2.1, aE i.2.2.2.2.2.2.2.2.2.2.2.1 3 (aB .i64) i.2.2.2.2.2.2.2.1, aE i.2.2.2.2.2.2.2.2.2.2.2.2 3 (aB .i64) i.2.2.2.2.2.2.2.2.1]) (fuel, 0, x8, x9, x10, x11, x12, x13, x14, x15, v4, v5, v6) H ?_
 clear H; rintro ⟨k2, x26, x27, x28, x29, x30, x31, x32, x33, x34, v13, v14, v15⟩ H
 replace H : jG (eS fuel) y5 x7 k2 x26 x27 x28 x29 x30 x31 x32 x33 x34 = _ := H
 try dsimp only
 obtain _ | k2 := k2
 rw [jG] at H; cases H
 rw [jG] at H
 refine aO 2 rfl (fun hc_v13 => ?_)
 refine aO 3 rfl (fun hc_v14 => ?_)
 refine aO 4 rfl (fun hc_v15 => ?_)
 refine aI ?_
 refine Z7 ?_
 revert H; refine is (fun c24 H => ?_) fun c24 H => ?_
 refine Yg c24 (bY rfl hh) ?_
 refine Yg c24 (kE rfl (has rfl) (fun m v h => ⟨_, h⟩)) ?_
 refine Yg c24 (cO 7 rfl hh (fa rfl) rfl) ?_
 refine Yh 0 rfl c24 (bM rfl hh (sc rfl) rfl Ent.rfl) ?_
 refine Yg c24 (kR rfl hh) ?_
 refine Yy (dQ rfl hh c24 hh) ?_
 refine Z1 ?_
 revert H; refine cs (fun c25 H => ?_) fun c25 H => ?_
 refine dN (has rfl) (pH c25) ?_
 refine Z4 ?_
 refine bL ?_
 refine bL ?_
 refine bL ?_
 refine dD ?_
 refine gD (x := (⟨(⟨x27, x28, x29, x30⟩ : ScopeProg), x31, x32, x33, x34⟩ : Ref03_look)) ?_
 cases H
 refine aH [0] (by decide) ?_
 exact eX (.inr rfl) rfl rfl
 refine dP (has rfl) (oZ c25) ?_
 refine Z2 ?_
 refine aI ?_
 refine Z6 ?_
 revert H; refine bs fun y16 h20 H => ?_
 refine Yy (cG rfl hh hh (el rfl) h20) ?_
 refine Z2 ?_
 refine bL ?_
 refine bL ?_
 refine bL ?_
 refine dD ?_
 refine gD (x := (⟨(⟨x27, x28, x29, x30⟩ : ScopeProg), x31, x32, x33, x34⟩ : Ref03_look)) ?_
 revert H; refine bs fun y17 h21 H => ?_
 refine Tc (ih_r03_look_node _ _ _ _ _ h21) ?_
 refine sQ (fun v16 v17 v18 => ?_)
 refine aO 1 rfl (fun hc_v16 => ?_)
 refine aO 2 rfl (fun hc_v17 => ?_)
 refine aO 3 rfl (fun hc_v18 => ?_)
 refine Z5 ?_
 revert H; refine bs fun z5 h22 H => ?_
 refine Yy (fO rfl hh hh h22) ?_
 refine Z2 ?_
 refine aH [0, 4, 1, 2, 3] (by decide) ?_
 exact Tm ((k2, z5, y17.p.Free, y17.p.Nodes, y17.p.Defs, y17.p.Main, y17.sizes, y17.owner, y17.users, y17.bad, v16, v17, v18)) ⟨H, ls⟩
 refine Yf c24 ?_
 refine Yf c24 ?_
 refine Yf c24 ?_
 refine Yf c24 ?_
 refine Yf c24 ?_
 refine Yy (cQ rfl hh c24 hh) ?_
 refine Z6 ?_
 refine bL ?_
 refine bL ?_
 refine bL ?_
 refine dD ?_
 refine gD (x := (⟨(⟨x27, x28, x29, x30⟩ : ScopeProg), x31, x32, x33, x34⟩ : Ref03_look)) ?_
 cases H
 refine aH [0] (by decide) ?_
 exact eX (.inr rfl) rfl rfl
 intro p0 a0 a1 a2 r H
 rw [pX] at H
 refine bK Tryz.func107 rfl Tryz.ntmps107 rfl (fun β => ?_)
 refine sQ (fun v1 v2 v3 => ?_)
 refine aO 1 rfl (fun hc_v1 => ?_)
 refine aO 2 rfl (fun hc_v2 => ?_)
 refine aO 3 rfl (fun hc_v3 => ?_)
 refine Z1 ?_
 refine aR trivial rfl rfl (cF rfl (has rfl) bO) (fun b1 => ?_)
 refine Z1 ?_
 revert H; refine bs fun o1 H Hr1 => ?_
 refine aT (ι := List ByteArray × List ScopeNode × List ScopeDef × Int × List Int × List Int × List Int × Bool × Value × Value × Value) (fun i => o1 = (i.1, i.2.1, i.2.2.1, i.2.2.2.1, i.2.2.2.2.1, i.2.2.2.2.2.1, i.2.2.2.2.2.2.1, i.2.2.2.2.2.2.2.1)) (fun i => [(0, fEq (.pointer (some ⟨p0, 0, none⟩))), (2, aA .i64 a2), (4, fEq (.pointer (some ⟨b1, 0, none⟩)))]) (fun i => [aC b1 99 [fSl aY a1.Chans, fSl bI a1.Spots, fSl bC a1.Rules], aC p0 89 [fSl aN i.1, fSl aL i.2.1, fSl aJ i.2.2.1, aA .i64 i.2.2.2.1, fEq i.2.2.2.2.2.2.2.2.1, fEq i.2.2.2.2.2.2.2.2.2.1, fEq i.2.2.2.2.2.2.2.2.2.2, aK i.2.2.2.2.2.2.2.1], aE i.2.2.2.2.2.2.2.2.1 3 (aB .i64) i.2.2.2.2.1, aE i.2.2.2.2.2.2.2.2.2.1 3 (aB .i64) i.2.2.2.2.2.1, aE i.2.2.2.2.2.2.2.2.2.2 3 (aB .i64) i.2.2.2.2.2.2.1]) ?_ ?_
 refine Z4 ?_
 refine Tl (ι := Nat × Int × List ByteArray × List ScopeNode × List ScopeDef × Int × List Int × List Int × List Int × Bool × Value × Value × Value) (fun i => lB fuel (eS fuel) a1 a2 i.1 i.2.1 i.2.2.1 i.2.2.2.1 i.2.2.2.2.1 i.2.2.2.2.2.1 i.2.2.2.2.2.2.1 i.2.2.2.2.2.2.2.1 i.2.2.2.2.2.2.2.2.1 i.2.2.2.2.2.2.2.2.2.1 = _) (fun i => i.1) (fun i => [(0, fEq (.pointer (some ⟨p0, 0, none⟩))), (2, aA .i64 a2), (4, fEq (.pointer (some ⟨b1, 0, none⟩))), (6, aA .i64 i.2.1)]) (fun i => [aC b1 99 [fSl aY a1.Chans, fSl bI a1.Spots, fSl bC a1.Rules], aC p0 89 [fSl aN i.2.2.1, fSl aL i.2.2.2.1, fSl aJ i.2.2.2.2.1, aA .i64 i.2.2.2.2.2.1, fEq i.2.2.2.2.2.2.2.2.2.2.1, fEq i.2.2.2.2.2.2.2.2.2.2.2.1, fEq i.2.2.2.2.2.2.2.2.2.2.2.2, aK i.2.2.2.2.2.2.2.2.2.1], aE i.2.2.2.2.2.2.2.2.2.2.1 3 (aB .i64) i.2.2.2.2.2.2.1, aE i.2.2.2.2.2.2.2.2.2.2.2.1 3 (aB .i64) i.2.2.2.2.2.2.2.1, aE i.2.2.2.2.2.2.2.2.2.2.2.2 3 (aB .i64) i.2.2.2.2.2.2.2.2.1]) (fuel, 0, a0.p.Free, a0.p.Nodes, a0.p.Defs, a0.p.Main, a0.sizes, a0.owner, a0.users, a0.bad, v1, v2, v3) H ?_
 clear H; rintro ⟨k1, x18, x19, x20, x21, x22, x23, x24, x25, x26, v10, v11, v12⟩ H
 replace H : lB fuel (eS fuel) a1 a2 k1 x18 x19 x20 x21 x22 x23 x24 x25 x26 = _ := H
 try dsimp only
 obtain _ | k1 := k1
 rw [lB] at H; cases H
 rw [lB] at H
 refine aO 2 rfl (fun hc_v10 => ?_)
 refine aO 3 rfl (fun hc_v11 => ?_)
 refine aO 4 rfl (fun hc_v12 => ?_)
 refine aI ?_
 refine Z7 ?_
 revert H; refine is (fun c1 H => ?_) fun c1 H => ?_
 refine Yg c1 (bY rfl hh) ?_
 refine Yg c1 (kE rfl (has rfl) (fun m v h => ⟨_, h⟩)) ?_
 refine Yg c1 (cO 7 rfl hh (fa rfl) rfl) ?_
 refine Yh 1 rfl c1 (bM rfl hh (sc rfl) rfl Ent.rfl) ?_
 refine Yg c1 (kR rfl hh) ?_
 refine Yy (dQ rfl hh c1 hh) ?_
 refine Z1 ?_
 revert H; refine cs (fun c2 H => ?_) fun c2 H => ?_
 refine dN (has rfl) (pH c2) ?_
 refine Z5 ?_
 exact Tm ((x19, x20, x21, x22, x23, x24, x25, x26, v10, v11, v12)) (ij H)
 refine dP (has rfl) (oZ c2) ?_
 refine Z2 ?_
 refine aI ?_
 refine Z1 ?_
 revert H; refine bs fun y1 h1 H => ?_
 revert H; refine bs fun y2 h2 H => ?_
 revert H; refine bs fun y3 h3 H => ?_
 revert H; refine bs fun z1 h4 H => ?_
 apply bG (ods := [_, _, _, _, _, _, _, _, _, _, _, _, _, _, _, _]) 16 0 5 bF rfl rfl rfl
 dsimp only [bA, List.take, List.replicate, List.append, List.drop]
 refine M4 ?_
 intros
 refine My (cG rfl hh hh (el rfl) h1) fun _ => ?_
 refine M7 ?_
 intros
 refine My (cG rfl hh hh (el rfl) h2) fun _ => ?_
 refine M1 ?_
 intros
 refine bP (od := odC [] true (aA .i64 y3) []) (Φ := aA .i64 y3) rfl (fun _ => rfl) trivial rfl rfl (has rfl) (aD.cons (has rfl) (aD.cons (has rfl) aD.nil)) rfl (cb rfl) (aGK fuel (⟨a1.Chans, a1.Spots, a1.Rules⟩ : ScopeDef) y2 y3 h3) (fun _ => ?_)
 refine My (fO rfl hh hh h4) fun _ => ?_
 refine Z1 ?_
 refine bL ?_
 refine bL ?_
 refine bL ?_
 refine bL ?_
 refine gD (x := (⟨(⟨x19, x20, x21, x22⟩ : ScopeProg), x23, x24, x25, x26⟩ : Ref03_look)) ?_
 revert H; refine bs fun y4 h5 H => ?_
 refine Tc (ih_r03_look_node _ _ _ _ _ h5) ?_
 refine sQ (fun v13 v14 v15 => ?_)
 refine aO 1 rfl (fun hc_v13 => ?_)
 refine aO 2 rfl (fun hc_v14 => ?_)
 refine aO 3 rfl (fun hc_v15 => ?_)
 refine Z5 ?_
 revert H; refine bs fun z2 h6 H => ?_
 refine Yy (fO rfl hh hh h6) ?_
 refine Z2 ?_
 refine aH [4, 0, 1, 2, 3] (by decide) ?_
 exact Tm ((k1, z2, y4.p.Free, y4.p.Nodes, y4.p.Defs, y4.p.Main, y4.sizes, y4.owner, y4.users, y4.bad, v13, v14, v15)) ⟨H, ls⟩
 exact fk
 kernel_rfl
 refine Yf c1 ?_
 refine Yf c1 ?_
 refine Yf c1 ?_
 refine Yf c1 ?_
 refine Yf c1 ?_
 refine Yy (cQ rfl hh c1 hh) ?_
 refine Z7 ?_
 exact Tm ((x19, x20, x21, x22, x23, x24, x25, x26, v10, v11, v12)) (ij H)
 clear H; intro i hi; obtain ⟨x1, x2, x3, x4, x5, x6, x7, x8, v4, v5, v6⟩ := i; subst o1; have H := Hr1; clear Hr1; try dsimp only at H
 try dsimp only
 refine aO 2 rfl (fun hc_v4 => ?_)
 refine aO 3 rfl (fun hc_v5 => ?_)
 refine aO 4 rfl (fun hc_v6 => ?_)
 refine Z4 ?_
 refine Tl (ι := Nat × Int × List ByteArray × List ScopeNode × List ScopeDef × Int × List Int × List Int × List Int × Bool × Value × Value × Value) (fun i => lK (eS fuel) a1 a2 i.1 i.2.1 i.2.2.1 i.2.2.2.1 i.2.2.2.2.1 i.2.2.2.2.2.1 i.2.2.2.2.2.2.1 i.2.2.2.2.2.2.2.1 i.2.2.2.2.2.2.2.2.1 i.2.2.2.2.2.2.2.2.2.1 = _) (fun i => i.1) (fun i => [(0, fEq (.pointer (some ⟨p0, 0, none⟩))), (2, aA .i64 a2), (4, fEq (.pointer (some ⟨b1, 0, none⟩))), (7, aA .i64 i.2.1)]) (fun i => [aC b1 99 [fSl aY a1.Chans, fSl bI a1.Spots, fSl bC a1.Rules], aC p0 89 [fSl aN i.2.2.1, fSl aL i.2.2.2.1, fSl aJ i.2.2.2.2.1, aA .i64 i.2.2.2.2.2.1, fEq i.2.2.2.2.2.2.2.2.2.2.1, fEq i.2.2.2.2.2.2.2.2.2.2.2.1, fEq i.2.2.2.2.2.2.2.2.2.2.2.2, aK i.2.2.2.2.2.2.2.2.2.1], aE i.2.2.2.2.2.2.2.2.2.2.1 3 (aB .i64) i.2.2.2.2.2.2.1, aE i.2.2.2.2.2.2.2.2.2.2.2.1 3 (aB .i64) i.2.2.2.2.2.2.2.1, aE i.2.2.2.2.2.2.2.2.2.2.2.2 3 (aB .i64) i.2.2.2.2.2.2.2.2.1]) (fuel, 0, x1, x2, x3, x4, x5, x6, x7, x8, v4, v5, v6) H ?_
 clear H; rintro ⟨k2, x36, x37, x38, x39, x40, x41, x42, x43, x44, v19, v20, v21⟩ H
 replace H : lK (eS fuel) a1 a2 k2 x36 x37 x38 x39 x40 x41 x42 x43 x44 = _ := H
 try dsimp only
 obtain _ | k2 := k2
 rw [lK] at H; cases H
 rw [lK] at H
 refine aO 2 rfl (fun hc_v19 => ?_)
 refine aO 3 rfl (fun hc_v20 => ?_)
 refine aO 4 rfl (fun hc_v21 => ?_)
 refine aI ?_
 refine Z7 ?_
 revert H; refine is (fun c3 H => ?_) fun c3 H => ?_
 refine Yg c3 (bY rfl hh) ?_
 refine Yg c3 (kE rfl (has rfl) (fun m v h => ⟨_, h⟩)) ?_
 refine Yg c3 (cO 7 rfl hh (fa rfl) rfl) ?_
 refine Yh 1 rfl c3 (bM rfl hh (sc rfl) rfl Ent.rfl) ?_
 refine Yg c3 (kR rfl hh) ?_
 refine Yy (dQ rfl hh c3 hh) ?_
 refine Z1 ?_
 revert H; refine cs (fun c4 H => ?_) fun c4 H => ?_
 refine dN (has rfl) (pH c4) ?_
 refine Z4 ?_
 refine bL ?_
 refine bL ?_
 refine bL ?_
 refine bL ?_
 refine gD (x := (⟨(⟨x37, x38, x39, x40⟩ : ScopeProg), x41, x42, x43, x44⟩ : Ref03_look)) ?_
 cases H
 refine aH [0] (by decide) ?_
 exact eX (.inr rfl) rfl rfl
 refine dP (has rfl) (oZ c4) ?_
 refine Z2 ?_
 refine aI ?_
 refine Z6 ?_
 revert H; refine bs fun y5 h7 H => ?_
 refine Yy (cG rfl hh hh (el rfl) h7) ?_
 refine Z3 ?_
 refine bL ?_
 refine bL ?_
 refine bL ?_
 refine bL ?_
 refine gD (x := (⟨(⟨x37, x38, x39, x40⟩ : ScopeProg), x41, x42, x43, x44⟩ : Ref03_look)) ?_
 revert H; refine bs fun y6 h8 H => ?_
 refine Tc (ih_r03_look_node _ _ _ _ _ h8) ?_
 refine sQ (fun v22 v23 v24 => ?_)
 refine aO 1 rfl (fun hc_v22 => ?_)
 refine aO 2 rfl (fun hc_v23 => ?_)
 refine aO 3 rfl (fun hc_v24 => ?_)
 refine Z5 ?_
 revert H; refine bs fun z3 h9 H => ?_
 refine Yy (fO rfl hh hh h9) ?_
 refine Z2 ?_
 refine aH [4, 0, 1, 2, 3] (by decide) ?_
 exact Tm ((k2, z3, y6.p.Free, y6.p.Nodes, y6.p.Defs, y6.p.Main, y6.sizes, y6.owner, y6.users, y6.bad, v22, v23, v24)) ⟨H, ls⟩
 refine Yf c3 ?_
 refine Yf c3 ?_
 refine Yf c3 ?_
 refine Yf c3 ?_
 refine Yf c3 ?_
 refine Yy (cQ rfl hh c3 hh) ?_
 refine Z6 ?_
 refine bL ?_
 refine bL ?_
 refine bL ?_
 refine bL ?_
 refine gD (x := (⟨(⟨x37, x38, x39, x40⟩ : ScopeProg), x41, x42, x43, x44⟩ : Ref03_look)) ?_
 cases H
 refine aH [0] (by decide) ?_
 exact eX (.inr rfl) rfl rfl
theorem aGu (fuel : Nat) (p0 : Nat) (a0 : Ref03_look) (a1 : Int) (a2 : Int) (r : Ref03_look) (H : eS fuel a0 a1 a2 = some r) : FnS Tryz.prog 89 [fEq (.pointer (some ⟨p0, 0, none⟩)), aA .i64 a1, aA .i64 a2] [qP p0 a0] (dC []) (fun _ => [qP p0 r]) := (aHA fuel).1 p0 a0 a1 a2 r H
end Go.Proofs.YtmnbfgeljmhekaaGreat
set_option maxRecDepth 100000
set_option maxHeartbeats 2000000
namespace Go.Proofs.YtmnbfgeljmhekaaGreat
open Go.SX Go.SW Go.Dt
attribute [local irreducible] Code.wpIn wpListIn Exit.then Exit.inBlock
def jI (fuel : Nat) (a0 : ScopeProg) : Nat → Int → Bool → Option (Bool)
| 0, _, _ => none
| k + 1, x4, x5 =>
 if x4 < (a0.Free.length : Int) then
  (bif x5 then
   some true
  else
   (idx a0.Free x4).bind fun y1 =>
   (tT fuel y1).bind fun y2 =>
   bif !y2 then
    some true
   else
    if 0 < x4 then
     (idx a0.Free x4).bind fun y3 =>
     (chk (x4 - 1)).bind fun z1 =>
     (idx a0.Free z1).bind fun y4 =>
     some (sle y3 y4)
    else
     some false).bind fun x6 =>
  (chk (x4 + 1)).bind fun z2 =>
  jI fuel a0 k z2 x6
 else
  some x5
def kP (fuel : Nat) (a0 : ScopeProg) : Nat → Int → Bool → Option (Bool)
| 0, _, _ => none
| k + 1, x10, x11 =>
 if x10 < (a0.Defs.length : Int) then
  (bif x11 then
   some true
  else
   (idx a0.Defs x10).bind fun y5 =>
   (vV fuel y5).bind fun y6 =>
   some (!y6)).bind fun x12 =>
  (chk (x10 + 1)).bind fun z3 =>
  kP fuel a0 k z3 x12
 else
  some x11
def kD (y10 : Ref03_look) : Nat → Int → Bool → Option (Bool)
| 0, _, _ => none
| k + 1, x16, x17 =>
 if x16 < (y10.owner.length : Int) then
  (bif x17 then
   some true
  else
   (idx y10.owner x16).bind fun y11 =>
   some (decide (y11 = 0))).bind fun x18 =>
  (chk (x16 + 1)).bind fun z4 =>
  kD y10 k z4 x18
 else
  some x17
def kC (y10 : Ref03_look) : Nat → Int → Bool → Option (Bool)
| 0, _, _ => none
| k + 1, x22, x23 =>
 if x22 < (y10.users.length : Int) then
  (bif x23 then
   some true
  else
   (idx y10.users x22).bind fun y12 =>
   some (decide (y12 = 0))).bind fun x24 =>
  (chk (x22 + 1)).bind fun z5 =>
  kC y10 k z5 x24
 else
  some x23
def uX (fuel : Nat) (a0 : ScopeProg) : Option (Ref03_look) :=
 if 12 < (a0.Free.length : Int) then
  some (⟨(⟨a0.Free, a0.Nodes, a0.Defs, a0.Main⟩ : ScopeProg), [], [], [], true⟩ : Ref03_look)
 else
  if 60 < (a0.Nodes.length : Int) then
   some (⟨(⟨a0.Free, a0.Nodes, a0.Defs, a0.Main⟩ : ScopeProg), [], [], [], true⟩ : Ref03_look)
  else
   if 12 < (a0.Defs.length : Int) then
    some (⟨(⟨a0.Free, a0.Nodes, a0.Defs, a0.Main⟩ : ScopeProg), [], [], [], true⟩ : Ref03_look)
   else
    (jI fuel a0 fuel 0 false).bind fun x1 =>
    (kP fuel a0 fuel 0 x1).bind fun x7 =>
    (mk 0 (a0.Nodes.length : Int)).bind fun y7 =>
    (mk 0 (a0.Nodes.length : Int)).bind fun y8 =>
    (mk 0 (a0.Defs.length : Int)).bind fun y9 =>
    bif x7 then
     some (⟨(⟨a0.Free, a0.Nodes, a0.Defs, a0.Main⟩ : ScopeProg), y7, y8, y9, x7⟩ : Ref03_look)
    else
     (eS fuel (⟨(⟨a0.Free, a0.Nodes, a0.Defs, a0.Main⟩ : ScopeProg), y7, y8, y9, x7⟩ : Ref03_look) a0.Main (a0.Free.length : Int)).bind fun y10 =>
     (kD y10 fuel 0 y10.bad).bind fun x13 =>
     (kC y10 fuel 0 x13).bind fun x19 =>
     some (⟨(⟨y10.p.Free, y10.p.Nodes, y10.p.Defs, y10.p.Main⟩ : ScopeProg), y10.sizes, y10.owner, y10.users, x19⟩ : Ref03_look)
theorem aEG (fuel : Nat)  (a0 : ScopeProg) (r : Ref03_look) (H : uX fuel a0 = some r) : FnS Tryz.prog 51 [fSt dG a0] [] (aG vP r) (fun _ => []) := by
 unfold uX at H
 refine bK Tryz.func51 rfl Tryz.ntmps51 rfl (fun β => ?_)
 refine Z1 ?_
 refine aR trivial rfl rfl (cF rfl (has rfl) bO) (fun b1 => ?_)
 refine Z4 ?_
 refine Yy (dS (ψs := [fSl aN a0.Free, fSl aL a0.Nodes, fSl aJ a0.Defs, aA .i64 a0.Main, fEq (.slice none 0 0), fEq (.slice none 0 0), fEq (.slice none 0 0), aK false]) rfl ty_bu_89 rfl (aX.cons (has rfl) bO aX.nil) rfl) ?_
 refine aR trivial rfl rfl (cF rfl (has rfl) bO) (fun b2 => ?_)
 refine Z2 ?_
 refine aI ?_
 refine Z6 ?_
 revert H; refine is (fun c1 H => ?_) fun c1 H => ?_
 refine Yt c1 ?_
 refine Yt c1 ?_
 refine Yt c1 ?_
 refine Yt c1 ?_
 refine Yy (dQ rfl hh c1 hh) ?_
 refine Z12 ?_
 refine cY (φs' := [fSl aN a0.Free, fSl aL a0.Nodes, fSl aJ a0.Defs, aA .i64 a0.Main, fEq (.slice none 0 0), fEq (.slice none 0 0), fEq (.slice none 0 0), aK true]) trivial rfl rfl (has rfl) (has rfl) (aF trivial) (sz rfl) rfl rfl ?_
 refine Z6 ?_
 refine cW (φ := aG vP (⟨(⟨a0.Free, a0.Nodes, a0.Defs, a0.Main⟩ : ScopeProg), [], [], [], true⟩ : Ref03_look)) (v := ptr b2) [2, 10, 3, 27, 28, 30] (gU (aP.cons Ent.rfl (aP.cons Ent.rfl (aP.cons Ent.rfl (aP.cons Ent.rfl (aP.cons eF (aP.cons eF (aP.cons eF (aP.cons Ent.rfl aP.nil))))))))) (by intro s hs; simp only [List.mem_cons, List.not_mem_nil, or_false] at hs; rcases hs with rfl | rfl | rfl | rfl | rfl | rfl <;> rfl) ?_
 refine cV ?_
 cases H
 refine aH [] (by decide) ?_
 exact To
 refine Yg c1 (cO 1 rfl hh (fa rfl) rfl) ?_
 refine Yh 1 rfl c1 (bM rfl hh (sc rfl) rfl Ent.rfl) ?_
 refine Yg c1 (fT rfl hh (us rfl)) ?_
 refine Yg c1 (gY rfl hh hh) ?_
 refine Yy (cQ rfl hh c1 hh) ?_
 refine Z1 ?_
 revert H; refine is (fun c2 H => ?_) fun c2 H => ?_
 refine Yt c2 ?_
 refine Yt c2 ?_
 refine Yt c2 ?_
 refine Yt c2 ?_
 refine Yy (dQ rfl hh c2 hh) ?_
 refine Z6 ?_
 refine cY (φs' := [fSl aN a0.Free, fSl aL a0.Nodes, fSl aJ a0.Defs, aA .i64 a0.Main, fEq (.slice none 0 0), fEq (.slice none 0 0), fEq (.slice none 0 0), aK true]) trivial rfl rfl (has rfl) (has rfl) (aF trivial) (sz rfl) rfl rfl ?_
 refine Z6 ?_
 refine cW (φ := aG vP (⟨(⟨a0.Free, a0.Nodes, a0.Defs, a0.Main⟩ : ScopeProg), [], [], [], true⟩ : Ref03_look)) (v := ptr b2) [2, 10, 3, 27, 28, 30] (gU (aP.cons Ent.rfl (aP.cons Ent.rfl (aP.cons Ent.rfl (aP.cons Ent.rfl (aP.cons eF (aP.cons eF (aP.cons eF (aP.cons Ent.rfl aP.nil))))))))) (by intro s hs; simp only [List.mem_cons, List.not_mem_nil, or_false] at hs; rcases hs with rfl | rfl | rfl | rfl | rfl | rfl <;> rfl) ?_
 refine cV ?_
 cases H
 refine aH [] (by decide) ?_
 exact To
 refine Yg c2 (cO 2 rfl hh (fa rfl) rfl) ?_
 refine Yh 1 rfl c2 (bM rfl hh (sc rfl) rfl Ent.rfl) ?_
 refine Yg c2 (fT rfl hh (us rfl)) ?_
 refine Yg c2 (gY rfl hh hh) ?_
 refine Yy (cQ rfl hh c2 hh) ?_
 refine Z1 ?_
 revert H; refine is (fun c3 H => ?_) fun c3 H => ?_
 refine dP (has rfl) c3 ?_
 refine Z4 ?_
 refine cY (φs' := [fSl aN a0.Free, fSl aL a0.Nodes, fSl aJ a0.Defs, aA .i64 a0.Main, fEq (.slice none 0 0), fEq (.slice none 0 0), fEq (.slice none 0 0), aK true]) trivial rfl rfl (has rfl) (has rfl) (aF trivial) (sz rfl) rfl rfl ?_
 refine Z6 ?_
 refine cW (φ := aG vP (⟨(⟨a0.Free, a0.Nodes, a0.Defs, a0.Main⟩ : ScopeProg), [], [], [], true⟩ : Ref03_look)) (v := ptr b2) [2, 10, 3, 27, 28, 30] (gU (aP.cons Ent.rfl (aP.cons Ent.rfl (aP.cons Ent.rfl (aP.cons Ent.rfl (aP.cons eF (aP.cons eF (aP.cons eF (aP.cons Ent.rfl aP.nil))))))))) (by intro s hs; simp only [List.mem_cons, List.not_mem_nil, or_false] at hs; rcases hs with rfl | rfl | rfl | rfl | rfl | rfl <;> rfl) ?_
 refine cV ?_
 cases H
 refine aH [] (by decide) ?_
 exact To
 refine dN (has rfl) c3 ?_
 refine Z2 ?_
 revert H; refine bs fun o1 H Hr1 => ?_
 refine aT (ι := Bool) (fun i => o1 = i) (fun i => [(1, fEq (.pointer (some ⟨b1, 0, none⟩))), (3, fEq (.pointer (some ⟨b2, 0, none⟩)))]) (fun i => [aC b2 89 [fSl aN a0.Free, fSl aL a0.Nodes, fSl aJ a0.Defs, aA .i64 a0.Main, fEq (.slice none 0 0), fEq (.slice none 0 0), fEq (.slice none 0 0), aK i], aC b1 26 [fSl aN a0.Free, fSl aL a0.Nodes, fSl aJ a0.Defs, aA .i64 a0.Main]]) ?_ ?_
 refine Z4 ?_
 refine Tl (ι := Nat × Int × Bool) (fun i => jI fuel a0 i.1 i.2.1 i.2.2 = _) (fun i => i.1) (fun i => [(1, fEq (.pointer (some ⟨b1, 0, none⟩))), (3, fEq (.pointer (some ⟨b2, 0, none⟩))), (4, aA .i64 i.2.1)]) (fun i => [aC b2 89 [fSl aN a0.Free, fSl aL a0.Nodes, fSl aJ a0.Defs, aA .i64 a0.Main, fEq (.slice none 0 0), fEq (.slice none 0 0), fEq (.slice none 0 0), aK i.2.2], aC b1 26 [fSl aN a0.Free, fSl aL a0.Nodes, fSl aJ a0.Defs, aA .i64 a0.Main]]) (fuel, 0, false) H ?_
 clear H; rintro ⟨k1, x4, x5⟩ H
 replace H : jI fuel a0 k1 x4 x5 = _ := H
 try dsimp only
 obtain _ | k1 := k1
 rw [jI] at H; cases H
 rw [jI] at H
 refine aI ?_
 refine Z7 ?_
 revert H; refine is (fun c4 H => ?_) fun c4 H => ?_
 refine dP (has rfl) c4 ?_
 refine Z2 ?_
 revert H; refine bs fun o2 H Hr2 => ?_
 refine aT (ι := Bool) (fun i => o2 = i) (fun i => [(1, fEq (.pointer (some ⟨b1, 0, none⟩))), (3, fEq (.pointer (some ⟨b2, 0, none⟩))), (4, aA .i64 x4)]) (fun i => [aC b2 89 [fSl aN a0.Free, fSl aL a0.Nodes, fSl aJ a0.Defs, aA .i64 a0.Main, fEq (.slice none 0 0), fEq (.slice none 0 0), fEq (.slice none 0 0), aK i], aC b1 26 [fSl aN a0.Free, fSl aL a0.Nodes, fSl aJ a0.Defs, aA .i64 a0.Main]]) ?_ ?_
 refine Z1 ?_
 revert H; refine cs (fun c5 H => ?_) fun c5 H => ?_
 apply bG (ods := [_, _, _, _, _, _, _, _, _, _, _, _, _, _, _, _, _, _, _, _, _, _, _, _, _, _, _, _, _, _, _, _, _, _, _]) 35 0 2 bF rfl rfl rfl
 dsimp only [bA, List.take, List.replicate, List.append, List.drop]
 refine M6 ?_
 intros
 refine Mt c5 fun _ => ?_
 refine Mt c5 fun _ => ?_
 refine Mt c5 fun _ => ?_
 refine Mt c5 fun _ => ?_
 refine Mt c5 fun _ => ?_
 refine Mt c5 fun _ => ?_
 refine Mt c5 fun _ => ?_
 refine My (dQ rfl hh c5 hh) fun _ => ?_
 refine M4 ?_
 intros
 refine eO (od := odS) rfl (⟨_, _, _, _, rfl, rfl, rfl, nu⟩) rfl (fun _ => ?_)
 refine eO (od := odS) rfl (⟨_, _, _, _, rfl, rfl, rfl, nu⟩) rfl (fun _ => ?_)
 refine eO (od := odS) rfl (⟨_, _, _, _, rfl, rfl, rfl, nu⟩) rfl (fun _ => ?_)
 refine eO (od := odS) rfl (⟨_, _, _, _, rfl, rfl, rfl, nu⟩) rfl (fun _ => ?_)
 refine eO (od := odS) rfl (⟨_, _, _, _, rfl, rfl, rfl, nu⟩) rfl (fun _ => ?_)
 refine eO (od := odS) rfl (⟨_, _, _, _, rfl, rfl, rfl, nu⟩) rfl (fun _ => ?_)
 refine eO (od := odS) rfl (⟨_, _, _, _, rfl, rfl, rfl, nu⟩) rfl (fun _ => ?_)
 refine eO (od := odS) rfl (⟨_, _, _, _, rfl, rfl, rfl, nu⟩) rfl (fun _ => ?_)
 refine eO (od := odS) rfl (⟨_, _, _, _, rfl, rfl, rfl, nu⟩) rfl (fun _ => ?_)
 refine eO (od := odS) rfl (⟨_, _, _, _, rfl, rfl, rfl, nu⟩) rfl (fun _ => ?_)
 refine eO (od := odS) rfl (⟨_, _, _, _, rfl, rfl, rfl, nu⟩) rfl (fun _ => ?_)
 refine eO (od := odS) rfl (⟨_, _, _, _, rfl, rfl, rfl, nu⟩) rfl (fun _ => ?_)
 refine M4 ?_
 intros
 refine jY (od := odC [0] true (fAny) [aC b2 89 [fSl aN a0.Free, fSl aL a0.Nodes, fSl aJ a0.Defs, aA .i64 a0.Main, fEq (.slice none 0 0), fEq (.slice none 0 0), fEq (.slice none 0 0), aK true]]) (p := 0) (φs' := [fSl aN a0.Free, fSl aL a0.Nodes, fSl aJ a0.Defs, aA .i64 a0.Main, fEq (.slice none 0 0), fEq (.slice none 0 0), fEq (.slice none 0 0), aK true]) rfl (fun _ => rfl) (fun _ => rfl) trivial rfl rfl rfl (has rfl) (has rfl) (aF trivial) (sz rfl) rfl rfl (fun _ => ?_)
 refine Z4 ?_
 exact Tm (true) (ij H)
 exact fk
 kernel_rfl
 revert H; refine bs fun y1 h1 H => ?_
 revert H; refine bs fun y2 h2 H => ?_
 revert H; refine cs (fun c6 H => ?_) fun c6 H => ?_
 apply bG (ods := [_, _, _, _, _, _, _, _, _, _, _, _, _, _, _, _, _, _, _, _, _, _, _, _, _, _, _, _, _, _, _, _, _, _, _]) 35 0 2 bF rfl rfl rfl
 dsimp only [bA, List.take, List.replicate, List.append, List.drop]
 refine M6 ?_
 intros
 refine Mg c5 (cO 0 rfl hh (fa rfl) rfl) fun _ => ?_
 refine cU (od := odC [1] false (fSl aN a0.Free) [cK]) (ps := [1]) (φ := fSl aN a0.Free) rfl (fun _ => rfl) ⟨_, _, rfl, rfl, c5⟩ rfl rfl (bM rfl (has rfl) (sc rfl) rfl Ent.rfl) (fun _ => ?_)
 refine Mg c5 (bY rfl hh) fun _ => ?_
 refine Mg c5 (cG rfl hh hh (el rfl) h1) fun _ => ?_
 refine Mg c5 (fQ rfl hh (sc rfl) rfl) fun _ => ?_
 refine bP (od := odC [] true (aK y2) []) (Φ := aK y2) rfl (fun _ => rfl) ⟨_, _, rfl, rfl, c5⟩ rfl rfl (has rfl) (aD.cons (has rfl) aD.nil) rfl (cb rfl) (aBZ fuel y1 y2 h2) (fun _ => ?_)
 refine Mg c5 (kR rfl hh) fun _ => ?_
 refine My (cQ rfl hh c5 hh) fun _ => ?_
 refine M1 ?_
 intros
 refine Mt c6 fun _ => ?_
 refine Mt c6 fun _ => ?_
 refine Mt c6 fun _ => ?_
 refine eO (od := odS) rfl (⟨_, _, _, _, rfl, rfl, rfl, nu⟩) rfl (fun _ => ?_)
 refine eO (od := odS) rfl (⟨_, _, _, _, rfl, rfl, rfl, nu⟩) rfl (fun _ => ?_)
 refine eO (od := odS) rfl (⟨_, _, _, _, rfl, rfl, rfl, nu⟩) rfl (fun _ => ?_)
 refine eO (od := odS) rfl (⟨_, _, _, _, rfl, rfl, rfl, nu⟩) rfl (fun _ => ?_)
 refine eO (od := odS) rfl (⟨_, _, _, _, rfl, rfl, rfl, nu⟩) rfl (fun _ => ?_)
 refine eO (od := odS) rfl (⟨_, _, _, _, rfl, rfl, rfl, nu⟩) rfl (fun _ => ?_)
 refine eO (od := odS) rfl (⟨_, _, _, _, rfl, rfl, rfl, nu⟩) rfl (fun _ => ?_)
 refine eO (od := odS) rfl (⟨_, _, _, _, rfl, rfl, rfl, nu⟩) rfl (fun _ => ?_)
 refine eO (od := odS) rfl (⟨_, _, _, _, rfl, rfl, rfl, nu⟩) rfl (fun _ => ?_)
 refine eO (od := odS) rfl (⟨_, _, _, _, rfl, rfl, rfl, nu⟩) rfl (fun _ => ?_)
 refine eO (od := odS) rfl (⟨_, _, _, _, rfl, rfl, rfl, nu⟩) rfl (fun _ => ?_)
 refine eO (od := odS) rfl (⟨_, _, _, _, rfl, rfl, rfl, nu⟩) rfl (fun _ => ?_)
 refine Mt c6 fun _ => ?_
 refine My (dQ rfl hh c6 hh) fun _ => ?_
 refine M2 ?_
 intros
 refine jY (od := odC [0] true (fAny) [aC b2 89 [fSl aN a0.Free, fSl aL a0.Nodes, fSl aJ a0.Defs, aA .i64 a0.Main, fEq (.slice none 0 0), fEq (.slice none 0 0), fEq (.slice none 0 0), aK true]]) (p := 0) (φs' := [fSl aN a0.Free, fSl aL a0.Nodes, fSl aJ a0.Defs, aA .i64 a0.Main, fEq (.slice none 0 0), fEq (.slice none 0 0), fEq (.slice none 0 0), aK true]) rfl (fun _ => rfl) (fun _ => rfl) trivial rfl rfl rfl (has rfl) (has rfl) (aF trivial) (sz rfl) rfl rfl (fun _ => ?_)
 refine Z4 ?_
 exact Tm (true) (ij H)
 exact fk
 kernel_rfl
 revert H; refine is (fun c7 H => ?_) fun c7 H => ?_
 revert H; refine bs fun y3 h3 H => ?_
 revert H; refine bs fun z1 h4 H => ?_
 revert H; refine bs fun y4 h5 H => ?_
 apply bG (ods := [_, _, _, _, _, _, _, _, _, _, _, _, _, _, _, _, _, _, _, _, _, _, _, _, _, _, _, _, _, _, _, _, _, _, _]) 35 0 2 bF rfl rfl rfl
 dsimp only [bA, List.take, List.replicate, List.append, List.drop]
 refine M6 ?_
 intros
 refine Mg c5 (cO 0 rfl hh (fa rfl) rfl) fun _ => ?_
 refine cU (od := odC [1] false (fSl aN a0.Free) [cK]) (ps := [1]) (φ := fSl aN a0.Free) rfl (fun _ => rfl) ⟨_, _, rfl, rfl, c5⟩ rfl rfl (bM rfl (has rfl) (sc rfl) rfl Ent.rfl) (fun _ => ?_)
 refine Mg c5 (bY rfl hh) fun _ => ?_
 refine Mg c5 (cG rfl hh hh (el rfl) h1) fun _ => ?_
 refine Mg c5 (fQ rfl hh (sc rfl) rfl) fun _ => ?_
 refine bP (od := odC [] true (aK y2) []) (Φ := aK y2) rfl (fun _ => rfl) ⟨_, _, rfl, rfl, c5⟩ rfl rfl (has rfl) (aD.cons (has rfl) aD.nil) rfl (cb rfl) (aBZ fuel y1 y2 h2) (fun _ => ?_)
 refine Mg c5 (kR rfl hh) fun _ => ?_
 refine My (cQ rfl hh c5 hh) fun _ => ?_
 refine M1 ?_
 intros
 refine Mg c6 (bY rfl hh) fun _ => ?_
 refine Mg c6 (gY rfl hh hh) fun _ => ?_
 refine Mg c6 (bY rfl hh) fun _ => ?_
 refine Mg c7 (cO 0 rfl hh (fa rfl) rfl) fun _ => ?_
 refine cU (od := odC [1] false (fSl aN a0.Free) [cK]) (ps := [1]) (φ := fSl aN a0.Free) rfl (fun _ => rfl) ⟨_, _, rfl, rfl, c7⟩ rfl rfl (bM rfl (has rfl) (sc rfl) rfl Ent.rfl) (fun _ => ?_)
 refine Mg c7 (bY rfl hh) fun _ => ?_
 refine Mg c7 (cG rfl hh hh (el rfl) h3) fun _ => ?_
 refine Mg c7 (fQ rfl hh (sc rfl) rfl) fun _ => ?_
 refine Mg c7 (cO 0 rfl hh (fa rfl) rfl) fun _ => ?_
 refine cU (od := odC [1] false (fSl aN a0.Free) [cK]) (ps := [1]) (φ := fSl aN a0.Free) rfl (fun _ => rfl) ⟨_, _, rfl, rfl, c7⟩ rfl rfl (bM rfl (has rfl) (sc rfl) rfl Ent.rfl) (fun _ => ?_)
 refine Mg c7 (bY rfl hh) fun _ => ?_
 refine Mg c7 (o_sub rfl hh hh h4) fun _ => ?_
 refine Mg c7 (cG rfl hh hh (el rfl) h5) fun _ => ?_
 refine Mg c7 (fQ rfl hh (sc rfl) rfl) fun _ => ?_
 refine Mg c7 (o_leqS rfl hh hh) fun _ => ?_
 refine Mg c6 (dQ rfl hh c7 hh) fun _ => ?_
 refine My (cQ rfl hh c6 hh) fun _ => ?_
 refine M2 ?_
 intros
 refine jY (od := odC [0] true (fAny) [aC b2 89 [fSl aN a0.Free, fSl aL a0.Nodes, fSl aJ a0.Defs, aA .i64 a0.Main, fEq (.slice none 0 0), fEq (.slice none 0 0), fEq (.slice none 0 0), aK (sle y3 y4)]]) (p := 0) (φs' := [fSl aN a0.Free, fSl aL a0.Nodes, fSl aJ a0.Defs, aA .i64 a0.Main, fEq (.slice none 0 0), fEq (.slice none 0 0), fEq (.slice none 0 0), aK (sle y3 y4)]) rfl (fun _ => rfl) (fun _ => rfl) trivial rfl rfl rfl (has rfl) (has rfl) (aF trivial) (sz rfl) rfl rfl (fun _ => ?_)
 refine Z4 ?_
 exact Tm (sle y3 y4) (ij H)
 exact fk
 kernel_rfl
 apply bG (ods := [_, _, _, _, _, _, _, _, _, _, _, _, _, _, _, _, _, _, _, _, _, _, _, _, _, _, _, _, _, _, _, _, _, _, _]) 35 0 2 bF rfl rfl rfl
 dsimp only [bA, List.take, List.replicate, List.append, List.drop]
 refine M6 ?_
 intros
 refine Mg c5 (cO 0 rfl hh (fa rfl) rfl) fun _ => ?_
 refine cU (od := odC [1] false (fSl aN a0.Free) [cK]) (ps := [1]) (φ := fSl aN a0.Free) rfl (fun _ => rfl) ⟨_, _, rfl, rfl, c5⟩ rfl rfl (bM rfl (has rfl) (sc rfl) rfl Ent.rfl) (fun _ => ?_)
 refine Mg c5 (bY rfl hh) fun _ => ?_
 refine Mg c5 (cG rfl hh hh (el rfl) h1) fun _ => ?_
 refine Mg c5 (fQ rfl hh (sc rfl) rfl) fun _ => ?_
 refine bP (od := odC [] true (aK y2) []) (Φ := aK y2) rfl (fun _ => rfl) ⟨_, _, rfl, rfl, c5⟩ rfl rfl (has rfl) (aD.cons (has rfl) aD.nil) rfl (cb rfl) (aBZ fuel y1 y2 h2) (fun _ => ?_)
 refine Mg c5 (kR rfl hh) fun _ => ?_
 refine My (cQ rfl hh c5 hh) fun _ => ?_
 refine M1 ?_
 intros
 refine Mg c6 (bY rfl hh) fun _ => ?_
 refine Mg c6 (gY rfl hh hh) fun _ => ?_
 refine Mg c6 (bY rfl hh) fun _ => ?_
 refine Mz c7 fun _ => ?_
 refine Mz c7 fun _ => ?_
 refine Mz c7 fun _ => ?_
 refine Mz c7 fun _ => ?_
 refine Mz c7 fun _ => ?_
 refine Mz c7 fun _ => ?_
 refine Mz c7 fun _ => ?_
 refine Mz c7 fun _ => ?_
 refine Mz c7 fun _ => ?_
 refine Mz c7 fun _ => ?_
 refine Mz c7 fun _ => ?_
 refine Mz c7 fun _ => ?_
 refine Mg c6 (cQ rfl hh c7 hh) fun _ => ?_
 refine My (cQ rfl hh c6 hh) fun _ => ?_
 refine M2 ?_
 intros
 refine jY (od := odC [0] true (fAny) [aC b2 89 [fSl aN a0.Free, fSl aL a0.Nodes, fSl aJ a0.Defs, aA .i64 a0.Main, fEq (.slice none 0 0), fEq (.slice none 0 0), fEq (.slice none 0 0), aK false]]) (p := 0) (φs' := [fSl aN a0.Free, fSl aL a0.Nodes, fSl aJ a0.Defs, aA .i64 a0.Main, fEq (.slice none 0 0), fEq (.slice none 0 0), fEq (.slice none 0 0), aK false]) rfl (fun _ => rfl) (fun _ => rfl) trivial rfl rfl rfl (has rfl) (has rfl) (aF trivial) (sz rfl) rfl rfl (fun _ => ?_)
 refine Z4 ?_
 exact Tm (false) (ij H)
 exact fk
 kernel_rfl
 clear H; intro x6 hi; subst o2; have H := Hr2; clear Hr2; try dsimp only at H
 try dsimp only
 refine Z2 ?_
 revert H; refine bs fun z2 h6 H => ?_
 refine Yy (fO rfl hh hh h6) ?_
 refine Z2 ?_
 exact Tm ((k1, z2, x6)) ⟨H, ls⟩
 refine dN (has rfl) c4 ?_
 refine Z5 ?_
 exact Tm (x5) (ij H)
 clear H; intro x1 hi; subst o1; have H := Hr1; clear Hr1; try dsimp only at H
 try dsimp only
 revert H; refine bs fun o3 H Hr3 => ?_
 refine aT (ι := Bool) (fun i => o3 = i) (fun i => [(1, fEq (.pointer (some ⟨b1, 0, none⟩))), (3, fEq (.pointer (some ⟨b2, 0, none⟩)))]) (fun i => [aC b2 89 [fSl aN a0.Free, fSl aL a0.Nodes, fSl aJ a0.Defs, aA .i64 a0.Main, fEq (.slice none 0 0), fEq (.slice none 0 0), fEq (.slice none 0 0), aK i], aC b1 26 [fSl aN a0.Free, fSl aL a0.Nodes, fSl aJ a0.Defs, aA .i64 a0.Main]]) ?_ ?_
 refine Z4 ?_
 refine Tl (ι := Nat × Int × Bool) (fun i => kP fuel a0 i.1 i.2.1 i.2.2 = _) (fun i => i.1) (fun i => [(1, fEq (.pointer (some ⟨b1, 0, none⟩))), (3, fEq (.pointer (some ⟨b2, 0, none⟩))), (5, aA .i64 i.2.1)]) (fun i => [aC b2 89 [fSl aN a0.Free, fSl aL a0.Nodes, fSl aJ a0.Defs, aA .i64 a0.Main, fEq (.slice none 0 0), fEq (.slice none 0 0), fEq (.slice none 0 0), aK i.2.2], aC b1 26 [fSl aN a0.Free, fSl aL a0.Nodes, fSl aJ a0.Defs, aA .i64 a0.Main]]) (fuel, 0, x1) H ?_
 clear H; rintro ⟨k2, x10, x11⟩ H
 replace H : kP fuel a0 k2 x10 x11 = _ := H
 try dsimp only
 obtain _ | k2 := k2
 rw [kP] at H; cases H
 rw [kP] at H
 refine aI ?_
 refine Z7 ?_
 revert H; refine is (fun c8 H => ?_) fun c8 H => ?_
 refine dP (has rfl) c8 ?_
 refine Z2 ?_
 revert H; refine bs fun o4 H Hr4 => ?_
 refine aT (ι := Bool) (fun i => o4 = i) (fun i => [(1, fEq (.pointer (some ⟨b1, 0, none⟩))), (3, fEq (.pointer (some ⟨b2, 0, none⟩))), (5, aA .i64 x10)]) (fun i => [aC b2 89 [fSl aN a0.Free, fSl aL a0.Nodes, fSl aJ a0.Defs, aA .i64 a0.Main, fEq (.slice none 0 0), fEq (.slice none 0 0), fEq (.slice none 0 0), aK i], aC b1 26 [fSl aN a0.Free, fSl aL a0.Nodes, fSl aJ a0.Defs, aA .i64 a0.Main]]) ?_ ?_
 refine Z8 ?_
 revert H; refine cs (fun c9 H => ?_) fun c9 H => ?_
 refine Yt c9 ?_
 refine Yt c9 ?_
 refine Yt c9 ?_
 refine Yt c9 ?_
 refine Yt c9 ?_
 refine Yt c9 ?_
 refine Yt c9 ?_
 refine Yy (dQ rfl hh c9 hh) ?_
 refine Z2 ?_
 refine cY (φs' := [fSl aN a0.Free, fSl aL a0.Nodes, fSl aJ a0.Defs, aA .i64 a0.Main, fEq (.slice none 0 0), fEq (.slice none 0 0), fEq (.slice none 0 0), aK true]) trivial rfl rfl (has rfl) (has rfl) (aF trivial) (sz rfl) rfl rfl ?_
 refine Z3 ?_
 exact Tm (true) (ij H)
 refine Yg c9 (cO 2 rfl hh (fa rfl) rfl) ?_
 refine Yh 1 rfl c9 (bM rfl hh (sc rfl) rfl Ent.rfl) ?_
 refine Yg c9 (bY rfl hh) ?_
 revert H; refine bs fun y5 h7 H => ?_
 refine Yg c9 (cG rfl hh hh (el rfl) h7) ?_
 refine Yg c9 (aAM rfl hh (ag rfl)) ?_
 revert H; refine bs fun y6 h8 H => ?_
 refine Tc (aHi _ _ _ h8) ?_
 refine Yg c9 (kR rfl hh) ?_
 refine Yy (cQ rfl hh c9 hh) ?_
 refine Z2 ?_
 refine cY (φs' := [fSl aN a0.Free, fSl aL a0.Nodes, fSl aJ a0.Defs, aA .i64 a0.Main, fEq (.slice none 0 0), fEq (.slice none 0 0), fEq (.slice none 0 0), aK (!y6)]) trivial rfl rfl (has rfl) (has rfl) (aF trivial) (sz rfl) rfl rfl ?_
 refine Z3 ?_
 exact Tm (!y6) (ij H)
 clear H; intro x12 hi; subst o4; have H := Hr4; clear Hr4; try dsimp only at H
 try dsimp only
 refine Z2 ?_
 revert H; refine bs fun z3 h9 H => ?_
 refine Yy (fO rfl hh hh h9) ?_
 refine Z2 ?_
 exact Tm ((k2, z3, x12)) ⟨H, ls⟩
 refine dN (has rfl) c8 ?_
 refine Z5 ?_
 exact Tm (x11) (ij H)
 clear H; intro x7 hi; subst o3; have H := Hr3; clear Hr3; try dsimp only at H
 try dsimp only
 refine aI ?_
 revert H; refine bs fun y7 h10 H => ?_
 revert H; refine bs fun y8 h11 H => ?_
 revert H; refine bs fun y9 h12 H => ?_
 apply bG (ods := [_, _, _, _, _, _, _, _, _, _, _, _, _, _, _, _, _, _, _, _, _, _, _, _]) 24 3 5 bF rfl rfl rfl
 dsimp only [bA, List.take, List.replicate, List.append, List.drop]
 refine M6 ?_
 intros
 refine Mn 2 (fun b3 => .slice (some ⟨b3, 0, none⟩) y7.length y7.length) (fun b3 => aE (.slice (some ⟨b3, 0, none⟩) y7.length y7.length) 3 (aB .i64) y7) rfl (kU (t := (aB .i64)) (z := 0) rfl (has rfl) (et rfl) rfl sO rfl h10) (fun b3 u1 => ?_)
 refine M3 ?_
 intros
 refine Mn 3 (fun b4 => .slice (some ⟨b4, 0, none⟩) y8.length y8.length) (fun b4 => aE (.slice (some ⟨b4, 0, none⟩) y8.length y8.length) 3 (aB .i64) y8) rfl (kU (t := (aB .i64)) (z := 0) rfl (has rfl) (et rfl) rfl sO rfl h11) (fun b4 u2 => ?_)
 refine M3 ?_
 intros
 refine Mn 4 (fun b5 => .slice (some ⟨b5, 0, none⟩) y9.length y9.length) (fun b5 => aE (.slice (some ⟨b5, 0, none⟩) y9.length y9.length) 3 (aB .i64) y9) rfl (kU (t := (aB .i64)) (z := 0) rfl (has rfl) (et rfl) rfl sO rfl h12) (fun b5 u3 => ?_)
 refine M2 ?_
 intros
 refine jY (od := od1 6 [0] true (fun b3 _ => fAny) (fun b3 _ => [aC b2 89 [fSl aN a0.Free, fSl aL a0.Nodes, fSl aJ a0.Defs, aA .i64 a0.Main, fEq (.slice (some ⟨b3, 0, none⟩) y7.length y7.length), fEq (.slice none 0 0), fEq (.slice none 0 0), aK x7]])) (p := 0) (φs' := [fSl aN a0.Free, fSl aL a0.Nodes, fSl aJ a0.Defs, aA .i64 a0.Main, fEq (.slice (some ⟨b3, 0, none⟩) y7.length y7.length), fEq (.slice none 0 0), fEq (.slice none 0 0), aK x7]) rfl (fun _ => rfl) (fun _ => rfl) trivial rfl rfl rfl (has rfl) (has rfl) (aF trivial) (sz rfl) rfl rfl (fun _ => ?_)
 refine M2 ?_
 intros
 refine jY (od := od2 6 10 [0] true (fun b3 _ b4 _ => fAny) (fun b3 _ b4 _ => [aC b2 89 [fSl aN a0.Free, fSl aL a0.Nodes, fSl aJ a0.Defs, aA .i64 a0.Main, fEq (.slice (some ⟨b3, 0, none⟩) y7.length y7.length), fEq (.slice (some ⟨b4, 0, none⟩) y8.length y8.length), fEq (.slice none 0 0), aK x7]])) (p := 0) (φs' := [fSl aN a0.Free, fSl aL a0.Nodes, fSl aJ a0.Defs, aA .i64 a0.Main, fEq (.slice (some ⟨b3, 0, none⟩) y7.length y7.length), fEq (.slice (some ⟨b4, 0, none⟩) y8.length y8.length), fEq (.slice none 0 0), aK x7]) rfl (fun _ => rfl) (fun _ => rfl) trivial rfl rfl rfl (has rfl) (has rfl) (aF trivial) (sz rfl) rfl rfl (fun _ => ?_)
 refine M2 ?_
 intros
 refine jY (od := od3 6 10 14 [0] true (fun b3 _ b4 _ b5 _ => fAny) (fun b3 _ b4 _ b5 _ => [aC b2 89 [fSl aN a0.Free, fSl aL a0.Nodes, fSl aJ a0.Defs, aA .i64 a0.Main, fEq (.slice (some ⟨b3, 0, none⟩) y7.length y7.length), fEq (.slice (some ⟨b4, 0, none⟩) y8.length y8.length), fEq (.slice (some ⟨b5, 0, none⟩) y9.length y9.length), aK x7]])) (p := 0) (φs' := [fSl aN a0.Free, fSl aL a0.Nodes, fSl aJ a0.Defs, aA .i64 a0.Main, fEq (.slice (some ⟨b3, 0, none⟩) y7.length y7.length), fEq (.slice (some ⟨b4, 0, none⟩) y8.length y8.length), fEq (.slice (some ⟨b5, 0, none⟩) y9.length y9.length), aK x7]) rfl (fun _ => rfl) (fun _ => rfl) trivial rfl rfl rfl (has rfl) (has rfl) (aF trivial) (sz rfl) rfl rfl (fun _ => ?_)
 refine Z1 ?_
 generalize hv_v1 : (Value.slice (some ⟨b3, 0, none⟩) _ _) = v1; clear hv_v1
 refine aO 2 rfl (fun hc_v1 => ?_)
 generalize hv_v2 : (Value.slice (some ⟨b4, 0, none⟩) _ _) = v2; clear hv_v2
 refine aO 3 rfl (fun hc_v2 => ?_)
 generalize hv_v3 : (Value.slice (some ⟨b5, 0, none⟩) _ _) = v3; clear hv_v3
 refine aO 4 rfl (fun hc_v3 => ?_)
 refine Z1 ?_
 refine aI ?_
 refine Z6 ?_
 revert H; refine cs (fun c10 H => ?_) fun c10 H => ?_
 refine dP (has rfl) c10 ?_
 refine Z5 ?_
 refine eB ?_
 refine cW (φ := fSl (aB .i64) y7) (v := v1) [101] cR (by intro s hs; simp only [List.mem_cons, List.not_mem_nil, or_false] at hs; rcases hs with rfl <;> rfl) ?_
 refine gX (φs' := [fSl aN a0.Free, fSl aL a0.Nodes, fSl aJ a0.Defs, aA .i64 a0.Main, fSl (aB .i64) y7, fEq v2, fEq v3, aK x7]) (i := 4) rfl rfl ?_
 refine cV ?_
 refine eB ?_
 refine cW (φ := fSl (aB .i64) y8) (v := v2) [105] cR (by intro s hs; simp only [List.mem_cons, List.not_mem_nil, or_false] at hs; rcases hs with rfl <;> rfl) ?_
 refine gX (φs' := [fSl aN a0.Free, fSl aL a0.Nodes, fSl aJ a0.Defs, aA .i64 a0.Main, fSl (aB .i64) y7, fSl (aB .i64) y8, fEq v3, aK x7]) (i := 5) rfl rfl ?_
 refine cV ?_
 refine eB ?_
 refine cW (φ := fSl (aB .i64) y9) (v := v3) [109] cR (by intro s hs; simp only [List.mem_cons, List.not_mem_nil, or_false] at hs; rcases hs with rfl <;> rfl) ?_
 refine gX (φs' := [fSl aN a0.Free, fSl aL a0.Nodes, fSl aJ a0.Defs, aA .i64 a0.Main, fSl (aB .i64) y7, fSl (aB .i64) y8, fSl (aB .i64) y9, aK x7]) (i := 6) rfl rfl ?_
 refine cV ?_
 refine cW (φ := aG vP (⟨(⟨a0.Free, a0.Nodes, a0.Defs, a0.Main⟩ : ScopeProg), y7, y8, y9, x7⟩ : Ref03_look)) (v := ptr b2) [3, 95, 96, 97, 110, 112, 114, 116, 117, 120, 2] (gU aP.rfl) (by intro s hs; simp only [List.mem_cons, List.not_mem_nil, or_false] at hs; rcases hs with rfl | rfl | rfl | rfl | rfl | rfl | rfl | rfl | rfl | rfl | rfl <;> rfl) ?_
 refine cV ?_
 cases H
 refine aH [] (by decide) ?_
 exact To
 refine dN (has rfl) c10 ?_
 refine Z9 ?_
 refine bL ?_
 refine bL ?_
 refine bL ?_
 refine dD ?_
 refine gD (x := (⟨(⟨a0.Free, a0.Nodes, a0.Defs, a0.Main⟩ : ScopeProg), y7, y8, y9, x7⟩ : Ref03_look)) ?_
 revert H; refine bs fun y10 h13 H => ?_
 refine Tc (aGu _ _ _ _ _ _ h13) ?_
 refine sQ (fun v4 v5 v6 => ?_)
 refine aO 1 rfl (fun hc_v4 => ?_)
 refine aO 2 rfl (fun hc_v5 => ?_)
 refine aO 3 rfl (fun hc_v6 => ?_)
 refine Z1 ?_
 revert H; refine bs fun o5 H Hr5 => ?_
 refine aT (ι := Bool) (fun i => o5 = i) (fun i => [(3, fEq (.pointer (some ⟨b2, 0, none⟩)))]) (fun i => [aC b2 89 [fSl aN y10.p.Free, fSl aL y10.p.Nodes, fSl aJ y10.p.Defs, aA .i64 y10.p.Main, fEq v4, fEq v5, fEq v6, aK i], aC b1 26 [fSl aN a0.Free, fSl aL a0.Nodes, fSl aJ a0.Defs, aA .i64 a0.Main], aE v4 3 (aB .i64) y10.sizes, aE v5 3 (aB .i64) y10.owner, aE v6 3 (aB .i64) y10.users]) ?_ ?_
 refine Z4 ?_
 refine aH [0, 4, 1, 2, 3] (by decide) ?_
 refine Tl (ι := Nat × Int × Bool) (fun i => kD y10 i.1 i.2.1 i.2.2 = _) (fun i => i.1) (fun i => [(3, fEq (.pointer (some ⟨b2, 0, none⟩))), (6, aA .i64 i.2.1)]) (fun i => [aC b2 89 [fSl aN y10.p.Free, fSl aL y10.p.Nodes, fSl aJ y10.p.Defs, aA .i64 y10.p.Main, fEq v4, fEq v5, fEq v6, aK i.2.2], aC b1 26 [fSl aN a0.Free, fSl aL a0.Nodes, fSl aJ a0.Defs, aA .i64 a0.Main], aE v4 3 (aB .i64) y10.sizes, aE v5 3 (aB .i64) y10.owner, aE v6 3 (aB .i64) y10.users]) (fuel, 0, y10.bad) H ?_
 clear H; rintro ⟨k3, x16, x17⟩ H
 replace H : kD y10 k3 x16 x17 = _ := H
 try dsimp only
 obtain _ | k3 := k3
 rw [kD] at H; cases H
 rw [kD] at H
 refine aI ?_
 refine Z9 ?_
 revert H; refine is (fun c11 H => ?_) fun c11 H => ?_
 refine dP (has rfl) c11 ?_
 refine Z2 ?_
 revert H; refine bs fun o6 H Hr6 => ?_
 refine aT (ι := Bool) (fun i => o6 = i) (fun i => [(3, fEq (.pointer (some ⟨b2, 0, none⟩))), (6, aA .i64 x16)]) (fun i => [aC b2 89 [fSl aN y10.p.Free, fSl aL y10.p.Nodes, fSl aJ y10.p.Defs, aA .i64 y10.p.Main, fEq v4, fEq v5, fEq v6, aK i], aC b1 26 [fSl aN a0.Free, fSl aL a0.Nodes, fSl aJ a0.Defs, aA .i64 a0.Main], aE v4 3 (aB .i64) y10.sizes, aE v5 3 (aB .i64) y10.owner, aE v6 3 (aB .i64) y10.users]) ?_ ?_
 refine Z8 ?_
 revert H; refine cs (fun c12 H => ?_) fun c12 H => ?_
 refine Yt c12 ?_
 refine Yt c12 ?_
 refine Yt c12 ?_
 refine Yt c12 ?_
 refine Yt c12 ?_
 refine Yt c12 ?_
 refine Yt c12 ?_
 refine Yt c12 ?_
 refine Yy (dQ rfl hh c12 hh) ?_
 refine Z2 ?_
 refine cY (φs' := [fSl aN y10.p.Free, fSl aL y10.p.Nodes, fSl aJ y10.p.Defs, aA .i64 y10.p.Main, fEq v4, fEq v5, fEq v6, aK true]) trivial rfl rfl (has rfl) (has rfl) (aF trivial) (sz rfl) rfl rfl ?_
 refine Z3 ?_
 exact Tm (true) (ij H)
 refine Yg c12 (bY rfl hh) ?_
 refine Yg c12 (kE rfl (has rfl) (fun m v h => ⟨_, h⟩)) ?_
 refine Yg c12 (cO 5 rfl hh (fa rfl) rfl) ?_
 refine Yh 0 rfl c12 (bM rfl hh (sc rfl) rfl Ent.rfl) ?_
 refine Yg c12 (bY rfl hh) ?_
 revert H; refine bs fun y11 h14 H => ?_
 refine Yh 3 rfl c12 (jJ rfl hh hh (el rfl) h14) ?_
 refine Yh 3 rfl c12 (iN rfl rfl hh (sc rfl) (bW h14) rfl) ?_
 refine Yg c12 (o_eql rfl hh hh) ?_
 refine Yy (cQ rfl hh c12 hh) ?_
 refine Z2 ?_
 refine cY (φs' := [fSl aN y10.p.Free, fSl aL y10.p.Nodes, fSl aJ y10.p.Defs, aA .i64 y10.p.Main, fEq v4, fEq v5, fEq v6, aK (decide (y11 = 0))]) trivial rfl rfl (has rfl) (has rfl) (aF trivial) (sz rfl) rfl rfl ?_
 refine Z3 ?_
 exact Tm (decide (y11 = 0)) (ij H)
 clear H; intro x18 hi; subst o6; have H := Hr6; clear Hr6; try dsimp only at H
 try dsimp only
 refine Z2 ?_
 revert H; refine bs fun z4 h15 H => ?_
 refine Yy (fO rfl hh hh h15) ?_
 refine Z2 ?_
 exact Tm ((k3, z4, x18)) ⟨H, ls⟩
 refine dN (has rfl) c11 ?_
 refine Z5 ?_
 exact Tm (x17) (ij H)
 clear H; intro x13 hi; subst o5; have H := Hr5; clear Hr5; try dsimp only at H
 try dsimp only
 revert H; refine bs fun o7 H Hr7 => ?_
 refine aT (ι := Bool) (fun i => o7 = i) (fun i => [(3, fEq (.pointer (some ⟨b2, 0, none⟩)))]) (fun i => [aC b2 89 [fSl aN y10.p.Free, fSl aL y10.p.Nodes, fSl aJ y10.p.Defs, aA .i64 y10.p.Main, fEq v4, fEq v5, fEq v6, aK i], aC b1 26 [fSl aN a0.Free, fSl aL a0.Nodes, fSl aJ a0.Defs, aA .i64 a0.Main], aE v4 3 (aB .i64) y10.sizes, aE v5 3 (aB .i64) y10.owner, aE v6 3 (aB .i64) y10.users]) ?_ ?_
 refine Z4 ?_
 refine Tl (ι := Nat × Int × Bool) (fun i => kC y10 i.1 i.2.1 i.2.2 = _) (fun i => i.1) (fun i => [(3, fEq (.pointer (some ⟨b2, 0, none⟩))), (7, aA .i64 i.2.1)]) (fun i => [aC b2 89 [fSl aN y10.p.Free, fSl aL y10.p.Nodes, fSl aJ y10.p.Defs, aA .i64 y10.p.Main, fEq v4, fEq v5, fEq v6, aK i.2.2], aC b1 26 [fSl aN a0.Free, fSl aL a0.Nodes, fSl aJ a0.Defs, aA .i64 a0.Main], aE v4 3 (aB .i64) y10.sizes, aE v5 3 (aB .i64) y10.owner, aE v6 3 (aB .i64) y10.users]) (fuel, 0, x13) H ?_
 clear H; rintro ⟨k4, x22, x23⟩ H
 replace H : kC y10 k4 x22 x23 = _ := H
 try dsimp only
 obtain _ | k4 := k4
 rw [kC] at H; cases H
 rw [kC] at H
 refine aI ?_
 refine Z9 ?_
 revert H; refine is (fun c13 H => ?_) fun c13 H => ?_
 refine dP (has rfl) c13 ?_
 refine Z2 ?_
 revert H; refine bs fun o8 H Hr8 => ?_
 refine aT (ι := Bool) (fun i => o8 = i) (fun i => [(3, fEq (.pointer (some ⟨b2, 0, none⟩))), (7, aA .i64 x22)]) (fun i => [aC b2 89 [fSl aN y10.p.Free, fSl aL y10.p.Nodes, fSl aJ y10.p.Defs, aA .i64 y10.p.Main, fEq v4, fEq v5, fEq v6, aK i], aC b1 26 [fSl aN a0.Free, fSl aL a0.Nodes, fSl aJ a0.Defs, aA .i64 a0.Main], aE v4 3 (aB .i64) y10.sizes, aE v5 3 (aB .i64) y10.owner, aE v6 3 (aB .i64) y10.users]) ?_ ?_
 refine Z8 ?_
 revert H; refine cs (fun c14 H => ?_) fun c14 H => ?_
 refine Yt c14 ?_
 refine Yt c14 ?_
 refine Yt c14 ?_
 refine Yt c14 ?_
 refine Yt c14 ?_
 refine Yt c14 ?_
 refine Yt c14 ?_
 refine Yt c14 ?_
 refine Yy (dQ rfl hh c14 hh) ?_
 refine Z2 ?_
 refine cY (φs' := [fSl aN y10.p.Free, fSl aL y10.p.Nodes, fSl aJ y10.p.Defs, aA .i64 y10.p.Main, fEq v4, fEq v5, fEq v6, aK true]) trivial rfl rfl (has rfl) (has rfl) (aF trivial) (sz rfl) rfl rfl ?_
 refine Z3 ?_
 exact Tm (true) (ij H)
 refine Yg c14 (bY rfl hh) ?_
 refine Yg c14 (kE rfl (has rfl) (fun m v h => ⟨_, h⟩)) ?_
 refine Yg c14 (cO 6 rfl hh (fa rfl) rfl) ?_
 refine Yh 0 rfl c14 (bM rfl hh (sc rfl) rfl Ent.rfl) ?_
 refine Yg c14 (bY rfl hh) ?_
 revert H; refine bs fun y12 h16 H => ?_
 refine Yh 4 rfl c14 (jJ rfl hh hh (el rfl) h16) ?_
 refine Yh 4 rfl c14 (iN rfl rfl hh (sc rfl) (bW h16) rfl) ?_
 refine Yg c14 (o_eql rfl hh hh) ?_
 refine Yy (cQ rfl hh c14 hh) ?_
 refine Z2 ?_
 refine cY (φs' := [fSl aN y10.p.Free, fSl aL y10.p.Nodes, fSl aJ y10.p.Defs, aA .i64 y10.p.Main, fEq v4, fEq v5, fEq v6, aK (decide (y12 = 0))]) trivial rfl rfl (has rfl) (has rfl) (aF trivial) (sz rfl) rfl rfl ?_
 refine Z3 ?_
 exact Tm (decide (y12 = 0)) (ij H)
 clear H; intro x24 hi; subst o8; have H := Hr8; clear Hr8; try dsimp only at H
 try dsimp only
 refine Z2 ?_
 revert H; refine bs fun z5 h17 H => ?_
 refine Yy (fO rfl hh hh h17) ?_
 refine Z2 ?_
 exact Tm ((k4, z5, x24)) ⟨H, ls⟩
 refine dN (has rfl) c13 ?_
 refine Z5 ?_
 exact Tm (x23) (ij H)
 clear H; intro x19 hi; subst o7; have H := Hr7; clear Hr7; try dsimp only at H
 try dsimp only
 refine Z5 ?_
 refine eB ?_
 refine cW (φ := fSl (aB .i64) y10.sizes) (v := v4) [] cR (fun _ h => nomatch h) ?_
 refine gX (φs' := [fSl aN y10.p.Free, fSl aL y10.p.Nodes, fSl aJ y10.p.Defs, aA .i64 y10.p.Main, fSl (aB .i64) y10.sizes, fEq v5, fEq v6, aK x19]) (i := 4) rfl rfl ?_
 refine cV ?_
 refine eB ?_
 refine cW (φ := fSl (aB .i64) y10.owner) (v := v5) [] cR (fun _ h => nomatch h) ?_
 refine gX (φs' := [fSl aN y10.p.Free, fSl aL y10.p.Nodes, fSl aJ y10.p.Defs, aA .i64 y10.p.Main, fSl (aB .i64) y10.sizes, fSl (aB .i64) y10.owner, fEq v6, aK x19]) (i := 5) rfl rfl ?_
 refine cV ?_
 refine eB ?_
 refine cW (φ := fSl (aB .i64) y10.users) (v := v6) [] cR (fun _ h => nomatch h) ?_
 refine gX (φs' := [fSl aN y10.p.Free, fSl aL y10.p.Nodes, fSl aJ y10.p.Defs, aA .i64 y10.p.Main, fSl (aB .i64) y10.sizes, fSl (aB .i64) y10.owner, fSl (aB .i64) y10.users, aK x19]) (i := 6) rfl rfl ?_
 refine cV ?_
 refine cW (φ := aG vP (⟨(⟨y10.p.Free, y10.p.Nodes, y10.p.Defs, y10.p.Main⟩ : ScopeProg), y10.sizes, y10.owner, y10.users, x19⟩ : Ref03_look)) (v := ptr b2) [3, 180, 2] (gU aP.rfl) (by intro s hs; simp only [List.mem_cons, List.not_mem_nil, or_false] at hs; rcases hs with rfl | rfl | rfl <;> rfl) ?_
 refine cV ?_
 cases H
 refine aH [] (by decide) ?_
 exact To
 exact fk
 kernel_rfl
def xB (fuel : Nat) (a0 : ScopeProg) : Option (Int) :=
 (uX fuel (⟨a0.Free, a0.Nodes, a0.Defs, a0.Main⟩ : ScopeProg)).bind fun y1 =>
 bif y1.bad then
  some 2
 else
  some 0
theorem aF9 (fuel : Nat)  (a0 : ScopeProg) (r : Int) (H : xB fuel a0 = some r) : FnS Tryz.prog 19 [fSt dG a0] [] (aA .i64 r) (fun _ => []) := by
 unfold xB at H
 refine bK Tryz.func19 rfl Tryz.ntmps19 rfl (fun β => ?_)
 refine Z1 ?_
 refine aR trivial rfl rfl (cF rfl (has rfl) bO) (fun b1 => ?_)
 refine Z2 ?_
 refine aI ?_
 refine Z2 ?_
 revert H; refine bs fun y1 h1 H => ?_
 refine Tc (aEG _ _ _ h1) ?_
 refine Z4 ?_
 revert H; refine cs (fun c1 H => ?_) fun c1 H => ?_
 refine Z5 ?_
 cases H
 refine aH [] (by decide) ?_
 exact To
 refine Z7 ?_
 cases H
 refine aH [] (by decide) ?_
 exact To
end Go.Proofs.YtmnbfgeljmhekaaGreat
set_option maxRecDepth 100000
set_option maxHeartbeats 2000000
namespace Go.Proofs.YtmnbfgeljmhekaaGreat
open Go.SX Go.SW Go.Dt
attribute [local irreducible] Code.wpIn wpListIn Exit.then Exit.inBlock
def tY (fuel : Nat) (a0 : ScopeProg) : Option (List Int) :=
 (uX fuel (⟨a0.Free, a0.Nodes, a0.Defs, a0.Main⟩ : ScopeProg)).bind fun y1 =>
 some y1.sizes
theorem aH4 (fuel : Nat)  (a0 : ScopeProg) (r : List Int) (H : tY fuel a0 = some r) : FnS Tryz.prog 22 [fSt dG a0] [] (fSl (aB .i64) r) (fun _ => []) := by
 unfold tY at H
 refine bK Tryz.func22 rfl Tryz.ntmps22 rfl (fun β => ?_)
 refine Z1 ?_
 refine aR trivial rfl rfl (cF rfl (has rfl) bO) (fun b1 => ?_)
 refine Z4 ?_
 revert H; refine bs fun y1 h1 H => ?_
 refine Tc (aEG _ _ _ h1) ?_
 refine Z6 ?_
 cases H
 refine aH [] (by decide) ?_
 exact To
def mH (a1 : Int) : Nat → (List Ref05_Chan) → Int → Option (List Ref05_Chan)
| 0, _, _ => none
| k + 1, x4, x5 =>
 if x5 < a1 then
  (eA (x4 ++ [(⟨(-1), 0⟩ : Ref05_Chan)])).bind fun z2 =>
  (chk (x5 + 1)).bind fun z3 =>
  mH a1 k z2 z3
 else
  some x4
def sX (fuel : Nat) (a0 : List Ref05_Chan) (a1 : Int) : Option (List Ref05_Chan) :=
 (eA (([] : List Ref05_Chan) ++ a0)).bind fun z1 =>
 (mH a1 fuel z1 0).bind fun x1 =>
 some x1
theorem aBK (fuel : Nat)  (a0 : List Ref05_Chan) (a1 : Int) (r : List Ref05_Chan) (H : sX fuel a0 a1 = some r) : FnS Tryz.prog 71 [fSl cP a0, aA .i64 a1] [] (fSl cP r) (fun _ => []) := by
 unfold sX at H
 refine bK Tryz.func71 rfl Tryz.ntmps71 rfl (fun β => ?_)
 refine Z4 ?_
 refine aR trivial rfl rfl (cC (t := cP) (xs := ([] : List Ref05_Chan)) rfl (et rfl) aQ.nil rfl rfl rfl) (fun b1 => ?_)
 generalize hv_v1 : (Value.slice (some ⟨b1, 0, none⟩) _ _) = v1; clear hv_v1
 refine aO 0 rfl (fun hc_v1 => ?_)
 refine Z1 ?_
 revert H; refine bs fun z1 h1 H => ?_
 refine uI (ys := a0) trivial rfl rfl rfl (has rfl) (has rfl) (et rfl) rfl h1 (fun v2 => ?_)
 refine aO 0 rfl (fun hc_v2 => ?_)
 refine Z2 ?_
 revert H; refine bs fun o1 H Hr1 => ?_
 refine aT (ι := List Ref05_Chan × Value) (fun i => o1 = i.1) (fun i => [(5, fEq i.2)]) (fun i => [aE i.2 126 cP i.1]) ?_ ?_
 refine Z4 ?_
 refine Tl (ι := Nat × List Ref05_Chan × Int × Value) (fun i => mH a1 i.1 i.2.1 i.2.2.1 = _) (fun i => i.1) (fun i => [(1, aA .i64 a1), (5, fEq i.2.2.2), (6, aA .i64 i.2.2.1)]) (fun i => [aE i.2.2.2 126 cP i.2.1]) (fuel, z1, 0, v2) H ?_
 clear H; rintro ⟨k1, x4, x5, v5⟩ H
 replace H : mH a1 k1 x4 x5 = _ := H
 try dsimp only
 obtain _ | k1 := k1
 rw [mH] at H; cases H
 rw [mH] at H
 refine aO 0 rfl (fun hc_v5 => ?_)
 refine aI ?_
 refine Z5 ?_
 revert H; refine is (fun c1 H => ?_) fun c1 H => ?_
 refine Z3 ?_
 refine aI ?_
 refine Z3 ?_
 refine Yy (dS (ψs := [aA .i64 (-1), aA .i64 0]) rfl aDF rfl (aX.cons (has rfl) (aS (aF trivial)) aX.nil) rfl) ?_
 refine aR trivial rfl rfl (cC (t := cP) (xs := [(⟨(-1), 0⟩ : Ref05_Chan)]) rfl (et rfl) (aQ.cons rfl (has rfl) bO aQ.nil) rfl rfl rfl) (fun b2 => ?_)
 generalize hv_v6 : (Value.slice (some ⟨b2, 0, none⟩) _ _) = v6; clear hv_v6
 refine aO 0 rfl (fun hc_v6 => ?_)
 revert H; refine bs fun z2 h2 H => ?_
 refine lX trivial rfl rfl rfl (has rfl) (has rfl) (et rfl) rfl h2 (fun v7 => ?_)
 refine aO 0 rfl (fun hc_v7 => ?_)
 refine Z6 ?_
 revert H; refine bs fun z3 h3 H => ?_
 refine Z3 ?_
 exact Tm ((k1, z2, z3, v7)) ⟨H, ls⟩
 refine Z6 ?_
 exact Tm ((x4, v5)) (ij H)
 clear H; intro i hi; obtain ⟨x1, v3⟩ := i; subst o1; have H := Hr1; clear Hr1; try dsimp only at H
 try dsimp only
 refine aO 0 rfl (fun hc_v3 => ?_)
 refine Z5 ?_
 refine cW (φ := fSl cP x1) (v := v3) [5, 19, 4] cR (by intro s hs; simp only [List.mem_cons, List.not_mem_nil, or_false] at hs; rcases hs with rfl | rfl | rfl <;> rfl) ?_
 refine cV ?_
 cases H
 exact To
end Go.Proofs.YtmnbfgeljmhekaaGreat
set_option maxRecDepth 100000
set_option maxHeartbeats 2000000
namespace Go.Proofs.YtmnbfgeljmhekaaGreat
open Go.SX Go.SW Go.Dt
attribute [local irreducible] Code.wpIn wpListIn Exit.then Exit.inBlock
def oG (rec_r05_Look_fill : Ref05_Look → Int → (List Ref05_Chan) → Option (Ref05_Look)) (a2 : List Ref05_Chan) (y2 : ScopeNode) : Nat → Int → (List ByteArray) → (List ScopeNode) → (List ScopeDef) → Int → (List (List Ref05_Chan)) → (List Int) → (List Int) → Option (List ByteArray × List ScopeNode × List ScopeDef × Int × List (List Ref05_Chan) × List Int × List Int)
| 0, _, _, _, _, _, _, _, _ => none
| k + 1, x16, x17, x18, x19, x20, x21, x22, x23 =>
 if x16 < (y2.Kids.length : Int) then
  (idx y2.Kids x16).bind fun y3 =>
  (rec_r05_Look_fill (⟨(⟨x17, x18, x19, x20⟩ : ScopeProg), x21, x22, x23⟩ : Ref05_Look) y3 a2).bind fun y4 =>
  (chk (x16 + 1)).bind fun z1 =>
  oG rec_r05_Look_fill a2 y2 k z1 y4.p.Free y4.p.Nodes y4.p.Defs y4.p.Main y4.Envs y4.Sizes y4.Heads
 else
  some (x17, x18, x19, x20, x21, x22, x23)
def mT (y2 : ScopeNode) (y6 : ScopeDef) : Nat → (List Ref05_Chan) → Int → Option (List Ref05_Chan)
| 0, _, _ => none
| k + 1, x27, x28 =>
 if x28 < (y6.Chans.length : Int) then
  (eA (x27 ++ [(⟨y2.N, x28⟩ : Ref05_Chan)])).bind fun z3 =>
  (chk (x28 + 1)).bind fun z4 =>
  mT y2 y6 k z3 z4
 else
  some x27
def mM (y6 : ScopeDef) (x44 : Int) : Nat → Int → Int → Option (Int)
| 0, _, _ => none
| k + 1, x62, x63 =>
 (idx y6.Rules x44).bind fun y8 =>
 if x63 < (y8.Joins.length : Int) then
  (idx y6.Rules x44).bind fun y9 =>
  (idx y9.Joins x63).bind fun y10 =>
  (idx y6.Chans y10).bind fun y11 =>
  (chk (x62 + y11.Many)).bind fun z5 =>
  (chk (x63 + 1)).bind fun z6 =>
  mM y6 x44 k z5 z6
 else
  some x62
def nD (fuel : Nat) (rec_r05_Look_fill : Ref05_Look → Int → (List Ref05_Chan) → Option (Ref05_Look)) (y6 : ScopeDef) (y7 : List Ref05_Chan) : Nat → Int → (List ByteArray) → (List ScopeNode) → (List ScopeDef) → Int → (List (List Ref05_Chan)) → (List Int) → (List Int) → Option (List ByteArray × List ScopeNode × List ScopeDef × Int × List (List Ref05_Chan) × List Int × List Int)
| 0, _, _, _, _, _, _, _, _ => none
| k + 1, x44, x45, x46, x47, x48, x49, x50, x51 =>
 if x44 < (y6.Rules.length : Int) then
  ((mM y6 x44 fuel 0 0).bind fun x59 =>
  (idx y6.Rules x44).bind fun y12 =>
  (sX fuel y7 x59).bind fun y13 =>
  (rec_r05_Look_fill (⟨(⟨x45, x46, x47, x48⟩ : ScopeProg), x49, x50, x51⟩ : Ref05_Look) y12.Node y13).bind fun y14 =>
  some (y14.p.Free, y14.p.Nodes, y14.p.Defs, y14.p.Main, y14.Envs, y14.Sizes, y14.Heads)).bind fun (x52, x53, x54, x55, x56, x57, x58) =>
  (chk (x44 + 1)).bind fun z7 =>
  nD fuel rec_r05_Look_fill y6 y7 k z7 x52 x53 x54 x55 x56 x57 x58
 else
  some (x45, x46, x47, x48, x49, x50, x51)
def mA (rec_r05_Look_fill : Ref05_Look → Int → (List Ref05_Chan) → Option (Ref05_Look)) (y6 : ScopeDef) (y7 : List Ref05_Chan) : Nat → Int → (List ByteArray) → (List ScopeNode) → (List ScopeDef) → Int → (List (List Ref05_Chan)) → (List Int) → (List Int) → Option (List ByteArray × List ScopeNode × List ScopeDef × Int × List (List Ref05_Chan) × List Int × List Int)
| 0, _, _, _, _, _, _, _, _ => none
| k + 1, x79, x80, x81, x82, x83, x84, x85, x86 =>
 if x79 < (y6.Spots.length : Int) then
  (idx y6.Spots x79).bind fun y15 =>
  (rec_r05_Look_fill (⟨(⟨x80, x81, x82, x83⟩ : ScopeProg), x84, x85, x86⟩ : Ref05_Look) y15.Node y7).bind fun y16 =>
  (chk (x79 + 1)).bind fun z8 =>
  mA rec_r05_Look_fill y6 y7 k z8 y16.p.Free y16.p.Nodes y16.p.Defs y16.p.Main y16.Envs y16.Sizes y16.Heads
 else
  some (x80, x81, x82, x83, x84, x85, x86)
def fN : Nat → Ref05_Look → Int → (List Ref05_Chan) → Option (Ref05_Look)
| 0, _, _, _ => none
| fuel + 1, a0, a1, a2 =>
 (idx a0.Envs a1).bind fun y1 =>
 (idx a0.p.Nodes a1).bind fun y2 =>
 (if y2.Op ≠ 4 then
  (oG (fN fuel) a2 y2 fuel 0 a0.p.Free a0.p.Nodes a0.p.Defs a0.p.Main (a0.Envs.set a1.toNat a2) a0.Sizes a0.Heads).bind fun (x1, x2, x3, x4, x5, x6, x7) =>
  (some (⟨(⟨x1, x2, x3, x4⟩ : ScopeProg), x5, x6, x7⟩ : Ref05_Look)).bind fun r => some (Sum.inr r)
 else
  some (Sum.inl ())).bind fun o => match o with
 | Sum.inr r => some r
 | Sum.inl _ =>
 (idx a0.Heads y2.N).bind fun y5 =>
 (idx a0.p.Defs y2.N).bind fun y6 =>
 (eA (([] : List Ref05_Chan) ++ a2)).bind fun z2 =>
 (mT y2 y6 fuel z2 0).bind fun x24 =>
 (sX fuel x24 (y6.Spots.length : Int)).bind fun y7 =>
 (nD fuel (fN fuel) y6 y7 fuel 0 a0.p.Free a0.p.Nodes a0.p.Defs a0.p.Main (a0.Envs.set a1.toNat a2) a0.Sizes (a0.Heads.set y2.N.toNat a1)).bind fun (x29, x30, x31, x32, x33, x34, x35) =>
 (mA (fN fuel) y6 y7 fuel 0 x29 x30 x31 x32 x33 x34 x35).bind fun (x64, x65, x66, x67, x68, x69, x70) =>
 (idx y2.Kids 0).bind fun y17 =>
 ((fN fuel) (⟨(⟨x64, x65, x66, x67⟩ : ScopeProg), x68, x69, x70⟩ : Ref05_Look) y17 y7).bind fun y18 =>
 some (⟨(⟨y18.p.Free, y18.p.Nodes, y18.p.Defs, y18.p.Main⟩ : ScopeProg), y18.Envs, y18.Sizes, y18.Heads⟩ : Ref05_Look)
theorem aGU : ∀ (fuel : Nat), (∀ (p0 : Nat) (a0 : Ref05_Look) (a1 : Int) (a2 : List Ref05_Chan) (r : Ref05_Look) (H : fN fuel a0 a1 a2 = some r), FnS Tryz.prog 70 [fEq (.pointer (some ⟨p0, 0, none⟩)), aA .i64 a1, fSl cP a2] [xQ p0 a0] (dC []) (fun _ => [xQ p0 r])) := by
 intro fuel
 induction fuel with
 | zero => exact fun p0 a0 a1 a2 r H => (by rw [fN] at H; cases H)
 | succ fuel ih =>
 have ih_r05_Look_fill := ih
 refine ?_
 intro p0 a0 a1 a2 r H
 rw [fN] at H
 refine bK Tryz.func70 rfl Tryz.ntmps70 rfl (fun β => ?_)
 refine uY (fun v1 v2 => ?_)
 refine aO 1 rfl (fun hc_v1 => ?_)
 refine aO 2 rfl (fun hc_v2 => ?_)
 refine Z7 ?_
 revert H; refine bs fun y1 h1 H => ?_
 refine Z1 ?_
 refine cA ?_
 refine rJ (z' := a2) trivial rfl rfl rfl (has rfl) (has rfl) (bB) (sz rfl) (bW h1) rfl rfl ?_
 refine Z8 ?_
 revert H; refine bs fun y2 h2 H => ?_
 refine Z2 ?_
 refine aR trivial rfl rfl (cB rfl iS rfl) (fun b1 => ?_)
 refine dB (φs' := [aA .i64 y2.Op, aA .i64 y2.N, fSl aW y2.Args, fSl (aB .i64) y2.Kids]) trivial rfl rfl (has rfl) (has rfl) (aM (aF trivial) (aM (aF trivial) (aM (bB) (aM (bB) bR)))) (sz rfl) rfl rfl rfl ?_
 refine Z1 ?_
 revert H; refine bs fun o1 H Hr1 => ?_
 refine aT (ι := Unit) (fun i => o1 = Sum.inl ()) (fun i => [(0, fEq (.pointer (some ⟨p0, 0, none⟩))), (1, aA .i64 a1), (2, fSl cP a2), (6, fEq (.pointer (some ⟨b1, 0, none⟩)))]) (fun i => [aC b1 51 [aA .i64 y2.Op, aA .i64 y2.N, fSl aW y2.Args, fSl (aB .i64) y2.Kids], aC p0 74 [fSl aN a0.p.Free, fSl aL a0.p.Nodes, fSl aJ a0.p.Defs, aA .i64 a0.p.Main, fEq v1, fSl (aB .i64) a0.Sizes, fEq v2], aE v1 118 (tSl cP) (a0.Envs.set a1.toNat a2), aE v2 3 (aB .i64) a0.Heads]) ?_ ?_
 refine Z5 ?_
 revert H; refine is (fun c1 H => ?_) fun c1 H => ?_
 refine Z1 ?_
 revert H; refine bs fun o2 H Hr2 => ?_
 refine aT (ι := List ByteArray × List ScopeNode × List ScopeDef × Int × List (List Ref05_Chan) × List Int × List Int × Value × Value) (fun i => o2 = (i.1, i.2.1, i.2.2.1, i.2.2.2.1, i.2.2.2.2.1, i.2.2.2.2.2.1, i.2.2.2.2.2.2.1)) (fun i => [(0, fEq (.pointer (some ⟨p0, 0, none⟩)))]) (fun i => [aC b1 51 [aA .i64 y2.Op, aA .i64 y2.N, fSl aW y2.Args, fSl (aB .i64) y2.Kids], aC p0 74 [fSl aN i.1, fSl aL i.2.1, fSl aJ i.2.2.1, aA .i64 i.2.2.2.1, fEq i.2.2.2.2.2.2.2.1, fSl (aB .i64) i.2.2.2.2.2.1, fEq i.2.2.2.2.2.2.2.2], aE i.2.2.2.2.2.2.2.1 118 (tSl cP) i.2.2.2.2.1, aE i.2.2.2.2.2.2.2.2 3 (aB .i64) i.2.2.2.2.2.2.1]) ?_ ?_
 refine Z4 ?_
 refine aH [0, 2, 1, 3] (by decide) ?_
 refine Tl (ι := Nat × Int × List ByteArray × List ScopeNode × List ScopeDef × Int × List (List Ref05_Chan) × List Int × List Int × Value × Value) (fun i => oG (fN fuel) a2 y2 i.1 i.2.1 i.2.2.1 i.2.2.2.1 i.2.2.2.2.1 i.2.2.2.2.2.1 i.2.2.2.2.2.2.1 i.2.2.2.2.2.2.2.1 i.2.2.2.2.2.2.2.2.1 = _) (fun i => i.1) (fun i => [(0, fEq (.pointer (some ⟨p0, 0, none⟩))), (2, fSl cP a2), (6, fEq (.pointer (some ⟨b1, 0, none⟩))), (7, aA .i64 i.2.1)]) (fun i => [aC b1 51 [aA .i64 y2.Op, aA .i64 y2.N, fSl aW y2.Args, fSl (aB .i64) y2.Kids], aC p0 74 [fSl aN i.2.2.1, fSl aL i.2.2.2.1, fSl aJ i.2.2.2.2.1, aA .i64 i.2.2.2.2.2.1, fEq i.2.2.2.2.2.2.2.2.2.1, fSl (aB .i64) i.2.2.2.2.2.2.2.1, fEq i.2.2.2.2.2.2.2.2.2.2], aE i.2.2.2.2.2.2.2.2.2.1 118 (tSl cP) i.2.2.2.2.2.2.1, aE i.2.2.2.2.2.2.2.2.2.2 3 (aB .i64) i.2.2.2.2.2.2.2.2.1]) (fuel, 0, a0.p.Free, a0.p.Nodes, a0.p.Defs, a0.p.Main, a0.Envs.set a1.toNat a2, a0.Sizes, a0.Heads, v1, v2) H ?_
 clear H; rintro ⟨k1, x16, x17, x18, x19, x20, x21, x22, x23, v7, v8⟩ H
 replace H : oG (fN fuel) a2 y2 k1 x16 x17 x18 x19 x20 x21 x22 x23 = _ := H
 try dsimp only
 obtain _ | k1 := k1
 rw [oG] at H; cases H
 rw [oG] at H
 refine aO 2 rfl (fun hc_v7 => ?_)
 refine aO 3 rfl (fun hc_v8 => ?_)
 refine aI ?_
 refine Z7 ?_
 revert H; refine is (fun c2 H => ?_) fun c2 H => ?_
 refine Z3 ?_
 refine aI ?_
 refine Z6 ?_
 revert H; refine bs fun y3 h3 H => ?_
 refine Z3 ?_
 refine dD ?_
 refine dD ?_
 refine dD ?_
 refine sP (x := (⟨(⟨x17, x18, x19, x20⟩ : ScopeProg), x21, x22, x23⟩ : Ref05_Look)) ?_
 revert H; refine bs fun y4 h4 H => ?_
 refine Tc (ih_r05_Look_fill _ _ _ _ _ h4) ?_
 refine uY (fun v9 v10 => ?_)
 refine aO 1 rfl (fun hc_v9 => ?_)
 refine aO 2 rfl (fun hc_v10 => ?_)
 refine Z5 ?_
 revert H; refine bs fun z1 h5 H => ?_
 refine Z3 ?_
 refine aH [3, 0, 1, 2] (by decide) ?_
 exact Tm ((k1, z1, y4.p.Free, y4.p.Nodes, y4.p.Defs, y4.p.Main, y4.Envs, y4.Sizes, y4.Heads, v9, v10)) ⟨H, ls⟩
 refine Z6 ?_
 exact Tm ((x17, x18, x19, x20, x21, x22, x23, v7, v8)) (ij H)
 clear H; intro i hi; obtain ⟨x1, x2, x3, x4, x5, x6, x7, v3, v4⟩ := i; subst o2; have H := Hr2; clear Hr2; try dsimp only at H
 try dsimp only
 refine aO 2 rfl (fun hc_v3 => ?_)
 refine aO 3 rfl (fun hc_v4 => ?_)
 refine Z1 ?_
 revert H; refine bs fun r1 H e1 => ?_
 cases e1; cases Hr1
 refine dD ?_
 refine dD ?_
 refine dD ?_
 refine sP (x := (⟨(⟨x1, x2, x3, x4⟩ : ScopeProg), x5, x6, x7⟩ : Ref05_Look)) ?_
 cases H
 refine aH [0] (by decide) ?_
 exact eX (.inl rfl) rfl rfl
 refine Z3 ?_
 refine aH [0, 2, 1, 3] (by decide) ?_
 exact Tm (()) (ij H)
 clear H; intro i hi; subst o1; have H := Hr1; clear Hr1; try dsimp only at H
 try dsimp only
 refine aI ?_
 revert H; refine bs fun y5 h6 H => ?_
 apply bG (ods := [_, _, _, _, _, _, _, _, _]) 9 0 4 bF rfl rfl rfl
 dsimp only [bA, List.take, List.replicate, List.append, List.drop]
 refine M8 ?_
 intros
 refine rH (od := odC [3] true (fAny) [aE v2 3 (aB .i64) (a0.Heads.set y2.N.toNat a1)]) (p := 3) (z' := a1) rfl (fun _ => rfl) (fun _ => rfl) trivial rfl rfl rfl rfl (has rfl) (has rfl) (aF trivial) (sz rfl) (bW h6) rfl rfl (fun _ => ?_)
 refine Z2 ?_
 refine aI ?_
 revert H; refine bs fun y6 h7 H => ?_
 apply bG (ods := [_, _, _, _, _, _, _, _, _, _, _]) 11 1 5 bF rfl rfl rfl
 dsimp only [bA, List.take, List.replicate, List.append, List.drop]
 refine M8 ?_
 intros
 refine M1 ?_
 intros
 refine Mn 4 (fun b2 => ptr b2) (fun b2 => aC b2 99 [fEq (.slice none 0 0), fEq (.slice none 0 0), fEq (.slice none 0 0)]) rfl (cB rfl jW rfl) (fun b2 u1 => ?_)
 refine pB (od := od1 9 [4] true (fun b2 _ => fAny) (fun b2 _ => [aC b2 99 [fSl aY y6.Chans, fSl bI y6.Spots, fSl bC y6.Rules]])) (p := 4) (φs' := [fSl aY y6.Chans, fSl bI y6.Spots, fSl bC y6.Rules]) rfl (fun _ => rfl) (fun _ => rfl) trivial rfl rfl rfl (has rfl) (has rfl) (aM (bB) (aM (bB) (aM (bB) bR))) (sz rfl) rfl rfl rfl (fun _ => ?_)
 refine Z3 ?_
 refine aR trivial rfl rfl (cC (t := cP) (xs := ([] : List Ref05_Chan)) rfl (et rfl) aQ.nil rfl rfl rfl) (fun b3 => ?_)
 generalize hv_v11 : (Value.slice (some ⟨b3, 0, none⟩) _ _) = v11; clear hv_v11
 refine aO 0 rfl (fun hc_v11 => ?_)
 refine Z1 ?_
 revert H; refine bs fun z2 h8 H => ?_
 refine uI (ys := a2) trivial rfl rfl rfl (has rfl) (has rfl) (et rfl) rfl h8 (fun v12 => ?_)
 refine aO 0 rfl (fun hc_v12 => ?_)
 refine Z2 ?_
 revert H; refine bs fun o3 H Hr3 => ?_
 refine aT (ι := List Ref05_Chan × Value) (fun i => o3 = i.1) (fun i => [(0, fEq (.pointer (some ⟨p0, 0, none⟩))), (6, fEq (.pointer (some ⟨b1, 0, none⟩))), (8, fEq (.pointer (some ⟨b2, 0, none⟩))), (9, fEq i.2)]) (fun i => [aC b1 51 [aA .i64 y2.Op, aA .i64 y2.N, fSl aW y2.Args, fSl (aB .i64) y2.Kids], aC p0 74 [fSl aN a0.p.Free, fSl aL a0.p.Nodes, fSl aJ a0.p.Defs, aA .i64 a0.p.Main, fEq v1, fSl (aB .i64) a0.Sizes, fEq v2], aC b2 99 [fSl aY y6.Chans, fSl bI y6.Spots, fSl bC y6.Rules], aE i.2 126 cP i.1, aE v1 118 (tSl cP) (a0.Envs.set a1.toNat a2), aE v2 3 (aB .i64) (a0.Heads.set y2.N.toNat a1)]) ?_ ?_
 refine Z4 ?_
 refine aH [1, 2, 5, 0, 3, 4] (by decide) ?_
 refine Tl (ι := Nat × List Ref05_Chan × Int × Value) (fun i => mT y2 y6 i.1 i.2.1 i.2.2.1 = _) (fun i => i.1) (fun i => [(0, fEq (.pointer (some ⟨p0, 0, none⟩))), (6, fEq (.pointer (some ⟨b1, 0, none⟩))), (8, fEq (.pointer (some ⟨b2, 0, none⟩))), (9, fEq i.2.2.2), (10, aA .i64 i.2.2.1)]) (fun i => [aC b1 51 [aA .i64 y2.Op, aA .i64 y2.N, fSl aW y2.Args, fSl (aB .i64) y2.Kids], aC p0 74 [fSl aN a0.p.Free, fSl aL a0.p.Nodes, fSl aJ a0.p.Defs, aA .i64 a0.p.Main, fEq v1, fSl (aB .i64) a0.Sizes, fEq v2], aC b2 99 [fSl aY y6.Chans, fSl bI y6.Spots, fSl bC y6.Rules], aE i.2.2.2 126 cP i.2.1, aE v1 118 (tSl cP) (a0.Envs.set a1.toNat a2), aE v2 3 (aB .i64) (a0.Heads.set y2.N.toNat a1)]) (fuel, z2, 0, v12) H ?_
 clear H; rintro ⟨k2, x27, x28, v15⟩ H
 replace H : mT y2 y6 k2 x27 x28 = _ := H
 try dsimp only
 obtain _ | k2 := k2
 rw [mT] at H; cases H
 rw [mT] at H
 refine aO 3 rfl (fun hc_v15 => ?_)
 refine aI ?_
 refine Z7 ?_
 revert H; refine is (fun c3 H => ?_) fun c3 H => ?_
 refine Z3 ?_
 refine aI ?_
 refine Z6 ?_
 refine Yy (dS (ψs := [aA .i64 y2.N, aA .i64 x28]) rfl aDF rfl (aX.cons (has rfl) (aS (aF trivial)) (aX.cons (has rfl) (aS (aF trivial)) aX.nil)) rfl) ?_
 refine aR trivial rfl rfl (cC (t := cP) (xs := [(⟨y2.N, x28⟩ : Ref05_Chan)]) rfl (et rfl) (aQ.cons rfl (has rfl) bO aQ.nil) rfl rfl rfl) (fun b4 => ?_)
 generalize hv_v16 : (Value.slice (some ⟨b4, 0, none⟩) _ _) = v16; clear hv_v16
 refine aO 0 rfl (fun hc_v16 => ?_)
 revert H; refine bs fun z3 h9 H => ?_
 refine bL ?_
 refine cA ?_
 refine lX trivial rfl rfl rfl (has rfl) (has rfl) (et rfl) rfl h9 (fun v17 => ?_)
 refine aO 0 rfl (fun hc_v17 => ?_)
 refine Z6 ?_
 revert H; refine bs fun z4 h10 H => ?_
 refine Z3 ?_
 refine aH [1, 2, 3, 0, 4, 5] (by decide) ?_
 exact Tm ((k2, z3, z4, v17)) ⟨H, ls⟩
 refine Z6 ?_
 exact Tm ((x27, v15)) (ij H)
 clear H; intro i hi; obtain ⟨x24, v13⟩ := i; subst o3; have H := Hr3; clear Hr3; try dsimp only at H
 try dsimp only
 refine aO 3 rfl (fun hc_v13 => ?_)
 refine Z5 ?_
 refine dD ?_
 refine cW (φ := fSl cP x24) (v := v13) [9, 82] cR (by intro s hs; simp only [List.mem_cons, List.not_mem_nil, or_false] at hs; rcases hs with rfl | rfl <;> rfl) ?_
 refine cV ?_
 revert H; refine bs fun y7 h11 H => ?_
 refine Tc (aBK _ _ _ _ h11) ?_
 refine Z2 ?_
 revert H; refine bs fun o4 H Hr4 => ?_
 refine aT (ι := List ByteArray × List ScopeNode × List ScopeDef × Int × List (List Ref05_Chan) × List Int × List Int × Value × Value) (fun i => o4 = (i.1, i.2.1, i.2.2.1, i.2.2.2.1, i.2.2.2.2.1, i.2.2.2.2.2.1, i.2.2.2.2.2.2.1)) (fun i => [(0, fEq (.pointer (some ⟨p0, 0, none⟩))), (6, fEq (.pointer (some ⟨b1, 0, none⟩))), (8, fEq (.pointer (some ⟨b2, 0, none⟩))), (9, fSl cP y7)]) (fun i => [aC b1 51 [aA .i64 y2.Op, aA .i64 y2.N, fSl aW y2.Args, fSl (aB .i64) y2.Kids], aC p0 74 [fSl aN i.1, fSl aL i.2.1, fSl aJ i.2.2.1, aA .i64 i.2.2.2.1, fEq i.2.2.2.2.2.2.2.1, fSl (aB .i64) i.2.2.2.2.2.1, fEq i.2.2.2.2.2.2.2.2], aC b2 99 [fSl aY y6.Chans, fSl bI y6.Spots, fSl bC y6.Rules], aE i.2.2.2.2.2.2.2.1 118 (tSl cP) i.2.2.2.2.1, aE i.2.2.2.2.2.2.2.2 3 (aB .i64) i.2.2.2.2.2.2.1]) ?_ ?_
 refine Z4 ?_
 refine Tl (ι := Nat × Int × List ByteArray × List ScopeNode × List ScopeDef × Int × List (List Ref05_Chan) × List Int × List Int × Value × Value) (fun i => nD fuel (fN fuel) y6 y7 i.1 i.2.1 i.2.2.1 i.2.2.2.1 i.2.2.2.2.1 i.2.2.2.2.2.1 i.2.2.2.2.2.2.1 i.2.2.2.2.2.2.2.1 i.2.2.2.2.2.2.2.2.1 = _) (fun i => i.1) (fun i => [(0, fEq (.pointer (some ⟨p0, 0, none⟩))), (6, fEq (.pointer (some ⟨b1, 0, none⟩))), (8, fEq (.pointer (some ⟨b2, 0, none⟩))), (9, fSl cP y7), (11, aA .i64 i.2.1)]) (fun i => [aC b1 51 [aA .i64 y2.Op, aA .i64 y2.N, fSl aW y2.Args, fSl (aB .i64) y2.Kids], aC p0 74 [fSl aN i.2.2.1, fSl aL i.2.2.2.1, fSl aJ i.2.2.2.2.1, aA .i64 i.2.2.2.2.2.1, fEq i.2.2.2.2.2.2.2.2.2.1, fSl (aB .i64) i.2.2.2.2.2.2.2.1, fEq i.2.2.2.2.2.2.2.2.2.2], aC b2 99 [fSl aY y6.Chans, fSl bI y6.Spots, fSl bC y6.Rules], aE i.2.2.2.2.2.2.2.2.2.1 118 (tSl cP) i.2.2.2.2.2.2.1, aE i.2.2.2.2.2.2.2.2.2.2 3 (aB .i64) i.2.2.2.2.2.2.2.2.1]) (fuel, 0, a0.p.Free, a0.p.Nodes, a0.p.Defs, a0.p.Main, a0.Envs.set a1.toNat a2, a0.Sizes, a0.Heads.set y2.N.toNat a1, v1, v2) H ?_
 clear H; rintro ⟨k3, x44, x45, x46, x47, x48, x49, x50, x51, v22, v23⟩ H
 replace H : nD fuel (fN fuel) y6 y7 k3 x44 x45 x46 x47 x48 x49 x50 x51 = _ := H
 try dsimp only
 obtain _ | k3 := k3
 rw [nD] at H; cases H
 rw [nD] at H
 refine aO 3 rfl (fun hc_v22 => ?_)
 refine aO 4 rfl (fun hc_v23 => ?_)
 refine aI ?_
 refine Z7 ?_
 revert H; refine is (fun c4 H => ?_) fun c4 H => ?_
 refine Z3 ?_
 revert H; refine bs fun o5 H Hr5 => ?_
 refine aT (ι := List ByteArray × List ScopeNode × List ScopeDef × Int × List (List Ref05_Chan) × List Int × List Int × Value × Value) (fun i => o5 = (i.1, i.2.1, i.2.2.1, i.2.2.2.1, i.2.2.2.2.1, i.2.2.2.2.2.1, i.2.2.2.2.2.2.1)) (fun i => [(0, fEq (.pointer (some ⟨p0, 0, none⟩))), (6, fEq (.pointer (some ⟨b1, 0, none⟩))), (8, fEq (.pointer (some ⟨b2, 0, none⟩))), (9, fSl cP y7), (11, aA .i64 x44)]) (fun i => [aC p0 74 [fSl aN i.1, fSl aL i.2.1, fSl aJ i.2.2.1, aA .i64 i.2.2.2.1, fEq i.2.2.2.2.2.2.2.1, fSl (aB .i64) i.2.2.2.2.2.1, fEq i.2.2.2.2.2.2.2.2], aC b1 51 [aA .i64 y2.Op, aA .i64 y2.N, fSl aW y2.Args, fSl (aB .i64) y2.Kids], aC b2 99 [fSl aY y6.Chans, fSl bI y6.Spots, fSl bC y6.Rules], aE i.2.2.2.2.2.2.2.1 118 (tSl cP) i.2.2.2.2.1, aE i.2.2.2.2.2.2.2.2 3 (aB .i64) i.2.2.2.2.2.2.1]) ?_ ?_
 refine Z4 ?_
 revert H; refine bs fun o6 H Hr6 => ?_
 refine aT (ι := Int) (fun i => o6 = i) (fun i => [(0, fEq (.pointer (some ⟨p0, 0, none⟩))), (6, fEq (.pointer (some ⟨b1, 0, none⟩))), (8, fEq (.pointer (some ⟨b2, 0, none⟩))), (9, fSl cP y7), (11, aA .i64 x44), (12, aA .i64 i)]) (fun i => [aC b1 51 [aA .i64 y2.Op, aA .i64 y2.N, fSl aW y2.Args, fSl (aB .i64) y2.Kids], aC p0 74 [fSl aN x45, fSl aL x46, fSl aJ x47, aA .i64 x48, fEq v22, fSl (aB .i64) x50, fEq v23], aC b2 99 [fSl aY y6.Chans, fSl bI y6.Spots, fSl bC y6.Rules], aE v22 118 (tSl cP) x49, aE v23 3 (aB .i64) x51]) ?_ ?_
 refine Z4 ?_
 refine Tl (ι := Nat × Int × Int) (fun i => mM y6 x44 i.1 i.2.1 i.2.2 = _) (fun i => i.1) (fun i => [(0, fEq (.pointer (some ⟨p0, 0, none⟩))), (6, fEq (.pointer (some ⟨b1, 0, none⟩))), (8, fEq (.pointer (some ⟨b2, 0, none⟩))), (9, fSl cP y7), (11, aA .i64 x44), (12, aA .i64 i.2.1), (13, aA .i64 i.2.2)]) (fun i => [aC b1 51 [aA .i64 y2.Op, aA .i64 y2.N, fSl aW y2.Args, fSl (aB .i64) y2.Kids], aC p0 74 [fSl aN x45, fSl aL x46, fSl aJ x47, aA .i64 x48, fEq v22, fSl (aB .i64) x50, fEq v23], aC b2 99 [fSl aY y6.Chans, fSl bI y6.Spots, fSl bC y6.Rules], aE v22 118 (tSl cP) x49, aE v23 3 (aB .i64) x51]) (fuel, 0, 0) H ?_
 clear H; rintro ⟨k4, x62, x63⟩ H
 replace H : mM y6 x44 k4 x62 x63 = _ := H
 try dsimp only
 obtain _ | k4 := k4
 rw [mM] at H; cases H
 rw [mM] at H
 refine aI ?_
 refine Z5 ?_
 revert H; refine bs fun y8 h12 H => ?_
 refine Z6 ?_
 revert H; refine is (fun c5 H => ?_) fun c5 H => ?_
 refine Z3 ?_
 refine aI ?_
 refine Z1 ?_
 revert H; refine bs fun y9 h13 H => ?_
 revert H; refine bs fun y10 h14 H => ?_
 revert H; refine bs fun y11 h15 H => ?_
 revert H; refine bs fun z5 h16 H => ?_
 apply bG (ods := [_, _, _, _, _, _, _, _, _, _, _, _, _, _, _, _, _]) 17 0 5 bF rfl rfl rfl
 dsimp only [bA, List.take, List.replicate, List.append, List.drop]
 refine M8 ?_
 intros
 refine M8 ?_
 intros
 refine M1 ?_
 intros
 refine Z6 ?_
 revert H; refine bs fun z6 h17 H => ?_
 refine Z3 ?_
 exact Tm ((k4, z5, z6)) ⟨H, ls⟩
 exact fk
 kernel_rfl
 refine Z6 ?_
 exact Tm (x62) (ij H)
 clear H; intro x59 hi; subst o6; have H := Hr6; clear Hr6; try dsimp only at H
 try dsimp only
 revert H; refine bs fun y12 h18 H => ?_
 revert H; refine bs fun y13 h19 H => ?_
 apply bG (ods := [_, _, _, _, _, _, _, _, _, _]) 10 0 5 bF rfl rfl rfl
 dsimp only [bA, List.take, List.replicate, List.append, List.drop]
 refine M8 ?_
 intros
 refine M1 ?_
 intros
 refine bP (od := odC [] true (fSl cP y13) []) (Φ := fSl cP y13) rfl (fun _ => rfl) trivial rfl rfl (has rfl) (aD.cons (has rfl) (aD.cons (has rfl) aD.nil)) rfl (cb rfl) (aBK fuel y7 x59 y13 h19) (fun _ => ?_)
 refine Z1 ?_
 refine bL ?_
 refine bL ?_
 refine dD ?_
 refine sP (x := (⟨(⟨x45, x46, x47, x48⟩ : ScopeProg), x49, x50, x51⟩ : Ref05_Look)) ?_
 revert H; refine bs fun y14 h20 H => ?_
 refine Tc (ih_r05_Look_fill _ _ _ _ _ h20) ?_
 refine uY (fun v26 v27 => ?_)
 refine aO 1 rfl (fun hc_v26 => ?_)
 refine aO 2 rfl (fun hc_v27 => ?_)
 refine Z3 ?_
 refine aH [0, 3, 4, 1, 2] (by decide) ?_
 exact Tm ((y14.p.Free, y14.p.Nodes, y14.p.Defs, y14.p.Main, y14.Envs, y14.Sizes, y14.Heads, v26, v27)) (ij H)
 exact fk
 kernel_rfl
 clear H; intro i hi; obtain ⟨x52, x53, x54, x55, x56, x57, x58, v24, v25⟩ := i; subst o5; have H := Hr5; clear Hr5; try dsimp only at H
 try dsimp only
 refine aO 3 rfl (fun hc_v24 => ?_)
 refine aO 4 rfl (fun hc_v25 => ?_)
 refine Z2 ?_
 revert H; refine bs fun z7 h21 H => ?_
 refine Z3 ?_
 refine aH [1, 0, 2, 3, 4] (by decide) ?_
 exact Tm ((k3, z7, x52, x53, x54, x55, x56, x57, x58, v24, v25)) ⟨H, ls⟩
 refine Z6 ?_
 exact Tm ((x45, x46, x47, x48, x49, x50, x51, v22, v23)) (ij H)
 clear H; intro i hi; obtain ⟨x29, x30, x31, x32, x33, x34, x35, v18, v19⟩ := i; subst o4; have H := Hr4; clear Hr4; try dsimp only at H
 try dsimp only
 refine aO 3 rfl (fun hc_v18 => ?_)
 refine aO 4 rfl (fun hc_v19 => ?_)
 revert H; refine bs fun o7 H Hr7 => ?_
 refine aT (ι := List ByteArray × List ScopeNode × List ScopeDef × Int × List (List Ref05_Chan) × List Int × List Int × Value × Value) (fun i => o7 = (i.1, i.2.1, i.2.2.1, i.2.2.2.1, i.2.2.2.2.1, i.2.2.2.2.2.1, i.2.2.2.2.2.2.1)) (fun i => [(0, fEq (.pointer (some ⟨p0, 0, none⟩))), (6, fEq (.pointer (some ⟨b1, 0, none⟩))), (9, fSl cP y7)]) (fun i => [aC b1 51 [aA .i64 y2.Op, aA .i64 y2.N, fSl aW y2.Args, fSl (aB .i64) y2.Kids], aC p0 74 [fSl aN i.1, fSl aL i.2.1, fSl aJ i.2.2.1, aA .i64 i.2.2.2.1, fEq i.2.2.2.2.2.2.2.1, fSl (aB .i64) i.2.2.2.2.2.1, fEq i.2.2.2.2.2.2.2.2], aC b2 99 [fSl aY y6.Chans, fSl bI y6.Spots, fSl bC y6.Rules], aE i.2.2.2.2.2.2.2.1 118 (tSl cP) i.2.2.2.2.1, aE i.2.2.2.2.2.2.2.2 3 (aB .i64) i.2.2.2.2.2.2.1]) ?_ ?_
 refine Z4 ?_
 refine Tl (ι := Nat × Int × List ByteArray × List ScopeNode × List ScopeDef × Int × List (List Ref05_Chan) × List Int × List Int × Value × Value) (fun i => mA (fN fuel) y6 y7 i.1 i.2.1 i.2.2.1 i.2.2.2.1 i.2.2.2.2.1 i.2.2.2.2.2.1 i.2.2.2.2.2.2.1 i.2.2.2.2.2.2.2.1 i.2.2.2.2.2.2.2.2.1 = _) (fun i => i.1) (fun i => [(0, fEq (.pointer (some ⟨p0, 0, none⟩))), (6, fEq (.pointer (some ⟨b1, 0, none⟩))), (8, fEq (.pointer (some ⟨b2, 0, none⟩))), (9, fSl cP y7), (14, aA .i64 i.2.1)]) (fun i => [aC b1 51 [aA .i64 y2.Op, aA .i64 y2.N, fSl aW y2.Args, fSl (aB .i64) y2.Kids], aC p0 74 [fSl aN i.2.2.1, fSl aL i.2.2.2.1, fSl aJ i.2.2.2.2.1, aA .i64 i.2.2.2.2.2.1, fEq i.2.2.2.2.2.2.2.2.2.1, fSl (aB .i64) i.2.2.2.2.2.2.2.1, fEq i.2.2.2.2.2.2.2.2.2.2], aC b2 99 [fSl aY y6.Chans, fSl bI y6.Spots, fSl bC y6.Rules], aE i.2.2.2.2.2.2.2.2.2.1 118 (tSl cP) i.2.2.2.2.2.2.1, aE i.2.2.2.2.2.2.2.2.2.2 3 (aB .i64) i.2.2.2.2.2.2.2.2.1]) (fuel, 0, x29, x30, x31, x32, x33, x34, x35, v18, v19) H ?_
 clear H; rintro ⟨k5, x79, x80, x81, x82, x83, x84, x85, x86, v32, v33⟩ H
 replace H : mA (fN fuel) y6 y7 k5 x79 x80 x81 x82 x83 x84 x85 x86 = _ := H
 try dsimp only
 obtain _ | k5 := k5
 rw [mA] at H; cases H
 rw [mA] at H
 refine aO 3 rfl (fun hc_v32 => ?_)
 refine aO 4 rfl (fun hc_v33 => ?_)
 refine aI ?_
 refine Z7 ?_
 revert H; refine is (fun c6 H => ?_) fun c6 H => ?_
 refine Z3 ?_
 refine aI ?_
 refine Z6 ?_
 revert H; refine bs fun y15 h22 H => ?_
 refine Z4 ?_
 refine bL ?_
 refine bL ?_
 refine dD ?_
 refine sP (x := (⟨(⟨x80, x81, x82, x83⟩ : ScopeProg), x84, x85, x86⟩ : Ref05_Look)) ?_
 revert H; refine bs fun y16 h23 H => ?_
 refine Tc (ih_r05_Look_fill _ _ _ _ _ h23) ?_
 refine uY (fun v34 v35 => ?_)
 refine aO 1 rfl (fun hc_v34 => ?_)
 refine aO 2 rfl (fun hc_v35 => ?_)
 refine Z5 ?_
 revert H; refine bs fun z8 h24 H => ?_
 refine Z3 ?_
 refine aH [3, 0, 4, 1, 2] (by decide) ?_
 exact Tm ((k5, z8, y16.p.Free, y16.p.Nodes, y16.p.Defs, y16.p.Main, y16.Envs, y16.Sizes, y16.Heads, v34, v35)) ⟨H, ls⟩
 refine Z6 ?_
 exact Tm ((x80, x81, x82, x83, x84, x85, x86, v32, v33)) (ij H)
 clear H; intro i hi; obtain ⟨x64, x65, x66, x67, x68, x69, x70, v28, v29⟩ := i; subst o7; have H := Hr7; clear Hr7; try dsimp only at H
 try dsimp only
 refine aO 3 rfl (fun hc_v28 => ?_)
 refine aO 4 rfl (fun hc_v29 => ?_)
 refine Z4 ?_
 revert H; refine bs fun y17 h25 H => ?_
 refine Z3 ?_
 refine bL ?_
 refine bL ?_
 refine dD ?_
 refine sP (x := (⟨(⟨x64, x65, x66, x67⟩ : ScopeProg), x68, x69, x70⟩ : Ref05_Look)) ?_
 revert H; refine bs fun y18 h26 H => ?_
 refine Tc (ih_r05_Look_fill _ _ _ _ _ h26) ?_
 refine uY (fun v36 v37 => ?_)
 refine aO 1 rfl (fun hc_v36 => ?_)
 refine aO 2 rfl (fun hc_v37 => ?_)
 refine Z1 ?_
 refine sP (x := (⟨(⟨y18.p.Free, y18.p.Nodes, y18.p.Defs, y18.p.Main⟩ : ScopeProg), y18.Envs, y18.Sizes, y18.Heads⟩ : Ref05_Look)) ?_
 cases H
 refine aH [0] (by decide) ?_
 exact eX (.inr rfl) rfl rfl
 exact fk
 kernel_rfl
 exact fk
 kernel_rfl
def nN (a0 : ScopeProg) : Nat → Int → (List (List Ref05_Chan)) → Option (List (List Ref05_Chan))
| 0, _, _ => none
| k + 1, x4, x5 =>
 if x4 < (a0.Nodes.length : Int) then
  (eA (x5 ++ [[]])).bind fun z1 =>
  (chk (x4 + 1)).bind fun z2 =>
  nN a0 k z2 z1
 else
  some x5
def nP (a0 : ScopeProg) : Nat → Int → (List Int) → Option (List Int)
| 0, _, _ => none
| k + 1, x9, x10 =>
 if x9 < (a0.Defs.length : Int) then
  (eA (x10 ++ [0])).bind fun z3 =>
  (chk (x9 + 1)).bind fun z4 =>
  nP a0 k z4 z3
 else
  some x10
def tN (fuel : Nat) (a0 : ScopeProg) : Option (Ref05_Look) :=
 (tY fuel (⟨a0.Free, a0.Nodes, a0.Defs, a0.Main⟩ : ScopeProg)).bind fun y1 =>
 (nN a0 fuel 0 []).bind fun x1 =>
 (nP a0 fuel 0 []).bind fun x6 =>
 (sX fuel [] (a0.Free.length : Int)).bind fun y2 =>
 (fN fuel (⟨(⟨a0.Free, a0.Nodes, a0.Defs, a0.Main⟩ : ScopeProg), x1, y1, x6⟩ : Ref05_Look) a0.Main y2).bind fun y3 =>
 some (⟨(⟨y3.p.Free, y3.p.Nodes, y3.p.Defs, y3.p.Main⟩ : ScopeProg), y3.Envs, y3.Sizes, y3.Heads⟩ : Ref05_Look)
theorem aGr (fuel : Nat)  (a0 : ScopeProg) (r : Ref05_Look) (H : tN fuel a0 = some r) : FnS Tryz.prog 30 [fSt dG a0] [] (aG dX r) (fun _ => []) := by
 unfold tN at H
 refine bK Tryz.func30 rfl Tryz.ntmps30 rfl (fun β => ?_)
 refine Z1 ?_
 refine aR trivial rfl rfl (cF rfl (has rfl) bO) (fun b1 => ?_)
 refine Z2 ?_
 refine aI ?_
 revert H; refine bs fun y1 h1 H => ?_
 apply bG (ods := [_, _, _, _, _, _]) 6 1 2 bF rfl rfl rfl
 dsimp only [bA, List.take, List.replicate, List.append, List.drop]
 refine M2 ?_
 intros
 refine bP (od := odC [] true (fSl (aB .i64) y1) []) (Φ := fSl (aB .i64) y1) rfl (fun _ => rfl) trivial rfl rfl (has rfl) (aD.cons (has rfl) aD.nil) rfl (cb rfl) (aH4 fuel (⟨a0.Free, a0.Nodes, a0.Defs, a0.Main⟩ : ScopeProg) y1 h1) (fun _ => ?_)
 refine My (dS (ψs := [fSl aN a0.Free, fSl aL a0.Nodes, fSl aJ a0.Defs, aA .i64 a0.Main, fEq (.slice none 0 0), fSl (aB .i64) y1, fEq (.slice none 0 0)]) rfl ty_bu_74 rfl (aX.cons (has rfl) bO (aX.cons (has rfl) (aS (bB)) aX.nil)) rfl) fun _ => ?_
 refine Mn 1 (fun b2 => ptr b2) (fun b2 => aC b2 74 [fSl aN a0.Free, fSl aL a0.Nodes, fSl aJ a0.Defs, aA .i64 a0.Main, fEq (.slice none 0 0), fSl (aB .i64) y1, fEq (.slice none 0 0)]) rfl (cF rfl (has rfl) bO) (fun b2 u1 => ?_)
 refine D1 4 b2 _ (fun b2 _ => fEq (.pointer (some ⟨b2, 0, none⟩))) rfl (xK rfl hh) (fun _ => ?_)
 refine Z2 ?_
 revert H; refine bs fun o1 H Hr1 => ?_
 refine aT (ι := List (List Ref05_Chan) × Value) (fun i => o1 = i.1) (fun i => [(1, fEq (.pointer (some ⟨b1, 0, none⟩))), (3, fEq (.pointer (some ⟨b2, 0, none⟩)))]) (fun i => [aC b1 26 [fSl aN a0.Free, fSl aL a0.Nodes, fSl aJ a0.Defs, aA .i64 a0.Main], aC b2 74 [fSl aN a0.Free, fSl aL a0.Nodes, fSl aJ a0.Defs, aA .i64 a0.Main, fEq i.2, fSl (aB .i64) y1, fEq (.slice none 0 0)], aE i.2 118 (tSl cP) i.1]) ?_ ?_
 refine Z4 ?_
 refine lS (tSl cP) 118 ?_
 refine aH [1, 2, 0] (by decide) ?_
 refine Tl (ι := Nat × Int × List (List Ref05_Chan) × Value) (fun i => nN a0 i.1 i.2.1 i.2.2.1 = _) (fun i => i.1) (fun i => [(1, fEq (.pointer (some ⟨b1, 0, none⟩))), (3, fEq (.pointer (some ⟨b2, 0, none⟩))), (4, aA .i64 i.2.1)]) (fun i => [aC b1 26 [fSl aN a0.Free, fSl aL a0.Nodes, fSl aJ a0.Defs, aA .i64 a0.Main], aC b2 74 [fSl aN a0.Free, fSl aL a0.Nodes, fSl aJ a0.Defs, aA .i64 a0.Main, fEq i.2.2.2, fSl (aB .i64) y1, fEq (.slice none 0 0)], aE i.2.2.2 118 (tSl cP) i.2.2.1]) (fuel, 0, [], (.slice none 0 0)) H ?_
 clear H; rintro ⟨k1, x4, x5, v3⟩ H
 replace H : nN a0 k1 x4 x5 = _ := H
 try dsimp only
 obtain _ | k1 := k1
 rw [nN] at H; cases H
 rw [nN] at H
 refine aO 2 rfl (fun hc_v3 => ?_)
 refine aI ?_
 refine Z7 ?_
 revert H; refine is (fun c1 H => ?_) fun c1 H => ?_
 refine Z3 ?_
 refine aI ?_
 refine Z7 ?_
 refine aR trivial rfl rfl (cC (t := (tSl cP)) (xs := [[]]) rfl (et rfl) (aQ.cons rfl (dR rfl eF) (aS (bB)) aQ.nil) rfl rfl rfl) (fun b3 => ?_)
 generalize hv_v4 : (Value.slice (some ⟨b3, 0, none⟩) _ _) = v4; clear hv_v4
 refine aO 0 rfl (fun hc_v4 => ?_)
 revert H; refine bs fun z1 h2 H => ?_
 refine dD ?_
 refine cA ?_
 refine lX trivial rfl rfl rfl (has rfl) (has rfl) (et rfl) rfl h2 (fun v5 => ?_)
 refine aO 0 rfl (fun hc_v5 => ?_)
 refine Z2 ?_
 refine eB ?_
 refine cY (φs' := [fSl aN a0.Free, fSl aL a0.Nodes, fSl aJ a0.Defs, aA .i64 a0.Main, fEq v5, fSl (aB .i64) y1, fEq (.slice none 0 0)]) trivial rfl rfl (has rfl) (has rfl) (aF hc_v5) (sz rfl) rfl rfl ?_
 refine Z5 ?_
 revert H; refine bs fun z2 h3 H => ?_
 refine Z3 ?_
 refine aH [2, 0, 1] (by decide) ?_
 exact Tm ((k1, z2, z1, v5)) ⟨H, ls⟩
 refine Z6 ?_
 exact Tm ((x5, v3)) (ij H)
 clear H; intro i hi; obtain ⟨x1, v1⟩ := i; subst o1; have H := Hr1; clear Hr1; try dsimp only at H
 try dsimp only
 refine aO 2 rfl (fun hc_v1 => ?_)
 revert H; refine bs fun o2 H Hr2 => ?_
 refine aT (ι := List Int × Value) (fun i => o2 = i.1) (fun i => [(1, fEq (.pointer (some ⟨b1, 0, none⟩))), (3, fEq (.pointer (some ⟨b2, 0, none⟩)))]) (fun i => [aC b1 26 [fSl aN a0.Free, fSl aL a0.Nodes, fSl aJ a0.Defs, aA .i64 a0.Main], aC b2 74 [fSl aN a0.Free, fSl aL a0.Nodes, fSl aJ a0.Defs, aA .i64 a0.Main, fEq v1, fSl (aB .i64) y1, fEq i.2], aE v1 118 (tSl cP) x1, aE i.2 3 (aB .i64) i.1]) ?_ ?_
 refine Z4 ?_
 refine lS (aB .i64) 3 ?_
 refine aH [1, 2, 3, 0] (by decide) ?_
 refine Tl (ι := Nat × Int × List Int × Value) (fun i => nP a0 i.1 i.2.1 i.2.2.1 = _) (fun i => i.1) (fun i => [(1, fEq (.pointer (some ⟨b1, 0, none⟩))), (3, fEq (.pointer (some ⟨b2, 0, none⟩))), (5, aA .i64 i.2.1)]) (fun i => [aC b1 26 [fSl aN a0.Free, fSl aL a0.Nodes, fSl aJ a0.Defs, aA .i64 a0.Main], aC b2 74 [fSl aN a0.Free, fSl aL a0.Nodes, fSl aJ a0.Defs, aA .i64 a0.Main, fEq v1, fSl (aB .i64) y1, fEq i.2.2.2], aE v1 118 (tSl cP) x1, aE i.2.2.2 3 (aB .i64) i.2.2.1]) (fuel, 0, [], (.slice none 0 0)) H ?_
 clear H; rintro ⟨k2, x9, x10, v8⟩ H
 replace H : nP a0 k2 x9 x10 = _ := H
 try dsimp only
 obtain _ | k2 := k2
 rw [nP] at H; cases H
 rw [nP] at H
 refine aO 3 rfl (fun hc_v8 => ?_)
 refine aI ?_
 refine Z7 ?_
 revert H; refine is (fun c2 H => ?_) fun c2 H => ?_
 refine Z3 ?_
 refine aI ?_
 refine Z7 ?_
 refine aR trivial rfl rfl (cC (t := (aB .i64)) (xs := [0]) rfl (et rfl) (aQ.cons rfl (has rfl) (aS (aF trivial)) aQ.nil) rfl rfl rfl) (fun b4 => ?_)
 generalize hv_v9 : (Value.slice (some ⟨b4, 0, none⟩) _ _) = v9; clear hv_v9
 refine aO 0 rfl (fun hc_v9 => ?_)
 revert H; refine bs fun z3 h4 H => ?_
 refine bL ?_
 refine cA ?_
 refine lX trivial rfl rfl rfl (has rfl) (has rfl) (et rfl) rfl h4 (fun v10 => ?_)
 refine aO 0 rfl (fun hc_v10 => ?_)
 refine Z2 ?_
 refine eB ?_
 refine cY (φs' := [fSl aN a0.Free, fSl aL a0.Nodes, fSl aJ a0.Defs, aA .i64 a0.Main, fEq v1, fSl (aB .i64) y1, fEq v10]) trivial rfl rfl (has rfl) (has rfl) (aF hc_v10) (sz rfl) rfl rfl ?_
 refine Z5 ?_
 revert H; refine bs fun z4 h5 H => ?_
 refine Z3 ?_
 refine aH [2, 0, 3, 1] (by decide) ?_
 exact Tm ((k2, z4, z3, v10)) ⟨H, ls⟩
 refine Z6 ?_
 exact Tm ((x10, v8)) (ij H)
 clear H; intro i hi; obtain ⟨x6, v6⟩ := i; subst o2; have H := Hr2; clear Hr2; try dsimp only at H
 try dsimp only
 refine aO 3 rfl (fun hc_v6 => ?_)
 refine aI ?_
 revert H; refine bs fun y2 h6 H => ?_
 apply bG (ods := [_, _, _, _, _, _, _]) 7 0 4 bF rfl rfl rfl
 dsimp only [bA, List.take, List.replicate, List.append, List.drop]
 refine M6 ?_
 intros
 refine bP (od := odC [] true (fSl cP y2) []) (Φ := fSl cP y2) rfl (fun _ => rfl) trivial rfl rfl (has rfl) (aD.cons (dR rfl eF) (aD.cons (has rfl) aD.nil)) rfl (cb rfl) (aBK fuel [] (a0.Free.length : Int) y2 h6) (fun _ => ?_)
 refine Z1 ?_
 refine dD ?_
 refine dD ?_
 refine dD ?_
 refine sP (x := (⟨(⟨a0.Free, a0.Nodes, a0.Defs, a0.Main⟩ : ScopeProg), x1, y1, x6⟩ : Ref05_Look)) ?_
 revert H; refine bs fun y3 h7 H => ?_
 refine Tc (aGU _ _ _ _ _ _ h7) ?_
 refine uY (fun v11 v12 => ?_)
 refine aO 1 rfl (fun hc_v11 => ?_)
 refine aO 2 rfl (fun hc_v12 => ?_)
 refine Z6 ?_
 refine cA ?_
 refine cW (φ := fSl (tSl cP) y3.Envs) (v := v11) [] cR (fun _ h => nomatch h) ?_
 refine gX (φs' := [fSl aN y3.p.Free, fSl aL y3.p.Nodes, fSl aJ y3.p.Defs, aA .i64 y3.p.Main, fSl (tSl cP) y3.Envs, fSl (aB .i64) y3.Sizes, fEq v12]) (i := 4) rfl rfl ?_
 refine cV ?_
 refine cA ?_
 refine cW (φ := fSl (aB .i64) y3.Heads) (v := v12) [] cR (fun _ h => nomatch h) ?_
 refine gX (φs' := [fSl aN y3.p.Free, fSl aL y3.p.Nodes, fSl aJ y3.p.Defs, aA .i64 y3.p.Main, fSl (tSl cP) y3.Envs, fSl (aB .i64) y3.Sizes, fSl (aB .i64) y3.Heads]) (i := 6) rfl rfl ?_
 refine cV ?_
 refine cW (φ := aG dX (⟨(⟨y3.p.Free, y3.p.Nodes, y3.p.Defs, y3.p.Main⟩ : ScopeProg), y3.Envs, y3.Sizes, y3.Heads⟩ : Ref05_Look)) (v := ptr b2) [3, 43, 51, 2] (gU aP.rfl) (by intro s hs; simp only [List.mem_cons, List.not_mem_nil, or_false] at hs; rcases hs with rfl | rfl | rfl | rfl <;> rfl) ?_
 refine cV ?_
 cases H
 refine aH [] (by decide) ?_
 exact To
 exact fk
 kernel_rfl
 exact fk
 kernel_rfl
def sE (a0 : Int) : Option (Int) :=
 if a0 = 0 then
  some 1
 else
  if a0 = 1 then
   some 3
  else
   some 4
theorem aCe  (a0 : Int) (r : Int) (H : sE a0 = some r) : FnS Tryz.prog 31 [aA .i64 a0] [] (aA .i64 r) (fun _ => []) := by
 unfold sE at H
 refine bK Tryz.func31 rfl Tryz.ntmps31 rfl (fun β => ?_)
 refine Z3 ?_
 refine aI ?_
 refine Z8 ?_
 revert H; refine is (fun c1 H => ?_) fun c1 H => ?_
 refine Z7 ?_
 cases H
 exact To
 refine Z5 ?_
 revert H; refine is (fun c2 H => ?_) fun c2 H => ?_
 refine Z7 ?_
 cases H
 exact To
 refine Z8 ?_
 cases H
 exact To
def qN (a0 : Int) (a1 : Int) : Option (Int) :=
 (chk (a0 + a1)).bind fun z1 =>
 some (min z1 2)
theorem aAk  (a0 : Int) (a1 : Int) (r : Int) (H : qN a0 a1 = some r) : FnS Tryz.prog 73 [aA .i64 a0, aA .i64 a1] [] (aA .i64 r) (fun _ => []) := by
 unfold qN at H
 refine bK Tryz.func73 rfl Tryz.ntmps73 rfl (fun β => ?_)
 refine Z6 ?_
 revert H; refine bs fun z1 h1 H => ?_
 refine Z5 ?_
 cases H
 exact To
def qI (a0 : Int) : Option (Int) :=
 if a0 = 1 then
  some 0
 else
  if a0 = 4 then
   some 2
  else
   some 1
theorem aAs  (a0 : Int) (r : Int) (H : qI a0 = some r) : FnS Tryz.prog 86 [aA .i64 a0] [] (aA .i64 r) (fun _ => []) := by
 unfold qI at H
 refine bK Tryz.func86 rfl Tryz.ntmps86 rfl (fun β => ?_)
 refine Z3 ?_
 refine aI ?_
 refine Z8 ?_
 revert H; refine is (fun c1 H => ?_) fun c1 H => ?_
 refine Z7 ?_
 cases H
 exact To
 refine Z5 ?_
 revert H; refine is (fun c2 H => ?_) fun c2 H => ?_
 refine Z7 ?_
 cases H
 exact To
 refine Z8 ?_
 cases H
 exact To
end Go.Proofs.YtmnbfgeljmhekaaGreat
set_option maxRecDepth 100000
set_option maxHeartbeats 2000000
namespace Go.Proofs.YtmnbfgeljmhekaaGreat
open Go.SX Go.SW Go.Dt
attribute [local irreducible] Code.wpIn wpListIn Exit.then Exit.inBlock
def lJ (a1 : List UsageDef) (a3 : Int) (y1 : ScopeNode) (y3 : Ref05_Chan) : Nat → Int → Int → Option (Int)
| 0, _, _ => none
| k + 1, x5, x6 =>
 if x6 < (y1.Args.length : Int) then
  ((idx y1.Args x6).bind fun y6 =>
  if y6.Op ≠ 2 then
   some x5
  else
   (idx y1.Args x6).bind fun y7 =>
   if y7.N ≠ a3 then
    some x5
   else
    if y3.Def < 0 then
     some 2
    else
     (idx a1 y3.Def).bind fun y8 =>
     (idx y8.Args y3.Index).bind fun y9 =>
     (idx y9 x6).bind fun y10 =>
     (qI y10).bind fun y11 =>
     (qN x5 y11).bind fun y12 =>
     some y12).bind fun x7 =>
  (chk (x6 + 1)).bind fun z1 =>
  lJ a1 a3 y1 y3 k x7 z1
 else
  some x5
def wI (fuel : Nat) (a0 : Ref05_Look) (a1 : List UsageDef) (a2 : Int) (a3 : Int) : Option (Int) :=
 (idx a0.p.Nodes a2).bind fun y1 =>
 (idx a0.Envs a2).bind fun y2 =>
 (idx y2 y1.N).bind fun y3 =>
 (if 0 ≤ y3.Def then
  (idx a0.p.Defs y3.Def).bind fun y4 =>
  (idx y4.Chans y3.Index).bind fun y5 =>
  if y5.Many ≠ (y1.Args.length : Int) then
   (some 0).bind fun r => some (Sum.inr r)
  else
   some (Sum.inl ())
 else
  some (Sum.inl ())).bind fun o => match o with
 | Sum.inr r => some r
 | Sum.inl _ =>
 (if y1.N = a3 then
  some 1
 else
  some 0).bind fun x1 =>
 (lJ a1 a3 y1 y3 fuel x1 0).bind fun x2 =>
 some x2
theorem aGg (fuel : Nat)  (a0 : Ref05_Look) (a1 : List UsageDef) (a2 : Int) (a3 : Int) (r : Int) (H : wI fuel a0 a1 a2 a3 = some r) : FnS Tryz.prog 72 [aG dX a0, fSl bD a1, aA .i64 a2, aA .i64 a3] [] (aA .i64 r) (fun _ => []) := by
 unfold wI at H
 refine bK Tryz.func72 rfl Tryz.ntmps72 rfl (fun β => ?_)
 refine Z10 ?_
 revert H; refine bs fun y1 h1 H => ?_
 refine Z2 ?_
 refine aR trivial rfl rfl (cB rfl iS rfl) (fun b1 => ?_)
 refine dB (φs' := [aA .i64 y1.Op, aA .i64 y1.N, fSl aW y1.Args, fSl (aB .i64) y1.Kids]) trivial rfl rfl (has rfl) (has rfl) (aM (aF trivial) (aM (aF trivial) (aM (bB) (aM (bB) bR)))) (sz rfl) rfl rfl rfl ?_
 refine Z1 ?_
 refine aI ?_
 revert H; refine bs fun y2 h2 H => ?_
 revert H; refine bs fun y3 h3 H => ?_
 apply bG (ods := [_, _, _, _, _, _, _, _, _, _, _, _, _]) 13 1 2 bF rfl rfl rfl
 dsimp only [bA, List.take, List.replicate, List.append, List.drop]
 refine M8 ?_
 intros
 refine M3 ?_
 intros
 refine Mn 1 (fun b2 => ptr b2) (fun b2 => aC b2 126 [aA .i64 0, aA .i64 0]) rfl (cB rfl aD3 rfl) (fun b2 u1 => ?_)
 refine pB (od := od1 11 [1] true (fun b2 _ => fAny) (fun b2 _ => [aC b2 126 [aA .i64 y3.Def, aA .i64 y3.Index]])) (p := 1) (φs' := [aA .i64 y3.Def, aA .i64 y3.Index]) rfl (fun _ => rfl) (fun _ => rfl) trivial rfl rfl rfl (has rfl) (has rfl) (aM (aF trivial) (aM (aF trivial) bR)) (sz rfl) rfl rfl rfl (fun _ => ?_)
 refine Z2 ?_
 revert H; refine bs fun o1 H Hr1 => ?_
 refine aT (ι := Unit) (fun i => o1 = Sum.inl ()) (fun i => [(1, fSl bD a1), (3, aA .i64 a3), (9, fEq (.pointer (some ⟨b1, 0, none⟩))), (10, fEq (.pointer (some ⟨b2, 0, none⟩)))]) (fun i => [aC b1 51 [aA .i64 y1.Op, aA .i64 y1.N, fSl aW y1.Args, fSl (aB .i64) y1.Kids], aC b2 126 [aA .i64 y3.Def, aA .i64 y3.Index]]) ?_ ?_
 refine aI ?_
 revert H; refine is (fun c1 H => ?_) fun c1 H => ?_
 revert H; refine bs fun y4 h4 H => ?_
 revert H; refine bs fun y5 h5 H => ?_
 apply bG (ods := [_, _, _, _, _, _, _, _, _, _, _, _, _, _, _, _, _, _, _, _, _, _, _, _]) 24 0 2 bF rfl rfl rfl
 dsimp only [bA, List.take, List.replicate, List.append, List.drop]
 refine M8 ?_
 intros
 refine M2 ?_
 intros
 refine cU (od := odC [1] false (aA .i64 y3.Def) [cK]) (ps := [1]) (φ := aA .i64 y3.Def) rfl (fun _ => rfl) ⟨_, _, rfl, rfl, c1⟩ rfl rfl (bM rfl (has rfl) (sc rfl) rfl Ent.rfl) (fun _ => ?_)
 refine M4 ?_
 intros
 refine cU (od := odC [1] false (aA .i64 y3.Index) [cK]) (ps := [1]) (φ := aA .i64 y3.Index) rfl (fun _ => rfl) ⟨_, _, rfl, rfl, c1⟩ rfl rfl (bM rfl (has rfl) (sc rfl) rfl Ent.rfl) (fun _ => ?_)
 refine M4 ?_
 intros
 refine cU (od := odC [0] false (fSl aW y1.Args) [cK]) (ps := [0]) (φ := fSl aW y1.Args) rfl (fun _ => rfl) ⟨_, _, rfl, rfl, c1⟩ rfl rfl (bM rfl (has rfl) (sc rfl) rfl Ent.rfl) (fun _ => ?_)
 refine M3 ?_
 intros
 refine Z2 ?_
 revert H; refine is (fun c2 H => ?_) fun c2 H => ?_
 refine Z5 ?_
 revert H; refine bs fun r1 H e1 => ?_
 cases e1; cases Hr1
 cases H
 refine aH [] (by decide) ?_
 exact To
 refine Z3 ?_
 exact Tm (()) (ij H)
 exact fk
 kernel_rfl
 apply bG (ods := [_, _, _, _, _, _, _, _, _, _, _, _, _, _, _, _, _, _, _, _, _, _, _, _]) 24 0 2 bF rfl rfl rfl
 dsimp only [bA, List.take, List.replicate, List.append, List.drop]
 refine M8 ?_
 intros
 refine M8 ?_
 intros
 refine M8 ?_
 intros
 refine Z5 ?_
 exact Tm (()) (ij H)
 exact fk
 kernel_rfl
 clear H; intro i hi; subst o1; have H := Hr1; clear Hr1; try dsimp only at H
 try dsimp only
 refine Z3 ?_
 revert H; refine bs fun o2 H Hr2 => ?_
 refine aT (ι := Int) (fun i => o2 = i) (fun i => [(1, fSl bD a1), (3, aA .i64 a3), (9, fEq (.pointer (some ⟨b1, 0, none⟩))), (10, fEq (.pointer (some ⟨b2, 0, none⟩))), (11, aA .i64 i)]) (fun i => [aC b1 51 [aA .i64 y1.Op, aA .i64 y1.N, fSl aW y1.Args, fSl (aB .i64) y1.Kids], aC b2 126 [aA .i64 y3.Def, aA .i64 y3.Index]]) ?_ ?_
 refine Z6 ?_
 revert H; refine is (fun c3 H => ?_) fun c3 H => ?_
 refine Z4 ?_
 exact Tm (1) (ij H)
 refine Z3 ?_
 exact Tm (0) (ij H)
 clear H; intro x1 hi; subst o2; have H := Hr2; clear Hr2; try dsimp only at H
 try dsimp only
 revert H; refine bs fun o3 H Hr3 => ?_
 refine aT (ι := Int) (fun i => o3 = i) (fun i => [(11, aA .i64 i)]) (fun i => [aC b1 51 [aA .i64 y1.Op, aA .i64 y1.N, fSl aW y1.Args, fSl (aB .i64) y1.Kids], aC b2 126 [aA .i64 y3.Def, aA .i64 y3.Index]]) ?_ ?_
 refine Z4 ?_
 refine Tl (ι := Nat × Int × Int) (fun i => lJ a1 a3 y1 y3 i.1 i.2.1 i.2.2 = _) (fun i => i.1) (fun i => [(1, fSl bD a1), (3, aA .i64 a3), (9, fEq (.pointer (some ⟨b1, 0, none⟩))), (10, fEq (.pointer (some ⟨b2, 0, none⟩))), (11, aA .i64 i.2.1), (12, aA .i64 i.2.2)]) (fun i => [aC b1 51 [aA .i64 y1.Op, aA .i64 y1.N, fSl aW y1.Args, fSl (aB .i64) y1.Kids], aC b2 126 [aA .i64 y3.Def, aA .i64 y3.Index]]) (fuel, x1, 0) H ?_
 clear H; rintro ⟨k1, x5, x6⟩ H
 replace H : lJ a1 a3 y1 y3 k1 x5 x6 = _ := H
 try dsimp only
 obtain _ | k1 := k1
 rw [lJ] at H; cases H
 rw [lJ] at H
 refine aI ?_
 refine Z7 ?_
 revert H; refine is (fun c4 H => ?_) fun c4 H => ?_
 refine Z3 ?_
 revert H; refine bs fun o4 H Hr4 => ?_
 refine aT (ι := Int) (fun i => o4 = i) (fun i => [(1, fSl bD a1), (3, aA .i64 a3), (9, fEq (.pointer (some ⟨b1, 0, none⟩))), (10, fEq (.pointer (some ⟨b2, 0, none⟩))), (11, aA .i64 i), (12, aA .i64 x6)]) (fun i => [aC b1 51 [aA .i64 y1.Op, aA .i64 y1.N, fSl aW y1.Args, fSl (aB .i64) y1.Kids], aC b2 126 [aA .i64 y3.Def, aA .i64 y3.Index]]) ?_ ?_
 refine Z1 ?_
 refine aI ?_
 refine Z4 ?_
 revert H; refine bs fun y6 h6 H => ?_
 refine Z5 ?_
 revert H; refine is (fun c5 H => ?_) fun c5 H => ?_
 refine Z12 ?_
 refine Z3 ?_
 exact Tm (x5) (ij H)
 refine Z3 ?_
 revert H; refine bs fun y7 h7 H => ?_
 refine Z7 ?_
 revert H; refine is (fun c6 H => ?_) fun c6 H => ?_
 refine Z5 ?_
 exact Tm (x5) (ij H)
 refine Z8 ?_
 revert H; refine is (fun c7 H => ?_) fun c7 H => ?_
 refine Z6 ?_
 exact Tm (2) (ij H)
 refine Z1 ?_
 revert H; refine bs fun y8 h8 H => ?_
 revert H; refine bs fun y9 h9 H => ?_
 revert H; refine bs fun y10 h10 H => ?_
 revert H; refine bs fun y11 h11 H => ?_
 revert H; refine bs fun y12 h12 H => ?_
 apply bG (ods := [_, _, _, _, _, _, _, _, _, _, _, _, _, _, _, _, _]) 17 0 2 bF rfl rfl rfl
 dsimp only [bA, List.take, List.replicate, List.append, List.drop]
 refine M8 ?_
 intros
 refine M6 ?_
 intros
 refine bP (od := odC [] true (aA .i64 y11) []) (Φ := aA .i64 y11) rfl (fun _ => rfl) trivial rfl rfl (has rfl) (aD.cons (has rfl) aD.nil) rfl (cb rfl) (aAs y10 y11 h11) (fun _ => ?_)
 refine bP (od := odC [] true (aA .i64 y12) []) (Φ := aA .i64 y12) rfl (fun _ => rfl) trivial rfl rfl (has rfl) (aD.cons (has rfl) (aD.cons (has rfl) aD.nil)) rfl (cb rfl) (aAk x5 y11 y12 h12) (fun _ => ?_)
 refine M1 ?_
 intros
 refine Z4 ?_
 exact Tm (y12) (ij H)
 exact fk
 kernel_rfl
 clear H; intro x7 hi; subst o4; have H := Hr4; clear Hr4; try dsimp only at H
 try dsimp only
 refine Z2 ?_
 revert H; refine bs fun z1 h13 H => ?_
 refine Z3 ?_
 exact Tm ((k1, x7, z1)) ⟨H, ls⟩
 refine Z6 ?_
 exact Tm (x5) (ij H)
 clear H; intro x2 hi; subst o3; have H := Hr3; clear Hr3; try dsimp only at H
 try dsimp only
 refine Z5 ?_
 cases H
 refine aH [] (by decide) ?_
 exact To
 exact fk
 kernel_rfl
def wE (a0 : Int) (a1 : Int) : Option (Int) :=
 (chk (a0 * a1)).bind fun z1 =>
 some (min z1 2)
theorem aG9  (a0 : Int) (a1 : Int) (r : Int) (H : wE a0 a1 = some r) : FnS Tryz.prog 94 [aA .i64 a0, aA .i64 a1] [] (aA .i64 r) (fun _ => []) := by
 unfold wE at H
 refine bK Tryz.func94 rfl Tryz.ntmps94 rfl (fun β => ?_)
 refine Z6 ?_
 revert H; refine bs fun z1 h1 H => ?_
 refine Z5 ?_
 cases H
 exact To
def nA (rec_r05_Look_Sends : Ref05_Look → (List UsageDef) → Int → Int → Option (Int)) (a0 : Ref05_Look) (a1 : List UsageDef) (a3 : Int) (y2 : ScopeDef) : Nat → Int → Int → Option (Int)
| 0, _, _ => none
| k + 1, x4, x5 =>
 if x5 < (y2.Spots.length : Int) then
  (idx y2.Spots x5).bind fun y5 =>
  (rec_r05_Look_Sends a0 a1 y5.Node a3).bind fun y6 =>
  (qN x4 y6).bind fun y7 =>
  (chk (x5 + 1)).bind fun z1 =>
  nA rec_r05_Look_Sends a0 a1 a3 y2 k y7 z1
 else
  some x4
def pA (rec_r05_Look_Sends : Ref05_Look → (List UsageDef) → Int → Int → Option (Int)) (a0 : Ref05_Look) (a1 : List UsageDef) (a3 : Int) (y1 : ScopeNode) (y2 : ScopeDef) : Nat → Int → Int → Option (Int)
| 0, _, _ => none
| k + 1, x9, x10 =>
 if x10 < (y2.Rules.length : Int) then
  (idx a1 y1.N).bind fun y8 =>
  (idx y8.Rules x10).bind fun y9 =>
  (qI y9).bind fun y10 =>
  (idx y2.Rules x10).bind fun y11 =>
  (rec_r05_Look_Sends a0 a1 y11.Node a3).bind fun y12 =>
  (wE y10 y12).bind fun y13 =>
  (qN x9 y13).bind fun y14 =>
  (chk (x10 + 1)).bind fun z2 =>
  pA rec_r05_Look_Sends a0 a1 a3 y1 y2 k y14 z2
 else
  some x9
mutual
def fA : Nat → Ref05_Look → (List UsageDef) → Int → Int → Option (Int)
| 0, _, _, _, _ => none
| fuel + 1, a0, a1, a2, a3 =>
 (idx a0.p.Nodes a2).bind fun y1 =>
 if y1.Op = 2 then
  (wI fuel a0 a1 a2 a3).bind fun y2 =>
  some y2
 else
  if y1.Op = 3 then
   (idx y1.Kids 0).bind fun y3 =>
   ((fA fuel) a0 a1 y3 a3).bind fun y4 =>
   (idx y1.Kids 1).bind fun y5 =>
   ((fA fuel) a0 a1 y5 a3).bind fun y6 =>
   (qN y4 y6).bind fun y7 =>
   some y7
  else
   if y1.Op = 5 then
    (idx y1.Kids 0).bind fun y8 =>
    ((fA fuel) a0 a1 y8 a3).bind fun y9 =>
    (idx y1.Kids 1).bind fun y10 =>
    ((fA fuel) a0 a1 y10 a3).bind fun y11 =>
    some (max y9 y11)
   else
    (if y1.Op = 6 then
     some (decide (y1.Op = 6))
    else
     some (decide (y1.Op = 8))).bind fun x1 =>
    bif x1 then
     (idx y1.Kids 0).bind fun y12 =>
     ((fA fuel) a0 a1 y12 a3).bind fun y13 =>
     some y13
    else
     if y1.Op = 4 then
      ((pZ fuel) a0 a1 a2 a3).bind fun y14 =>
      some y14
     else
      some 0
def pZ : Nat → Ref05_Look → (List UsageDef) → Int → Int → Option (Int)
| 0, _, _, _, _ => none
| fuel + 1, a0, a1, a2, a3 =>
 (idx a0.p.Nodes a2).bind fun y1 =>
 (idx a0.p.Defs y1.N).bind fun y2 =>
 (idx y1.Kids 0).bind fun y3 =>
 ((fA fuel) a0 a1 y3 a3).bind fun y4 =>
 (nA (fA fuel) a0 a1 a3 y2 fuel y4 0).bind fun x1 =>
 (pA (fA fuel) a0 a1 a3 y1 y2 fuel x1 0).bind fun x6 =>
 some x6
end
theorem aDz : ∀ (fuel : Nat), (∀  (a0 : Ref05_Look) (a1 : List UsageDef) (a2 : Int) (a3 : Int) (r : Int) (H : fA fuel a0 a1 a2 a3 = some r), FnS Tryz.prog 32 [aG dX a0, fSl bD a1, aA .i64 a2, aA .i64 a3] [] (aA .i64 r) (fun _ => [])) ∧ (∀  (a0 : Ref05_Look) (a1 : List UsageDef) (a2 : Int) (a3 : Int) (r : Int) (H : pZ fuel a0 a1 a2 a3 = some r), FnS Tryz.prog 74 [aG dX a0, fSl bD a1, aA .i64 a2, aA .i64 a3] [] (aA .i64 r) (fun _ => [])) := by
 intro fuel
 induction fuel with
 | zero => exact ⟨fun a0 a1 a2 a3 r H => (by rw [fA] at H; cases H), fun a0 a1 a2 a3 r H => (by rw [pZ] at H; cases H)⟩
 | succ fuel ih =>
 obtain ⟨ih_r05_Look_Sends, ih_r05_Look_Inner⟩ := ih
 refine ⟨?_, ?_⟩
 intro a0 a1 a2 a3 r H
 rw [fA] at H
 refine bK Tryz.func32 rfl Tryz.ntmps32 rfl (fun β => ?_)
 refine Z10 ?_
 revert H; refine bs fun y1 h1 H => ?_
 refine Z2 ?_
 refine aR trivial rfl rfl (cB rfl iS rfl) (fun b1 => ?_)
 refine dB (φs' := [aA .i64 y1.Op, aA .i64 y1.N, fSl aW y1.Args, fSl (aB .i64) y1.Kids]) trivial rfl rfl (has rfl) (has rfl) (aM (aF trivial) (aM (aF trivial) (aM (bB) (aM (bB) bR)))) (sz rfl) rfl rfl rfl ?_
 refine Z1 ?_
 refine aI ?_
 refine Z9 ?_
 revert H; refine is (fun c1 H => ?_) fun c1 H => ?_
 refine Z6 ?_
 revert H; refine bs fun y2 h2 H => ?_
 refine Tc (aGg _ _ _ _ _ _ h2) ?_
 refine Z5 ?_
 cases H
 refine aH [] (by decide) ?_
 exact To
 refine Z5 ?_
 revert H; refine is (fun c2 H => ?_) fun c2 H => ?_
 refine Z1 ?_
 refine aI ?_
 revert H; refine bs fun y3 h3 H => ?_
 revert H; refine bs fun y4 h4 H => ?_
 revert H; refine bs fun y5 h5 H => ?_
 revert H; refine bs fun y6 h6 H => ?_
 revert H; refine bs fun y7 h7 H => ?_
 apply bG (ods := [_, _, _, _, _, _, _, _, _, _, _, _, _, _, _, _, _, _]) 18 0 1 bF rfl rfl rfl
 dsimp only [bA, List.take, List.replicate, List.append, List.drop]
 refine M7 ?_
 intros
 refine bP (od := odC [] true (aA .i64 y4) []) (Φ := aA .i64 y4) rfl (fun _ => rfl) trivial rfl rfl (has rfl) (aD.cons (has rfl) (aD.cons (has rfl) (aD.cons (has rfl) (aD.cons (has rfl) aD.nil)))) rfl (cb rfl) (ih_r05_Look_Sends a0 a1 y3 a3 y4 h4) (fun _ => ?_)
 refine M7 ?_
 intros
 refine bP (od := odC [] true (aA .i64 y6) []) (Φ := aA .i64 y6) rfl (fun _ => rfl) trivial rfl rfl (has rfl) (aD.cons (has rfl) (aD.cons (has rfl) (aD.cons (has rfl) (aD.cons (has rfl) aD.nil)))) rfl (cb rfl) (ih_r05_Look_Sends a0 a1 y5 a3 y6 h6) (fun _ => ?_)
 refine bP (od := odC [] true (aA .i64 y7) []) (Φ := aA .i64 y7) rfl (fun _ => rfl) trivial rfl rfl (has rfl) (aD.cons (has rfl) (aD.cons (has rfl) aD.nil)) rfl (cb rfl) (aAk y4 y6 y7 h7) (fun _ => ?_)
 refine M1 ?_
 intros
 refine Z5 ?_
 cases H
 refine aH [] (by decide) ?_
 exact To
 exact fk
 kernel_rfl
 refine Z5 ?_
 revert H; refine is (fun c3 H => ?_) fun c3 H => ?_
 refine Z1 ?_
 refine aI ?_
 revert H; refine bs fun y8 h8 H => ?_
 revert H; refine bs fun y9 h9 H => ?_
 revert H; refine bs fun y10 h10 H => ?_
 revert H; refine bs fun y11 h11 H => ?_
 apply bG (ods := [_, _, _, _, _, _, _, _, _, _, _, _, _, _, _, _, _, _]) 18 0 1 bF rfl rfl rfl
 dsimp only [bA, List.take, List.replicate, List.append, List.drop]
 refine M7 ?_
 intros
 refine bP (od := odC [] true (aA .i64 y9) []) (Φ := aA .i64 y9) rfl (fun _ => rfl) trivial rfl rfl (has rfl) (aD.cons (has rfl) (aD.cons (has rfl) (aD.cons (has rfl) (aD.cons (has rfl) aD.nil)))) rfl (cb rfl) (ih_r05_Look_Sends a0 a1 y8 a3 y9 h9) (fun _ => ?_)
 refine M7 ?_
 intros
 refine bP (od := odC [] true (aA .i64 y11) []) (Φ := aA .i64 y11) rfl (fun _ => rfl) trivial rfl rfl (has rfl) (aD.cons (has rfl) (aD.cons (has rfl) (aD.cons (has rfl) (aD.cons (has rfl) aD.nil)))) rfl (cb rfl) (ih_r05_Look_Sends a0 a1 y10 a3 y11 h11) (fun _ => ?_)
 refine My (o_max rfl hh hh) fun _ => ?_
 refine M1 ?_
 intros
 refine Z5 ?_
 cases H
 refine aH [] (by decide) ?_
 exact To
 exact fk
 kernel_rfl
 refine Z1 ?_
 revert H; refine bs fun o1 H Hr1 => ?_
 refine aT (ι := Bool) (fun i => o1 = i) (fun i => [(0, aG dX a0), (1, fSl bD a1), (2, aA .i64 a2), (3, aA .i64 a3), (9, fEq (.pointer (some ⟨b1, 0, none⟩))), (19, aA .i64 y1.Op), (65, aK i)]) (fun i => [aC b1 51 [aA .i64 y1.Op, aA .i64 y1.N, fSl aW y1.Args, fSl (aB .i64) y1.Kids]]) ?_ ?_
 refine Z4 ?_
 revert H; refine is (fun c4 H => ?_) fun c4 H => ?_
 refine Z3 ?_
 exact Tm (decide (y1.Op = 6)) (ij H)
 refine Z5 ?_
 exact Tm (decide (y1.Op = 8)) (ij H)
 clear H; intro x1 hi; subst o1; have H := Hr1; clear Hr1; try dsimp only at H
 try dsimp only
 revert H; refine cs (fun c5 H => ?_) fun c5 H => ?_
 refine Z6 ?_
 revert H; refine bs fun y12 h12 H => ?_
 refine Z3 ?_
 revert H; refine bs fun y13 h13 H => ?_
 refine Tc (ih_r05_Look_Sends _ _ _ _ _ h13) ?_
 refine Z5 ?_
 cases H
 refine aH [] (by decide) ?_
 exact To
 refine Z5 ?_
 revert H; refine is (fun c6 H => ?_) fun c6 H => ?_
 refine Z6 ?_
 revert H; refine bs fun y14 h14 H => ?_
 refine Tc (ih_r05_Look_Inner _ _ _ _ _ h14) ?_
 refine Z5 ?_
 cases H
 refine aH [] (by decide) ?_
 exact To
 refine Z8 ?_
 cases H
 refine aH [] (by decide) ?_
 exact To
 intro a0 a1 a2 a3 r H
 rw [pZ] at H
 refine bK Tryz.func74 rfl Tryz.ntmps74 rfl (fun β => ?_)
 refine Z10 ?_
 revert H; refine bs fun y1 h1 H => ?_
 refine Z2 ?_
 refine aR trivial rfl rfl (cB rfl iS rfl) (fun b1 => ?_)
 refine dB (φs' := [aA .i64 y1.Op, aA .i64 y1.N, fSl aW y1.Args, fSl (aB .i64) y1.Kids]) trivial rfl rfl (has rfl) (has rfl) (aM (aF trivial) (aM (aF trivial) (aM (bB) (aM (bB) bR)))) (sz rfl) rfl rfl rfl ?_
 refine Z1 ?_
 refine aI ?_
 revert H; refine bs fun y2 h2 H => ?_
 apply bG (ods := [_, _, _, _, _, _, _, _, _, _, _]) 11 1 2 bF rfl rfl rfl
 dsimp only [bA, List.take, List.replicate, List.append, List.drop]
 refine M8 ?_
 intros
 refine M1 ?_
 intros
 refine Mn 1 (fun b2 => ptr b2) (fun b2 => aC b2 99 [fEq (.slice none 0 0), fEq (.slice none 0 0), fEq (.slice none 0 0)]) rfl (cB rfl jW rfl) (fun b2 u1 => ?_)
 refine pB (od := od1 9 [1] true (fun b2 _ => fAny) (fun b2 _ => [aC b2 99 [fSl aY y2.Chans, fSl bI y2.Spots, fSl bC y2.Rules]])) (p := 1) (φs' := [fSl aY y2.Chans, fSl bI y2.Spots, fSl bC y2.Rules]) rfl (fun _ => rfl) (fun _ => rfl) trivial rfl rfl rfl (has rfl) (has rfl) (aM (bB) (aM (bB) (aM (bB) bR))) (sz rfl) rfl rfl rfl (fun _ => ?_)
 refine Z7 ?_
 revert H; refine bs fun y3 h3 H => ?_
 refine Z3 ?_
 revert H; refine bs fun y4 h4 H => ?_
 refine Tc (ih_r05_Look_Sends _ _ _ _ _ h4) ?_
 refine Z2 ?_
 revert H; refine bs fun o1 H Hr1 => ?_
 refine aT (ι := Int) (fun i => o1 = i) (fun i => [(0, aG dX a0), (1, fSl bD a1), (3, aA .i64 a3), (9, fEq (.pointer (some ⟨b1, 0, none⟩))), (10, fEq (.pointer (some ⟨b2, 0, none⟩))), (11, aA .i64 i)]) (fun i => [aC b1 51 [aA .i64 y1.Op, aA .i64 y1.N, fSl aW y1.Args, fSl (aB .i64) y1.Kids], aC b2 99 [fSl aY y2.Chans, fSl bI y2.Spots, fSl bC y2.Rules]]) ?_ ?_
 refine Z4 ?_
 refine Tl (ι := Nat × Int × Int) (fun i => nA (fA fuel) a0 a1 a3 y2 i.1 i.2.1 i.2.2 = _) (fun i => i.1) (fun i => [(0, aG dX a0), (1, fSl bD a1), (3, aA .i64 a3), (9, fEq (.pointer (some ⟨b1, 0, none⟩))), (10, fEq (.pointer (some ⟨b2, 0, none⟩))), (11, aA .i64 i.2.1), (12, aA .i64 i.2.2)]) (fun i => [aC b1 51 [aA .i64 y1.Op, aA .i64 y1.N, fSl aW y1.Args, fSl (aB .i64) y1.Kids], aC b2 99 [fSl aY y2.Chans, fSl bI y2.Spots, fSl bC y2.Rules]]) (fuel, y4, 0) H ?_
 clear H; rintro ⟨k1, x4, x5⟩ H
 replace H : nA (fA fuel) a0 a1 a3 y2 k1 x4 x5 = _ := H
 try dsimp only
 obtain _ | k1 := k1
 rw [nA] at H; cases H
 rw [nA] at H
 refine aI ?_
 refine Z7 ?_
 revert H; refine is (fun c1 H => ?_) fun c1 H => ?_
 refine Z3 ?_
 refine aI ?_
 refine Z8 ?_
 revert H; refine bs fun y5 h5 H => ?_
 refine Z4 ?_
 revert H; refine bs fun y6 h6 H => ?_
 refine Tc (ih_r05_Look_Sends _ _ _ _ _ h6) ?_
 revert H; refine bs fun y7 h7 H => ?_
 refine Tc (aAk _ _ _ h7) ?_
 refine Z6 ?_
 revert H; refine bs fun z1 h8 H => ?_
 refine Z3 ?_
 exact Tm ((k1, y7, z1)) ⟨H, ls⟩
 refine Z6 ?_
 exact Tm (x4) (ij H)
 clear H; intro x1 hi; subst o1; have H := Hr1; clear Hr1; try dsimp only at H
 try dsimp only
 revert H; refine bs fun o2 H Hr2 => ?_
 refine aT (ι := Int) (fun i => o2 = i) (fun i => [(11, aA .i64 i)]) (fun i => [aC b1 51 [aA .i64 y1.Op, aA .i64 y1.N, fSl aW y1.Args, fSl (aB .i64) y1.Kids], aC b2 99 [fSl aY y2.Chans, fSl bI y2.Spots, fSl bC y2.Rules]]) ?_ ?_
 refine Z4 ?_
 refine Tl (ι := Nat × Int × Int) (fun i => pA (fA fuel) a0 a1 a3 y1 y2 i.1 i.2.1 i.2.2 = _) (fun i => i.1) (fun i => [(0, aG dX a0), (1, fSl bD a1), (3, aA .i64 a3), (9, fEq (.pointer (some ⟨b1, 0, none⟩))), (10, fEq (.pointer (some ⟨b2, 0, none⟩))), (11, aA .i64 i.2.1), (13, aA .i64 i.2.2)]) (fun i => [aC b1 51 [aA .i64 y1.Op, aA .i64 y1.N, fSl aW y1.Args, fSl (aB .i64) y1.Kids], aC b2 99 [fSl aY y2.Chans, fSl bI y2.Spots, fSl bC y2.Rules]]) (fuel, x1, 0) H ?_
 clear H; rintro ⟨k2, x9, x10⟩ H
 replace H : pA (fA fuel) a0 a1 a3 y1 y2 k2 x9 x10 = _ := H
 try dsimp only
 obtain _ | k2 := k2
 rw [pA] at H; cases H
 rw [pA] at H
 refine aI ?_
 refine Z7 ?_
 revert H; refine is (fun c2 H => ?_) fun c2 H => ?_
 refine Z3 ?_
 refine aI ?_
 refine Z1 ?_
 revert H; refine bs fun y8 h9 H => ?_
 revert H; refine bs fun y9 h10 H => ?_
 revert H; refine bs fun y10 h11 H => ?_
 revert H; refine bs fun y11 h12 H => ?_
 revert H; refine bs fun y12 h13 H => ?_
 revert H; refine bs fun y13 h14 H => ?_
 revert H; refine bs fun y14 h15 H => ?_
 apply bG (ods := [_, _, _, _, _, _, _, _, _, _, _, _, _, _, _, _, _, _, _, _, _, _, _, _]) 24 0 2 bF rfl rfl rfl
 dsimp only [bA, List.take, List.replicate, List.append, List.drop]
 refine M8 ?_
 intros
 refine M2 ?_
 intros
 refine bP (od := odC [] true (aA .i64 y10) []) (Φ := aA .i64 y10) rfl (fun _ => rfl) trivial rfl rfl (has rfl) (aD.cons (has rfl) aD.nil) rfl (cb rfl) (aAs y9 y10 h11) (fun _ => ?_)
 refine M8 ?_
 intros
 refine M1 ?_
 intros
 refine bP (od := odC [] true (aA .i64 y12) []) (Φ := aA .i64 y12) rfl (fun _ => rfl) trivial rfl rfl (has rfl) (aD.cons (has rfl) (aD.cons (has rfl) (aD.cons (has rfl) (aD.cons (has rfl) aD.nil)))) rfl (cb rfl) (ih_r05_Look_Sends a0 a1 y11.Node a3 y12 h13) (fun _ => ?_)
 refine bP (od := odC [] true (aA .i64 y13) []) (Φ := aA .i64 y13) rfl (fun _ => rfl) trivial rfl rfl (has rfl) (aD.cons (has rfl) (aD.cons (has rfl) aD.nil)) rfl (cb rfl) (aG9 y10 y12 y13 h14) (fun _ => ?_)
 refine bP (od := odC [] true (aA .i64 y14) []) (Φ := aA .i64 y14) rfl (fun _ => rfl) trivial rfl rfl (has rfl) (aD.cons (has rfl) (aD.cons (has rfl) aD.nil)) rfl (cb rfl) (aAk x9 y13 y14 h15) (fun _ => ?_)
 refine M1 ?_
 intros
 refine Z6 ?_
 revert H; refine bs fun z2 h16 H => ?_
 refine Z3 ?_
 exact Tm ((k2, y14, z2)) ⟨H, ls⟩
 exact fk
 kernel_rfl
 refine Z6 ?_
 exact Tm (x9) (ij H)
 clear H; intro x6 hi; subst o2; have H := Hr2; clear Hr2; try dsimp only at H
 try dsimp only
 refine Z5 ?_
 cases H
 refine aH [] (by decide) ?_
 exact To
 exact fk
 kernel_rfl
theorem aG5 (fuel : Nat)  (a0 : Ref05_Look) (a1 : List UsageDef) (a2 : Int) (a3 : Int) (r : Int) (H : fA fuel a0 a1 a2 a3 = some r) : FnS Tryz.prog 32 [aG dX a0, fSl bD a1, aA .i64 a2, aA .i64 a3] [] (aA .i64 r) (fun _ => []) := (aDz fuel).1 a0 a1 a2 a3 r H
theorem aHx (fuel : Nat)  (a0 : Ref05_Look) (a1 : List UsageDef) (a2 : Int) (a3 : Int) (r : Int) (H : pZ fuel a0 a1 a2 a3 = some r) : FnS Tryz.prog 74 [aG dX a0, fSl bD a1, aA .i64 a2, aA .i64 a3] [] (aA .i64 r) (fun _ => []) := (aDz fuel).2 a0 a1 a2 a3 r H
end Go.Proofs.YtmnbfgeljmhekaaGreat
