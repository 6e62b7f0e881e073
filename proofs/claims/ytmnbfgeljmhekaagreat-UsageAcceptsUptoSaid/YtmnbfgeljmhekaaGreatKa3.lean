/- Parts of the proof: lemmas, and the steps through the program. -/
import Derived.Test.YtmnbfgeljmhekaaGreatKa2
set_option linter.unusedVariables false
set_option linter.unusedSimpArgs false
set_option maxRecDepth 100000
set_option maxHeartbeats 2000000
namespace Go.Proofs.YtmnbfgeljmhekaaGreat
open Go.SX Go.SW Go.Dt
attribute [local irreducible] Code.wpIn wpListIn Exit.then Exit.inBlock
def kG (fuel : Nat) (y2 : Usage_text) (x2 : Int) (y6 : UsageDef) : Nat → Int → Option ((Unit) ⊕ ((Unit) ⊕ (Bool × Int)))
| 0, _ => none
| k + 1, x4 =>
 if x4 < (y6.Chans.length : Int) then
  ((idx y6.Chans x4).bind fun y7 =>
  if y7 = 2 then
   (idx y2.heads x2).bind fun y8 =>
   (pH y2 x2 x4).bind fun y9 =>
   (kN fuel y2 y8 y9).bind fun y10 =>
   if y10 ≠ 1 then
    (((some (false, 0)).bind fun r => some (Sum.inr r)).bind fun r => some (Sum.inr r)).bind fun r => some (Sum.inr r)
   else
    some (Sum.inl ())
  else
   some (Sum.inl ())).bind fun o => match o with
  | Sum.inr r => some r
  | Sum.inl _ =>
  (chk (x4 + 1)).bind fun z1 =>
  kG fuel y2 x2 y6 k z1
 else
  some (Sum.inl ())
def kC (fuel : Nat) (a1 : List UsageDef) (y2 : Usage_text) : Nat → Int → Option ((Unit) ⊕ (Bool × Int))
| 0, _ => none
| k + 1, x2 =>
 if x2 < (a1.length : Int) then
  ((idx a1 x2).bind fun y6 =>
  kG fuel y2 x2 y6 fuel 0).bind fun o => match o with
  | Sum.inr r => some r
  | Sum.inl _ =>
  (chk (x2 + 1)).bind fun z2 =>
  kC fuel a1 y2 k z2
 else
  some (Sum.inl ())
def qF (fuel : Nat) (a0 : ScopeProg) (a1 : List UsageDef) : Option (Bool × Int) :=
 (rR fuel (⟨a0.Free, a0.Nodes, a0.Defs, a0.Main⟩ : ScopeProg)).bind fun y1 =>
 if y1 ≠ 0 then
  some (false, 2)
 else
  (pV fuel (⟨a0.Free, a0.Nodes, a0.Defs, a0.Main⟩ : ScopeProg)).bind fun y2 =>
  (uN fuel y2 a1).bind fun y3 =>
  bif y3 then
   (rF fuel y2 a1).bind fun y4 =>
   (qC fuel a1 y4 (fun x => rD x.1 x.2.1 x.2.2)).bind fun y5 =>
   bif y5 then
    (kC fuel a1 y2 fuel 0).bind fun o => match o with
    | Sum.inr r => some r
    | Sum.inl _ =>
    some (true, 0)
   else
    some (false, 0)
  else
   some (false, 2)
theorem zE (fuel : Nat)  (a0 : ScopeProg) (a1 : List UsageDef) (r : Bool × Int) (H : qF fuel a0 a1 = some r) : FnS Tryz.prog 17 [fSt cY a0, fSl aX a1] [] (dC [aL r.1, aA .i64 r.2]) (fun _ => []) := by
 unfold qF at H
 refine bJ Tryz.func17 rfl Tryz.ntmps17 rfl (fun β => ?_)
 refine Z1 ?_
 refine Tn (cF rfl (has rfl) bO) fun b1 => ?_
 refine Z3 ?_
 refine aG ?_
 revert H; refine B2 fun y1 h1 H => ?_
 refine Tc (aBb _ _ _ h1) ?_
 revert H; refine I2 (fun c1 H => ?_) fun c1 H => ?_
 refine Z6 ?_
 cases H
 refine aH [] (by decide) ?_
 exact eW rfl (bL rfl) (bL rfl) rfl
 revert H; refine B5 fun y2 h2 H => ?_
 refine Tc (aBK _ _ _ h2) ?_
 refine Z2 ?_
 refine aG ?_
 revert H; refine B3 fun y3 h3 H => ?_
 refine Tc (aEn _ _ _ _ h3) ?_
 refine Z2 ?_
 revert H; refine cs (fun c2 H => ?_) fun c2 H => ?_
 refine Z3 ?_
 refine aG ?_
 revert H; refine B4 fun y4 h4 H => ?_
 refine iE trivial rfl rfl rfl (has rfl) (aO.cons (has rfl) (aO.cons (has rfl) aO.nil)) rfl (cb rfl) (aHd fuel y2 a1 y4 h4) rfl ?_
 revert H; refine bs fun y5 h5 H => ?_
 refine iE trivial rfl rfl rfl (has rfl) (aO.cons (has rfl) (aO.cons (has rfl) (aO.cons (dM rfl (sA (cb rfl) (fun x r hx => aFl x.1 x.2.1 x.2.2 r hx))) aO.nil))) rfl (cb rfl) (aBT fuel a1 y4 (fun x => rD x.1 x.2.1 x.2.2) y5 h5) rfl ?_
 refine Z2 ?_
 revert H; refine cs (fun c3 H => ?_) fun c3 H => ?_
 revert H; refine B3 fun o1 H Hr1 => ?_
 refine aR (ι := Unit) (fun i => o1 = Sum.inl ()) (fun i => []) (fun i => [aC b1 26 [fSl aM a0.Free, fSl aK a0.Nodes, fSl aI a0.Defs, aA .i64 a0.Main]]) ?_ ?_
 refine Z6 ?_
 refine Tl (ι := Nat × Int) (fun i => kC fuel a1 y2 i.1 i.2 = _) (fun i => i.1) (fun i => [(1, fSl aX a1), (6, aF bN y2), (26, aA .i64 (a1.length : Int)), (27, aA .i64 i.2)]) (fun i => [aC b1 26 [fSl aM a0.Free, fSl aK a0.Nodes, fSl aI a0.Defs, aA .i64 a0.Main]]) (fuel, 0) H ?_
 clear H; rintro ⟨k1, x2⟩ H
 replace H : kC fuel a1 y2 k1 x2 = _ := H
 try dsimp only
 obtain _ | k1 := k1
 rw [kC] at H; cases H
 rw [kC] at H
 refine Z3 ?_
 refine aG ?_
 revert H; refine is (fun c4 H => ?_) fun c4 H => ?_
 revert H; refine B3 fun o2 H Hr2 => ?_
 refine aR (ι := Unit) (fun i => o2 = Sum.inl ()) (fun i => [(1, fSl aX a1), (6, aF bN y2), (26, aA .i64 (a1.length : Int)), (27, aA .i64 x2)]) (fun i => [aC b1 26 [fSl aM a0.Free, fSl aK a0.Nodes, fSl aI a0.Defs, aA .i64 a0.Main]]) ?_ ?_
 revert H; refine B8 fun y6 h6 H => ?_
 refine Z7 ?_
 refine Tl (ι := Nat × Int) (fun i => kG fuel y2 x2 y6 i.1 i.2 = _) (fun i => i.1) (fun i => [(1, fSl aX a1), (6, aF bN y2), (26, aA .i64 (a1.length : Int)), (27, aA .i64 x2), (7, aA .i64 x2), (34, fSl (aB .i64) y6.Chans), (35, aA .i64 (y6.Chans.length : Int)), (36, aA .i64 i.2)]) (fun i => [aC b1 26 [fSl aM a0.Free, fSl aK a0.Nodes, fSl aI a0.Defs, aA .i64 a0.Main]]) (fuel, 0) H ?_
 clear H; rintro ⟨k2, x4⟩ H
 replace H : kG fuel y2 x2 y6 k2 x4 = _ := H
 try dsimp only
 obtain _ | k2 := k2
 rw [kG] at H; cases H
 rw [kG] at H
 refine Z3 ?_
 refine aG ?_
 revert H; refine is (fun c5 H => ?_) fun c5 H => ?_
 revert H; refine B3 fun o3 H Hr3 => ?_
 refine aR (ι := Unit) (fun i => o3 = Sum.inl ()) (fun i => [(1, fSl aX a1), (6, aF bN y2), (26, aA .i64 (a1.length : Int)), (27, aA .i64 x2), (7, aA .i64 x2), (34, fSl (aB .i64) y6.Chans), (35, aA .i64 (y6.Chans.length : Int)), (36, aA .i64 x4)]) (fun i => [aC b1 26 [fSl aM a0.Free, fSl aK a0.Nodes, fSl aI a0.Defs, aA .i64 a0.Main]]) ?_ ?_
 revert H; refine B3 fun y7 h7 H => ?_
 refine Z5 ?_
 refine aG ?_
 revert H; refine is (fun c6 H => ?_) fun c6 H => ?_
 revert H; refine bs fun y8 h8 H => ?_
 revert H; refine bs fun y9 h9 H => ?_
 revert H; refine bs fun y10 h10 H => ?_
 apply bC (ods := [_, _, _, _, _, _, _, _, _, _, _, _, _, _, _, _, _, _]) 18 0 1 bB rfl rfl rfl
 refine ND ?_
 refine M8 ?_
 intros
 refine M6 ?_
 intros
 refine Nc (yZ _ _ _ _ h9) fun _ => ?_
 refine Nc (aCa _ _ _ _ _ h10) fun _ => ?_
 refine M2 ?_
 intros
 revert H; refine I2 (fun c7 H => ?_) fun c7 H => ?_
 revert H; refine B8 fun r1 H e1 => ?_
 cases e1; cases Hr3
 revert H; refine B4 fun r2 H e2 => ?_
 cases e2; cases Hr2
 revert H; refine B3 fun r3 H e3 => ?_
 cases e3; cases Hr1
 cases H
 refine aH [] (by decide) ?_
 exact eW rfl (bL rfl) (bL rfl) rfl
 refine Z4 ?_
 exact Tm (()) (ij H)
 exact fk
 kernel_rfl
 apply bC (ods := [_, _, _, _, _, _, _, _, _, _, _, _, _, _, _, _, _, _]) 18 0 1 bB rfl rfl rfl
 refine ND ?_
 refine M8 ?_
 intros
 refine M8 ?_
 intros
 refine M2 ?_
 intros
 refine Z6 ?_
 exact Tm (()) (ij H)
 exact fk
 kernel_rfl
 clear H; intro i hi; subst o3; have H := Hr3; clear Hr3; try dsimp only at H
 try dsimp only
 revert H; refine B1 fun z1 h11 H => ?_
 refine Z3 ?_
 exact Tm ((k2, z1)) ⟨H, ls⟩
 refine Z7 ?_
 exact Tm (()) (ij H)
 clear H; intro i hi; subst o2; have H := Hr2; clear Hr2; try dsimp only at H
 try dsimp only
 revert H; refine B1 fun z2 h12 H => ?_
 refine Z3 ?_
 exact Tm ((k1, z2)) ⟨H, ls⟩
 refine Z6 ?_
 exact Tm (()) (ij H)
 clear H; intro i hi; subst o1; have H := Hr1; clear Hr1; try dsimp only at H
 try dsimp only
 refine Z5 ?_
 cases H
 refine aH [] (by decide) ?_
 exact eW rfl (bL rfl) (bL rfl) rfl
 refine Z6 ?_
 cases H
 refine aH [] (by decide) ?_
 exact eW rfl (bL rfl) (bL rfl) rfl
 refine Z6 ?_
 cases H
 refine aH [] (by decide) ?_
 exact eW rfl (bL rfl) (bL rfl) rfl
def zF (a0 : Int) : Option (List ScopeExp) :=
 some [(⟨1, a0, []⟩ : ScopeExp)]
theorem aEu  (a0 : Int) (r : List ScopeExp) (H : zF a0 = some r) : FnS Tryz.prog 61 [aA .i64 a0] [] (fSl bD r) (fun _ => []) := by
 unfold zF at H
 refine bJ Tryz.func61 rfl Tryz.ntmps61 rfl (fun β => ?_)
 refine Z5 ?_
 refine Yy (dN (ψs := [aA .i64 1, aA .i64 a0, fEq (.slice none 0 0)]) rfl aDc rfl (aW.cons (has rfl) (aS (aE trivial)) (aW.cons (has rfl) (aS (aE trivial)) aW.nil)) rfl) ?_
 refine Tn (cH (t := bD) (xs := [(⟨1, a0, []⟩ : ScopeExp)]) rfl (et rfl) (aQ.cons rfl (dM rfl (gF (aP.cons Ent.rfl (aP.cons Ent.rfl (aP.cons (aEz eC) aP.nil))))) bO aQ.nil) rfl rfl rfl) fun b1 => ?_
 generalize (Value.slice (some ⟨b1, 0, none⟩) _ _) = v1
 refine aN 0 rfl (fun hc_v1 => ?_)
 refine Z3 ?_
 refine cR (φ := fSl bD [(⟨1, a0, []⟩ : ScopeExp)]) (v := v1) [2, 5] cL fz ?_
 refine cT ?_
 cases H
 exact To
def tZ (a0 : List Int) : Nat → (List ScopeExp) → Int → Option (List ScopeExp)
| 0, _, _ => none
| k + 1, x4, x5 =>
 if x5 < (a0.length : Int) then
  (idx a0 x5).bind fun y1 =>
  (eI (x4 ++ [(⟨2, y1, []⟩ : ScopeExp)])).bind fun z1 =>
  (chk (x5 + 1)).bind fun z2 =>
  tZ a0 k z1 z2
 else
  some x4
def sI (fuel : Nat) (a0 : List Int) : Option (List ScopeExp) :=
 (tZ a0 fuel [] 0).bind fun x1 =>
 some x1
theorem yV (fuel : Nat)  (a0 : List Int) (r : List ScopeExp) (H : sI fuel a0 = some r) : FnS Tryz.prog 62 [fSl (aB .i64) a0] [] (fSl bD r) (fun _ => []) := by
 unfold sI at H
 refine bJ Tryz.func62 rfl Tryz.ntmps62 rfl (fun β => ?_)
 revert H; refine B6 fun o1 H Hr1 => ?_
 refine aR (ι := List ScopeExp × Value) (fun i => o1 = i.1) (fun i => [(3, fEq i.2)]) (fun i => [aD i.2 56 bD i.1]) ?_ ?_
 refine Z4 ?_
 refine oF bD 56 ?_
 refine Tl (ι := Nat × List ScopeExp × Int × Value) (fun i => tZ a0 i.1 i.2.1 i.2.2.1 = _) (fun i => i.1) (fun i => [(0, fSl (aB .i64) a0), (3, fEq i.2.2.2), (4, aA .i64 i.2.2.1)]) (fun i => [aD i.2.2.2 56 bD i.2.1]) (fuel, [], 0, (.slice none 0 0)) H ?_
 clear H; rintro ⟨k1, x4, x5, v3⟩ H
 replace H : tZ a0 k1 x4 x5 = _ := H
 try dsimp only
 obtain _ | k1 := k1
 rw [tZ] at H; cases H
 rw [tZ] at H
 refine aN 0 rfl (fun hc_v3 => ?_)
 refine aG ?_
 revert H; refine I6 (fun c1 H => ?_) fun c1 H => ?_
 refine Z3 ?_
 refine aG ?_
 revert H; refine B5 fun y1 h1 H => ?_
 refine Z2 ?_
 refine Yy (dN (ψs := [aA .i64 2, aA .i64 y1, fEq (.slice none 0 0)]) rfl aDc rfl (aW.cons (has rfl) (aS (aE trivial)) (aW.cons (has rfl) (aS (aE trivial)) aW.nil)) rfl) ?_
 refine Tn (cH (t := bD) (xs := [(⟨2, y1, []⟩ : ScopeExp)]) rfl (et rfl) (aQ.cons rfl (dM rfl (gF (aP.cons Ent.rfl (aP.cons Ent.rfl (aP.cons (aEz eC) aP.nil))))) bO aQ.nil) rfl rfl rfl) fun b1 => ?_
 generalize (Value.slice (some ⟨b1, 0, none⟩) _ _) = v4
 refine aN 0 rfl (fun hc_v4 => ?_)
 revert H; refine bs fun z1 h2 H => ?_
 refine pQ trivial rfl rfl rfl (has rfl) (has rfl) (et rfl) rfl h2 (fun v5 => ?_)
 refine aN 0 rfl (fun hc_v5 => ?_)
 revert H; refine B6 fun z2 h3 H => ?_
 refine Z3 ?_
 exact Tm ((k1, z1, z2, v5)) ⟨H, ls⟩
 refine Z6 ?_
 exact Tm ((x4, v3)) (ij H)
 clear H; intro i hi; obtain ⟨x1, v1⟩ := i; subst o1; have H := Hr1; clear Hr1; try dsimp only at H
 try dsimp only
 refine aN 0 rfl (fun hc_v1 => ?_)
 refine Z5 ?_
 refine cR (φ := fSl bD x1) (v := v1) [3, 19, 2] cL fz ?_
 refine cT ?_
 cases H
 exact To
def aAV (fuel : Nat)  : Option (ScopeProg) :=
 (zF 1).bind fun y1 =>
 (zF 2).bind fun y2 =>
 (sI fuel [5]).bind fun y3 =>
 (sI fuel [0]).bind fun y4 =>
 (sI fuel [1]).bind fun y5 =>
 (sI fuel [0]).bind fun y6 =>
 some (⟨[{ data := #[111, 117, 116] }], [(⟨4, 0, [], [5]⟩ : ScopeNode), (⟨3, 0, [], [2, 3]⟩ : ScopeNode), (⟨2, 4, y1, []⟩ : ScopeNode), (⟨2, 4, y2, []⟩ : ScopeNode), (⟨2, 4, y3, []⟩ : ScopeNode), (⟨3, 0, [], [6, 7]⟩ : ScopeNode), (⟨2, 2, y4, []⟩ : ScopeNode), (⟨3, 0, [], [8, 9]⟩ : ScopeNode), (⟨2, 3, y5, []⟩ : ScopeNode), (⟨4, 1, [], [11]⟩ : ScopeNode), (⟨2, 1, y6, []⟩ : ScopeNode), (⟨2, 4, [], []⟩ : ScopeNode)], [(⟨[(⟨0, 1⟩ : ScopeChan), (⟨0, 1⟩ : ScopeChan), (⟨0, 1⟩ : ScopeChan)], [], [(⟨0, [0], 1⟩ : ScopeRule), (⟨0, [1, 2], 4⟩ : ScopeRule)]⟩ : ScopeDef), (⟨[(⟨0, 0⟩ : ScopeChan)], [], [(⟨0, [0], 10⟩ : ScopeRule)]⟩ : ScopeDef)], 0⟩ : ScopeProg)
theorem aFE (fuel : Nat)   (r : ScopeProg) (H : aAV fuel = some r) : FnS Tryz.prog 23 [] [] (fSt cY r) (fun _ => []) := by
 unfold aAV at H
 refine bJ Tryz.func23 rfl Tryz.ntmps23 rfl (fun β => ?_)
 refine Z1 ?_
 refine Tn (bZ rfl aCP rfl) fun b1 => ?_
 refine Z2 ?_
 refine Yy (dN (ψs := [aA .i64 0, aA .i64 1]) rfl xI rfl (aW.cons (has rfl) (aS (aE trivial)) aW.nil) rfl) ?_
 refine Yy (dN (ψs := [aA .i64 0, aA .i64 1]) rfl xI rfl (aW.cons (has rfl) (aS (aE trivial)) aW.nil) rfl) ?_
 refine Yy (dN (ψs := [aA .i64 0, aA .i64 1]) rfl xI rfl (aW.cons (has rfl) (aS (aE trivial)) aW.nil) rfl) ?_
 refine Tn (cH (t := aU) (xs := [(⟨0, 1⟩ : ScopeChan), (⟨0, 1⟩ : ScopeChan), (⟨0, 1⟩ : ScopeChan)]) rfl (et rfl) (aQ.cons rfl (has rfl) bO (aQ.cons rfl (has rfl) bO (aQ.cons rfl (has rfl) bO aQ.nil))) rfl rfl rfl) fun b2 => ?_
 generalize (Value.slice (some ⟨b2, 0, none⟩) _ _) = v1
 refine aN 0 rfl (fun hc_v1 => ?_)
 refine Tn (cH (t := (aB .i64)) (xs := [0]) rfl (et rfl) (aQ.cons rfl (has rfl) (aS (aE trivial)) aQ.nil) rfl rfl rfl) fun b3 => ?_
 generalize (Value.slice (some ⟨b3, 0, none⟩) _ _) = v2
 refine aN 0 rfl (fun hc_v2 => ?_)
 refine Yy (dN (ψs := [aA .i64 0, fEq v2, aA .i64 1]) rfl aA3 rfl (aW.cons (has rfl) (aS (aE hc_v2)) (aW.cons (has rfl) (aS (aE trivial)) aW.nil)) rfl) ?_
 refine Tn (cH (t := (aB .i64)) (xs := [1, 2]) rfl (et rfl) (aQ.cons rfl (has rfl) (aS (aE trivial)) (aQ.cons rfl (has rfl) (aS (aE trivial)) aQ.nil)) rfl rfl rfl) fun b4 => ?_
 generalize (Value.slice (some ⟨b4, 0, none⟩) _ _) = v3
 refine aN 0 rfl (fun hc_v3 => ?_)
 refine Yy (dN (ψs := [aA .i64 0, fEq v3, aA .i64 4]) rfl aA3 rfl (aW.cons (has rfl) (aS (aE hc_v3)) (aW.cons (has rfl) (aS (aE trivial)) aW.nil)) rfl) ?_
 refine cI ?_
 refine cR (φ := fSl (aB .i64) [0]) (v := v2) [7] cL fz ?_
 refine qT 8 (ψ := fC [aA .i64 0, fEq v2, aA .i64 1]) rfl (qV (i := 1) (φs := [aA .i64 0, fEq v2, aA .i64 1]) (φs' := [aA .i64 0, fSl (aB .i64) [0], aA .i64 1]) rfl rfl) ?_
 refine cT ?_
 refine cR (φ := fSl (aB .i64) [1, 2]) (v := v3) [9] cL fz ?_
 refine qT 10 (ψ := fC [aA .i64 0, fEq v3, aA .i64 4]) rfl (qV (i := 1) (φs := [aA .i64 0, fEq v3, aA .i64 4]) (φs' := [aA .i64 0, fSl (aB .i64) [1, 2], aA .i64 4]) rfl rfl) ?_
 refine cT ?_
 refine Tn (cH (t := aZ) (xs := [(⟨0, [0], 1⟩ : ScopeRule), (⟨0, [1, 2], 4⟩ : ScopeRule)]) rfl (et rfl) (aQ.cons rfl (has rfl) bO (aQ.cons rfl (has rfl) bO aQ.nil)) rfl rfl rfl) fun b5 => ?_
 generalize (Value.slice (some ⟨b5, 0, none⟩) _ _) = v4
 refine aN 0 rfl (fun hc_v4 => ?_)
 refine Yy (dN (ψs := [fEq v1, fEq (.slice none 0 0), fEq v4]) rfl aCb rfl (aW.cons (has rfl) (aS (aE hc_v1)) (aW.cons (has rfl) (aS (aE hc_v4)) aW.nil)) rfl) ?_
 refine Tn (bZ rfl jD rfl) fun b6 => ?_
 refine cS (φs' := [fEq v1, fEq (.slice none 0 0), fEq v4]) trivial rfl rfl (has rfl) (has rfl) (aJ (aE hc_v1) (aJ (aE trivial) (aJ (aE hc_v4) bP))) (sz rfl) rfl rfl rfl ?_
 refine Z2 ?_
 refine Yy (dN (ψs := [aA .i64 0, aA .i64 0]) rfl xI rfl aW.nil rfl) ?_
 refine Tn (cH (t := aU) (xs := [(⟨0, 0⟩ : ScopeChan)]) rfl (et rfl) (aQ.cons rfl (has rfl) bO aQ.nil) rfl rfl rfl) fun b7 => ?_
 generalize (Value.slice (some ⟨b7, 0, none⟩) _ _) = v5
 refine aN 0 rfl (fun hc_v5 => ?_)
 refine Tn (cH (t := (aB .i64)) (xs := [0]) rfl (et rfl) (aQ.cons rfl (has rfl) (aS (aE trivial)) aQ.nil) rfl rfl rfl) fun b8 => ?_
 generalize (Value.slice (some ⟨b8, 0, none⟩) _ _) = v6
 refine aN 0 rfl (fun hc_v6 => ?_)
 refine Yy (dN (ψs := [aA .i64 0, fEq v6, aA .i64 10]) rfl aA3 rfl (aW.cons (has rfl) (aS (aE hc_v6)) (aW.cons (has rfl) (aS (aE trivial)) aW.nil)) rfl) ?_
 refine cR (φ := fSl (aB .i64) [0]) (v := v6) [15] cL fz ?_
 refine qT 16 (ψ := fC [aA .i64 0, fEq v6, aA .i64 10]) rfl (qV (i := 1) (φs := [aA .i64 0, fEq v6, aA .i64 10]) (φs' := [aA .i64 0, fSl (aB .i64) [0], aA .i64 10]) rfl rfl) ?_
 refine cT ?_
 refine Tn (cH (t := aZ) (xs := [(⟨0, [0], 10⟩ : ScopeRule)]) rfl (et rfl) (aQ.cons rfl (has rfl) bO aQ.nil) rfl rfl rfl) fun b9 => ?_
 generalize (Value.slice (some ⟨b9, 0, none⟩) _ _) = v7
 refine aN 0 rfl (fun hc_v7 => ?_)
 refine Yy (dN (ψs := [fEq v5, fEq (.slice none 0 0), fEq v7]) rfl aCb rfl (aW.cons (has rfl) (aS (aE hc_v5)) (aW.cons (has rfl) (aS (aE hc_v7)) aW.nil)) rfl) ?_
 refine Tn (bZ rfl jD rfl) fun b10 => ?_
 refine cS (φs' := [fEq v5, fEq (.slice none 0 0), fEq v7]) trivial rfl rfl (has rfl) (has rfl) (aJ (aE hc_v5) (aJ (aE trivial) (aJ (aE hc_v7) bP))) (sz rfl) rfl rfl rfl ?_
 refine Z1 ?_
 refine aG ?_
 refine lC ?_
 refine cR (φ := fSl aU [(⟨0, 1⟩ : ScopeChan), (⟨0, 1⟩ : ScopeChan), (⟨0, 1⟩ : ScopeChan)]) (v := v1) [6] cL fz ?_
 refine bK ?_
 refine cI ?_
 refine gN (φs' := [fSl aU [(⟨0, 1⟩ : ScopeChan), (⟨0, 1⟩ : ScopeChan), (⟨0, 1⟩ : ScopeChan)], fEq (.slice none 0 0), fEq v4]) (i := 0) rfl rfl ?_
 refine qT 12 (ψ := fC [fEq v1, fEq (.slice none 0 0), fEq v4]) rfl (qV (i := 0) (φs := [fEq v1, fEq (.slice none 0 0), fEq v4]) (φs' := [fSl aU [(⟨0, 1⟩ : ScopeChan), (⟨0, 1⟩ : ScopeChan), (⟨0, 1⟩ : ScopeChan)], fEq (.slice none 0 0), fEq v4]) rfl rfl) ?_
 refine cT ?_
 refine bK ?_
 refine cR (φ := fSl aZ [(⟨0, [0], 1⟩ : ScopeRule), (⟨0, [1, 2], 4⟩ : ScopeRule)]) (v := v4) [11] cL fz ?_
 refine gN (φs' := [fSl aU [(⟨0, 1⟩ : ScopeChan), (⟨0, 1⟩ : ScopeChan), (⟨0, 1⟩ : ScopeChan)], fEq (.slice none 0 0), fSl aZ [(⟨0, [0], 1⟩ : ScopeRule), (⟨0, [1, 2], 4⟩ : ScopeRule)]]) (i := 2) rfl rfl ?_
 refine qT 12 (ψ := fC [fSl aU [(⟨0, 1⟩ : ScopeChan), (⟨0, 1⟩ : ScopeChan), (⟨0, 1⟩ : ScopeChan)], fEq (.slice none 0 0), fEq v4]) rfl (qV (i := 2) (φs := [fSl aU [(⟨0, 1⟩ : ScopeChan), (⟨0, 1⟩ : ScopeChan), (⟨0, 1⟩ : ScopeChan)], fEq (.slice none 0 0), fEq v4]) (φs' := [fSl aU [(⟨0, 1⟩ : ScopeChan), (⟨0, 1⟩ : ScopeChan), (⟨0, 1⟩ : ScopeChan)], fEq (.slice none 0 0), fSl aZ [(⟨0, [0], 1⟩ : ScopeRule), (⟨0, [1, 2], 4⟩ : ScopeRule)]]) rfl rfl) ?_
 refine cT ?_
 refine cX ?_
 refine cR (φ := fSl aU [(⟨0, 0⟩ : ScopeChan)]) (v := v5) [14] cL fz ?_
 refine eB ?_
 refine cI ?_
 refine gN (φs' := [fSl aU [(⟨0, 0⟩ : ScopeChan)], fEq (.slice none 0 0), fEq v7]) (i := 0) rfl rfl ?_
 refine qT 18 (ψ := fC [fEq v5, fEq (.slice none 0 0), fEq v7]) rfl (qV (i := 0) (φs := [fEq v5, fEq (.slice none 0 0), fEq v7]) (φs' := [fSl aU [(⟨0, 0⟩ : ScopeChan)], fEq (.slice none 0 0), fEq v7]) rfl rfl) ?_
 refine cT ?_
 refine eB ?_
 refine cR (φ := fSl aZ [(⟨0, [0], 10⟩ : ScopeRule)]) (v := v7) [17] cL fz ?_
 refine gN (φs' := [fSl aU [(⟨0, 0⟩ : ScopeChan)], fEq (.slice none 0 0), fSl aZ [(⟨0, [0], 10⟩ : ScopeRule)]]) (i := 2) rfl rfl ?_
 refine qT 18 (ψ := fC [fSl aU [(⟨0, 0⟩ : ScopeChan)], fEq (.slice none 0 0), fEq v7]) rfl (qV (i := 2) (φs := [fSl aU [(⟨0, 0⟩ : ScopeChan)], fEq (.slice none 0 0), fEq v7]) (φs' := [fSl aU [(⟨0, 0⟩ : ScopeChan)], fEq (.slice none 0 0), fSl aZ [(⟨0, [0], 10⟩ : ScopeRule)]]) rfl rfl) ?_
 refine cT ?_
 revert H; refine bs fun y1 h1 H => ?_
 revert H; refine bs fun y2 h2 H => ?_
 revert H; refine bs fun y3 h3 H => ?_
 revert H; refine bs fun y4 h4 H => ?_
 revert H; refine bs fun y5 h5 H => ?_
 revert H; refine bs fun y6 h6 H => ?_
 apply bC (ods := [_, _, _, _, _, _, _, _, _, _, _, _, _, _, _, _, _, _, _, _, _, _, _, _, _, _, _, _, _, _, _, _, _, _]) 34 0 3 bB rfl rfl rfl
 refine ND ?_
 refine Mf (φ := fSl aM [{ data := #[111, 117, 116] }]) (cH (t := aM) (xs := [{ data := #[111, 117, 116] }]) rfl (et rfl) (aQ.cons rfl (has rfl) (aS (aE trivial)) aQ.nil) rfl rfl rfl) (fun b => cL) fun _ => ?_
 refine M2 ?_
 intros
 refine Mf (φ := fSl aI [(⟨[(⟨0, 1⟩ : ScopeChan), (⟨0, 1⟩ : ScopeChan), (⟨0, 1⟩ : ScopeChan)], [], [(⟨0, [0], 1⟩ : ScopeRule), (⟨0, [1, 2], 4⟩ : ScopeRule)]⟩ : ScopeDef), (⟨[(⟨0, 0⟩ : ScopeChan)], [], [(⟨0, [0], 10⟩ : ScopeRule)]⟩ : ScopeDef)]) (cH (t := aI) (xs := [(⟨[(⟨0, 1⟩ : ScopeChan), (⟨0, 1⟩ : ScopeChan), (⟨0, 1⟩ : ScopeChan)], [], [(⟨0, [0], 1⟩ : ScopeRule), (⟨0, [1, 2], 4⟩ : ScopeRule)]⟩ : ScopeDef), (⟨[(⟨0, 0⟩ : ScopeChan)], [], [(⟨0, [0], 10⟩ : ScopeRule)]⟩ : ScopeDef)]) rfl (et rfl) (aQ.cons rfl (dM rfl (gF (aP.cons Ent.rfl (aP.cons eC (aP.cons Ent.rfl aP.nil))))) bO (aQ.cons rfl (dM rfl (gF (aP.cons Ent.rfl (aP.cons eC (aP.cons Ent.rfl aP.nil))))) bO aQ.nil)) rfl rfl rfl) (fun b => cL) fun _ => ?_
 refine Mf (φ := fSl (aB .i64) [5]) (cH (t := (aB .i64)) (xs := [5]) rfl (et rfl) (aQ.cons rfl (has rfl) (aS (aE trivial)) aQ.nil) rfl rfl rfl) (fun b => cL) fun _ => ?_
 refine My (dN (ψs := [aA .i64 4, aA .i64 0, fEq (.slice none 0 0), fSl (aB .i64) [5]]) rfl jK rfl (aW.cons (has rfl) (aS (aE trivial)) (aW.cons (has rfl) (aS (bA)) aW.nil)) rfl) fun _ => ?_
 refine Mf (φ := fSl (aB .i64) [2, 3]) (cH (t := (aB .i64)) (xs := [2, 3]) rfl (et rfl) (aQ.cons rfl (has rfl) (aS (aE trivial)) (aQ.cons rfl (has rfl) (aS (aE trivial)) aQ.nil)) rfl rfl rfl) (fun b => cL) fun _ => ?_
 refine My (dN (ψs := [aA .i64 3, aA .i64 0, fEq (.slice none 0 0), fSl (aB .i64) [2, 3]]) rfl jK rfl (aW.cons (has rfl) (aS (aE trivial)) (aW.cons (has rfl) (aS (bA)) aW.nil)) rfl) fun _ => ?_
 refine Nc (aEu _ _ h1) fun _ => ?_
 refine My (dN (ψs := [aA .i64 2, aA .i64 4, fSl bD y1, fEq (.slice none 0 0)]) rfl jK rfl (aW.cons (has rfl) (aS (aE trivial)) (aW.cons (has rfl) (aS (aE trivial)) (aW.cons (has rfl) (aS (bA)) aW.nil))) rfl) fun _ => ?_
 refine Nc (aEu _ _ h2) fun _ => ?_
 refine My (dN (ψs := [aA .i64 2, aA .i64 4, fSl bD y2, fEq (.slice none 0 0)]) rfl jK rfl (aW.cons (has rfl) (aS (aE trivial)) (aW.cons (has rfl) (aS (aE trivial)) (aW.cons (has rfl) (aS (bA)) aW.nil))) rfl) fun _ => ?_
 refine Mf (φ := fSl (aB .i64) [5]) (cH (t := (aB .i64)) (xs := [5]) rfl (et rfl) (aQ.cons rfl (has rfl) (aS (aE trivial)) aQ.nil) rfl rfl rfl) (fun b => cL) fun _ => ?_
 refine Nc (yV _ _ _ h3) fun _ => ?_
 refine My (dN (ψs := [aA .i64 2, aA .i64 4, fSl bD y3, fEq (.slice none 0 0)]) rfl jK rfl (aW.cons (has rfl) (aS (aE trivial)) (aW.cons (has rfl) (aS (aE trivial)) (aW.cons (has rfl) (aS (bA)) aW.nil))) rfl) fun _ => ?_
 refine Mf (φ := fSl (aB .i64) [6, 7]) (cH (t := (aB .i64)) (xs := [6, 7]) rfl (et rfl) (aQ.cons rfl (has rfl) (aS (aE trivial)) (aQ.cons rfl (has rfl) (aS (aE trivial)) aQ.nil)) rfl rfl rfl) (fun b => cL) fun _ => ?_
 refine My (dN (ψs := [aA .i64 3, aA .i64 0, fEq (.slice none 0 0), fSl (aB .i64) [6, 7]]) rfl jK rfl (aW.cons (has rfl) (aS (aE trivial)) (aW.cons (has rfl) (aS (bA)) aW.nil)) rfl) fun _ => ?_
 refine Mf (φ := fSl (aB .i64) [0]) (cH (t := (aB .i64)) (xs := [0]) rfl (et rfl) (aQ.cons rfl (has rfl) (aS (aE trivial)) aQ.nil) rfl rfl rfl) (fun b => cL) fun _ => ?_
 refine Nc (yV _ _ _ h4) fun _ => ?_
 refine My (dN (ψs := [aA .i64 2, aA .i64 2, fSl bD y4, fEq (.slice none 0 0)]) rfl jK rfl (aW.cons (has rfl) (aS (aE trivial)) (aW.cons (has rfl) (aS (aE trivial)) (aW.cons (has rfl) (aS (bA)) aW.nil))) rfl) fun _ => ?_
 refine Mf (φ := fSl (aB .i64) [8, 9]) (cH (t := (aB .i64)) (xs := [8, 9]) rfl (et rfl) (aQ.cons rfl (has rfl) (aS (aE trivial)) (aQ.cons rfl (has rfl) (aS (aE trivial)) aQ.nil)) rfl rfl rfl) (fun b => cL) fun _ => ?_
 refine My (dN (ψs := [aA .i64 3, aA .i64 0, fEq (.slice none 0 0), fSl (aB .i64) [8, 9]]) rfl jK rfl (aW.cons (has rfl) (aS (aE trivial)) (aW.cons (has rfl) (aS (bA)) aW.nil)) rfl) fun _ => ?_
 refine Mf (φ := fSl (aB .i64) [1]) (cH (t := (aB .i64)) (xs := [1]) rfl (et rfl) (aQ.cons rfl (has rfl) (aS (aE trivial)) aQ.nil) rfl rfl rfl) (fun b => cL) fun _ => ?_
 refine Nc (yV _ _ _ h5) fun _ => ?_
 refine My (dN (ψs := [aA .i64 2, aA .i64 3, fSl bD y5, fEq (.slice none 0 0)]) rfl jK rfl (aW.cons (has rfl) (aS (aE trivial)) (aW.cons (has rfl) (aS (aE trivial)) (aW.cons (has rfl) (aS (bA)) aW.nil))) rfl) fun _ => ?_
 refine Mf (φ := fSl (aB .i64) [11]) (cH (t := (aB .i64)) (xs := [11]) rfl (et rfl) (aQ.cons rfl (has rfl) (aS (aE trivial)) aQ.nil) rfl rfl rfl) (fun b => cL) fun _ => ?_
 refine My (dN (ψs := [aA .i64 4, aA .i64 1, fEq (.slice none 0 0), fSl (aB .i64) [11]]) rfl jK rfl (aW.cons (has rfl) (aS (aE trivial)) (aW.cons (has rfl) (aS (aE trivial)) (aW.cons (has rfl) (aS (bA)) aW.nil))) rfl) fun _ => ?_
 refine Mf (φ := fSl (aB .i64) [0]) (cH (t := (aB .i64)) (xs := [0]) rfl (et rfl) (aQ.cons rfl (has rfl) (aS (aE trivial)) aQ.nil) rfl rfl rfl) (fun b => cL) fun _ => ?_
 refine Nc (yV _ _ _ h6) fun _ => ?_
 refine My (dN (ψs := [aA .i64 2, aA .i64 1, fSl bD y6, fEq (.slice none 0 0)]) rfl jK rfl (aW.cons (has rfl) (aS (aE trivial)) (aW.cons (has rfl) (aS (aE trivial)) (aW.cons (has rfl) (aS (bA)) aW.nil))) rfl) fun _ => ?_
 refine My (dN (ψs := [aA .i64 2, aA .i64 4, fEq (.slice none 0 0), fEq (.slice none 0 0)]) rfl jK rfl (aW.cons (has rfl) (aS (aE trivial)) (aW.cons (has rfl) (aS (aE trivial)) aW.nil)) rfl) fun _ => ?_
 refine Mf (φ := fSl aK [(⟨4, 0, [], [5]⟩ : ScopeNode), (⟨3, 0, [], [2, 3]⟩ : ScopeNode), (⟨2, 4, y1, []⟩ : ScopeNode), (⟨2, 4, y2, []⟩ : ScopeNode), (⟨2, 4, y3, []⟩ : ScopeNode), (⟨3, 0, [], [6, 7]⟩ : ScopeNode), (⟨2, 2, y4, []⟩ : ScopeNode), (⟨3, 0, [], [8, 9]⟩ : ScopeNode), (⟨2, 3, y5, []⟩ : ScopeNode), (⟨4, 1, [], [11]⟩ : ScopeNode), (⟨2, 1, y6, []⟩ : ScopeNode), (⟨2, 4, [], []⟩ : ScopeNode)]) (cH (t := aK) (xs := [(⟨4, 0, [], [5]⟩ : ScopeNode), (⟨3, 0, [], [2, 3]⟩ : ScopeNode), (⟨2, 4, y1, []⟩ : ScopeNode), (⟨2, 4, y2, []⟩ : ScopeNode), (⟨2, 4, y3, []⟩ : ScopeNode), (⟨3, 0, [], [6, 7]⟩ : ScopeNode), (⟨2, 2, y4, []⟩ : ScopeNode), (⟨3, 0, [], [8, 9]⟩ : ScopeNode), (⟨2, 3, y5, []⟩ : ScopeNode), (⟨4, 1, [], [11]⟩ : ScopeNode), (⟨2, 1, y6, []⟩ : ScopeNode), (⟨2, 4, [], []⟩ : ScopeNode)]) rfl (et rfl) (aQ.cons rfl (dM rfl (gF (aP.cons Ent.rfl (aP.cons Ent.rfl (aP.cons eC (aP.cons Ent.rfl aP.nil)))))) bO (aQ.cons rfl (dM rfl (gF (aP.cons Ent.rfl (aP.cons Ent.rfl (aP.cons eC (aP.cons Ent.rfl aP.nil)))))) bO (aQ.cons rfl (dM rfl (gF (aP.cons Ent.rfl (aP.cons Ent.rfl (aP.cons Ent.rfl (aP.cons eC aP.nil)))))) bO (aQ.cons rfl (dM rfl (gF (aP.cons Ent.rfl (aP.cons Ent.rfl (aP.cons Ent.rfl (aP.cons eC aP.nil)))))) bO (aQ.cons rfl (dM rfl (gF (aP.cons Ent.rfl (aP.cons Ent.rfl (aP.cons Ent.rfl (aP.cons eC aP.nil)))))) bO (aQ.cons rfl (dM rfl (gF (aP.cons Ent.rfl (aP.cons Ent.rfl (aP.cons eC (aP.cons Ent.rfl aP.nil)))))) bO (aQ.cons rfl (dM rfl (gF (aP.cons Ent.rfl (aP.cons Ent.rfl (aP.cons Ent.rfl (aP.cons eC aP.nil)))))) bO (aQ.cons rfl (dM rfl (gF (aP.cons Ent.rfl (aP.cons Ent.rfl (aP.cons eC (aP.cons Ent.rfl aP.nil)))))) bO (aQ.cons rfl (dM rfl (gF (aP.cons Ent.rfl (aP.cons Ent.rfl (aP.cons Ent.rfl (aP.cons eC aP.nil)))))) bO (aQ.cons rfl (dM rfl (gF (aP.cons Ent.rfl (aP.cons Ent.rfl (aP.cons eC (aP.cons Ent.rfl aP.nil)))))) bO (aQ.cons rfl (dM rfl (gF (aP.cons Ent.rfl (aP.cons Ent.rfl (aP.cons Ent.rfl (aP.cons eC aP.nil)))))) bO (aQ.cons rfl (dM rfl (gF (aP.cons Ent.rfl (aP.cons Ent.rfl (aP.cons eC (aP.cons eC aP.nil)))))) bO aQ.nil)))))))))))) rfl rfl rfl) (fun b => cL) fun _ => ?_
 refine My (dN (ψs := [fSl aM [{ data := #[111, 117, 116] }], fSl aK [(⟨4, 0, [], [5]⟩ : ScopeNode), (⟨3, 0, [], [2, 3]⟩ : ScopeNode), (⟨2, 4, y1, []⟩ : ScopeNode), (⟨2, 4, y2, []⟩ : ScopeNode), (⟨2, 4, y3, []⟩ : ScopeNode), (⟨3, 0, [], [6, 7]⟩ : ScopeNode), (⟨2, 2, y4, []⟩ : ScopeNode), (⟨3, 0, [], [8, 9]⟩ : ScopeNode), (⟨2, 3, y5, []⟩ : ScopeNode), (⟨4, 1, [], [11]⟩ : ScopeNode), (⟨2, 1, y6, []⟩ : ScopeNode), (⟨2, 4, [], []⟩ : ScopeNode)], fSl aI [(⟨[(⟨0, 1⟩ : ScopeChan), (⟨0, 1⟩ : ScopeChan), (⟨0, 1⟩ : ScopeChan)], [], [(⟨0, [0], 1⟩ : ScopeRule), (⟨0, [1, 2], 4⟩ : ScopeRule)]⟩ : ScopeDef), (⟨[(⟨0, 0⟩ : ScopeChan)], [], [(⟨0, [0], 10⟩ : ScopeRule)]⟩ : ScopeDef)], aA .i64 0]) rfl ty_bu_26 rfl (aW.cons (has rfl) (aS (bA)) (aW.cons (has rfl) (aS (bA)) (aW.cons (has rfl) (aS (bA)) aW.nil))) rfl) fun _ => ?_
 refine oT (od := odC [2] true (fAny) [aC b1 26 [fSl aM [{ data := #[111, 117, 116] }], fSl aK [(⟨4, 0, [], [5]⟩ : ScopeNode), (⟨3, 0, [], [2, 3]⟩ : ScopeNode), (⟨2, 4, y1, []⟩ : ScopeNode), (⟨2, 4, y2, []⟩ : ScopeNode), (⟨2, 4, y3, []⟩ : ScopeNode), (⟨3, 0, [], [6, 7]⟩ : ScopeNode), (⟨2, 2, y4, []⟩ : ScopeNode), (⟨3, 0, [], [8, 9]⟩ : ScopeNode), (⟨2, 3, y5, []⟩ : ScopeNode), (⟨4, 1, [], [11]⟩ : ScopeNode), (⟨2, 1, y6, []⟩ : ScopeNode), (⟨2, 4, [], []⟩ : ScopeNode)], fSl aI [(⟨[(⟨0, 1⟩ : ScopeChan), (⟨0, 1⟩ : ScopeChan), (⟨0, 1⟩ : ScopeChan)], [], [(⟨0, [0], 1⟩ : ScopeRule), (⟨0, [1, 2], 4⟩ : ScopeRule)]⟩ : ScopeDef), (⟨[(⟨0, 0⟩ : ScopeChan)], [], [(⟨0, [0], 10⟩ : ScopeRule)]⟩ : ScopeDef)], aA .i64 0]]) (p := 2) (φs' := [fSl aM [{ data := #[111, 117, 116] }], fSl aK [(⟨4, 0, [], [5]⟩ : ScopeNode), (⟨3, 0, [], [2, 3]⟩ : ScopeNode), (⟨2, 4, y1, []⟩ : ScopeNode), (⟨2, 4, y2, []⟩ : ScopeNode), (⟨2, 4, y3, []⟩ : ScopeNode), (⟨3, 0, [], [6, 7]⟩ : ScopeNode), (⟨2, 2, y4, []⟩ : ScopeNode), (⟨3, 0, [], [8, 9]⟩ : ScopeNode), (⟨2, 3, y5, []⟩ : ScopeNode), (⟨4, 1, [], [11]⟩ : ScopeNode), (⟨2, 1, y6, []⟩ : ScopeNode), (⟨2, 4, [], []⟩ : ScopeNode)], fSl aI [(⟨[(⟨0, 1⟩ : ScopeChan), (⟨0, 1⟩ : ScopeChan), (⟨0, 1⟩ : ScopeChan)], [], [(⟨0, [0], 1⟩ : ScopeRule), (⟨0, [1, 2], 4⟩ : ScopeRule)]⟩ : ScopeDef), (⟨[(⟨0, 0⟩ : ScopeChan)], [], [(⟨0, [0], 10⟩ : ScopeRule)]⟩ : ScopeDef)], aA .i64 0]) rfl (fun _ => rfl) (fun _ => rfl) trivial rfl rfl rfl (has rfl) (has rfl) (aJ (bA) (aJ (bA) (aJ (bA) (aJ (aE trivial) bP)))) (sz rfl) rfl rfl rfl (fun _ => ?_)
 refine Z3 ?_
 cases H
 refine aH [2] (by decide) ?_
 exact T_outCS rfl (ag rfl) rfl (bL rfl) Ent.rfl rfl
 exact fk
 kernel_rfl
def rO  : Option (List UsageDef) :=
 some ([(⟨[4, 2, 2], [4, 3], ([[4], [3], [4]] : List (List Int))⟩ : UsageDef), (⟨[2], [3], ([([] : List Int)] : List (List Int))⟩ : UsageDef)] : List UsageDef)
theorem aBi   (r : List UsageDef) (H : rO = some r) : FnS Tryz.prog 24 [] [] fAny (fun v => [(fun v => bM v 61 cW r) v]) := by
 unfold rO at H
 refine bJ Tryz.func24 rfl Tryz.ntmps24 rfl (fun β => ?_)
 refine Z12 ?_
 refine Z4 ?_
 refine Tn (cH (t := (aB .i64)) (xs := [4, 2, 2]) rfl (et rfl) (aQ.cons rfl (has rfl) (aS (aE trivial)) (aQ.cons rfl (has rfl) (aS (aE trivial)) (aQ.cons rfl (has rfl) (aS (aE trivial)) aQ.nil))) rfl rfl rfl) fun b1 => ?_
 generalize (Value.slice (some ⟨b1, 0, none⟩) _ _) = v1
 refine aN 0 rfl (fun hc_v1 => ?_)
 refine Z2 ?_
 refine Tn (cH (t := (aB .i64)) (xs := [4, 3]) rfl (et rfl) (aQ.cons rfl (has rfl) (aS (aE trivial)) (aQ.cons rfl (has rfl) (aS (aE trivial)) aQ.nil)) rfl rfl rfl) fun b2 => ?_
 generalize (Value.slice (some ⟨b2, 0, none⟩) _ _) = v2
 refine aN 0 rfl (fun hc_v2 => ?_)
 refine Z1 ?_
 refine Tn (cH (t := (aB .i64)) (xs := [4]) rfl (et rfl) (aQ.cons rfl (has rfl) (aS (aE trivial)) aQ.nil) rfl rfl rfl) fun b3 => ?_
 generalize (Value.slice (some ⟨b3, 0, none⟩) _ _) = v3
 refine aN 0 rfl (fun hc_v3 => ?_)
 refine Z1 ?_
 refine Tn (cH (t := (aB .i64)) (xs := [3]) rfl (et rfl) (aQ.cons rfl (has rfl) (aS (aE trivial)) aQ.nil) rfl rfl rfl) fun b4 => ?_
 generalize (Value.slice (some ⟨b4, 0, none⟩) _ _) = v4
 refine aN 0 rfl (fun hc_v4 => ?_)
 refine Z1 ?_
 refine Tn (cH (t := (aB .i64)) (xs := [4]) rfl (et rfl) (aQ.cons rfl (has rfl) (aS (aE trivial)) aQ.nil) rfl rfl rfl) fun b5 => ?_
 generalize (Value.slice (some ⟨b5, 0, none⟩) _ _) = v5
 refine aN 0 rfl (fun hc_v5 => ?_)
 refine Tn (cH (t := tF 1) (xs := [[⟨fEq v3, aE hc_v3⟩], [⟨fEq v4, aE hc_v4⟩], [⟨fEq v5, aE hc_v5⟩]]) rfl (et rfl) (aQ.cons rfl (has rfl) (aS (aE hc_v3)) (aQ.cons rfl (has rfl) (aS (aE hc_v4)) (aQ.cons rfl (has rfl) (aS (aE hc_v5)) aQ.nil))) rfl rfl rfl) fun b6 => ?_
 generalize (Value.slice (some ⟨b6, 0, none⟩) _ _) = v6
 refine oR ?_
 refine cX ?_
 refine fN (p := 0) (f := (fun v => aD v 30 (aB .i64) [4])) (hf := (fun _ => dQ)) rfl Ent.rfl ?_
 refine eB ?_
 refine fN (p := 1) (f := (fun v => aD v 30 (aB .i64) [3])) (hf := (fun _ => dQ)) rfl Ent.rfl ?_
 refine cI ?_
 refine fN (p := 2) (f := (fun v => aD v 30 (aB .i64) [4])) (hf := (fun _ => dQ)) rfl Ent.rfl ?_
 refine oZ (o := (bW 30 (aB .i64))) (xs := ([[4], [3], [4]] : List (List Int))) rfl rfl rfl ?_
 refine dJ 0 rfl (fun hc_v6 => ?_)
 refine Yy (dN (ψs := [fEq v1, fEq v2, fEq v6]) rfl aBQ rfl (aW.cons (has rfl) (aS (aE hc_v1)) (aW.cons (has rfl) (aS (aE hc_v2)) (aW.cons (has rfl) (aS (aE hc_v6)) aW.nil))) rfl) ?_
 refine Z1 ?_
 refine Tn (cH (t := (aB .i64)) (xs := [2]) rfl (et rfl) (aQ.cons rfl (has rfl) (aS (aE trivial)) aQ.nil) rfl rfl rfl) fun b7 => ?_
 generalize (Value.slice (some ⟨b7, 0, none⟩) _ _) = v7
 refine aN 0 rfl (fun hc_v7 => ?_)
 refine Z1 ?_
 refine Tn (cH (t := (aB .i64)) (xs := [3]) rfl (et rfl) (aQ.cons rfl (has rfl) (aS (aE trivial)) aQ.nil) rfl rfl rfl) fun b8 => ?_
 generalize (Value.slice (some ⟨b8, 0, none⟩) _ _) = v8
 refine aN 0 rfl (fun hc_v8 => ?_)
 refine Tn (cH (t := (aB .i64)) (xs := ([] : List Int)) rfl (et rfl) aQ.nil rfl rfl rfl) fun b9 => ?_
 generalize (Value.slice (some ⟨b9, 0, none⟩) _ _) = v9
 refine aN 0 rfl (fun hc_v9 => ?_)
 refine Tn (cH (t := tF 1) (xs := [[⟨fEq v9, aE hc_v9⟩]]) rfl (et rfl) (aQ.cons rfl (has rfl) (aS (aE hc_v9)) aQ.nil) rfl rfl rfl) fun b10 => ?_
 generalize (Value.slice (some ⟨b10, 0, none⟩) _ _) = v10
 refine oR ?_
 refine cI ?_
 refine fN (p := 0) (f := (fun v => aD v 30 (aB .i64) ([] : List Int))) (hf := (fun _ => dQ)) rfl Ent.rfl ?_
 refine oZ (o := (bW 30 (aB .i64))) (xs := ([([] : List Int)] : List (List Int))) rfl rfl rfl ?_
 refine dJ 0 rfl (fun hc_v10 => ?_)
 refine Yy (dN (ψs := [fEq v7, fEq v8, fEq v10]) rfl aBQ rfl (aW.cons (has rfl) (aS (aE hc_v7)) (aW.cons (has rfl) (aS (aE hc_v8)) (aW.cons (has rfl) (aS (aE hc_v10)) aW.nil))) rfl) ?_
 refine Tn (cH (t := tF 3) (xs := [[⟨fEq v1, aE hc_v1⟩, ⟨fEq v2, aE hc_v2⟩, ⟨fEq v6, aE hc_v6⟩], [⟨fEq v7, aE hc_v7⟩, ⟨fEq v8, aE hc_v8⟩, ⟨fEq v10, aE hc_v10⟩]]) rfl (et rfl) (aQ.cons rfl (has rfl) bO (aQ.cons rfl (has rfl) bO aQ.nil)) rfl rfl rfl) fun b11 => ?_
 generalize (Value.slice (some ⟨b11, 0, none⟩) _ _) = v11
 refine oR ?_
 refine nO ?_
 refine fN (p := 0) (f := (fun v => aD v 30 (aB .i64) [4, 2, 2])) (hf := (fun _ => dQ)) rfl Ent.rfl ?_
 refine lC ?_
 refine fN (p := 1) (f := (fun v => aD v 30 (aB .i64) [4, 3])) (hf := (fun _ => dQ)) rfl Ent.rfl ?_
 refine bK ?_
 refine fN (p := 2) (f := (fun v => bM v 58 (bW 30 (aB .i64)) ([[4], [3], [4]] : List (List Int)))) (hf := (fun _ => iJ)) rfl Ent.rfl ?_
 refine cX ?_
 refine fN (p := 3) (f := (fun v => aD v 30 (aB .i64) [2])) (hf := (fun _ => dQ)) rfl Ent.rfl ?_
 refine eB ?_
 refine fN (p := 4) (f := (fun v => aD v 30 (aB .i64) [3])) (hf := (fun _ => dQ)) rfl Ent.rfl ?_
 refine cI ?_
 refine fN (p := 5) (f := (fun v => bM v 58 (bW 30 (aB .i64)) ([([] : List Int)] : List (List Int)))) (hf := (fun _ => iJ)) rfl Ent.rfl ?_
 refine oZ (o := cW) (xs := ([(⟨[4, 2, 2], [4, 3], ([[4], [3], [4]] : List (List Int))⟩ : UsageDef), (⟨[2], [3], ([([] : List Int)] : List (List Int))⟩ : UsageDef)] : List UsageDef)) rfl rfl rfl ?_
 refine dJ 0 rfl (fun hc_v11 => ?_)
 refine Z3 ?_
 cases H
 exact wL rfl (bL rfl) (fun _ _ _ => trivial) rfl
theorem aB3   (r : List UsageDef) (H : rO = some r) : FnS Tryz.prog 24 [] [] (fSl aX r) (fun _ => []) := (aBi r H).frz (fun v => (lI rfl nC))
def tX (fuel : Nat)  : Option (Bool) :=
 (aAV fuel).bind fun y1 =>
 (xL fuel (⟨y1.Free, y1.Nodes, y1.Defs, y1.Main⟩ : ScopeProg)).bind fun y2 =>
 (rO).bind fun y3 =>
 (qF fuel (⟨y1.Free, y1.Nodes, y1.Defs, y1.Main⟩ : ScopeProg) y3).bind fun y4 =>
 (rO).bind fun y5 =>
 (aBo fuel (⟨y1.Free, y1.Nodes, y1.Defs, y1.Main⟩ : ScopeProg) y5 7 1).bind fun y6 =>
 (aAs fuel (⟨y1.Free, y1.Nodes, y1.Defs, y1.Main⟩ : ScopeProg) 5 3).bind fun y7 =>
 if y2.2 ≠ 0 then
  some false
 else
  if y4.2 ≠ 0 then
   some false
  else
   if y6.2 ≠ 0 then
    some false
   else
    if y7.2 ≠ 0 then
     some false
    else
     bif !y4.1 then
      some false
     else
      (rO).bind fun y8 =>
      (aBX fuel y2.1 y8).bind fun y9 =>
      bif !y9 then
       some false
      else
       if y6.1 ≠ 4 then
        some false
       else
        if y7.1 ≠ 1 then
         some false
        else
         (rO).bind fun y10 =>
         (idx y10 0).bind fun y11 =>
         (idx y11.Args 2).bind fun y12 =>
         (idx y12 0).bind fun y13 =>
         (qF fuel (⟨y1.Free, y1.Nodes, y1.Defs, y1.Main⟩ : ScopeProg) (y10.set ((0 : Int).toNat) ({ y11 with Args := y11.Args.set ((2 : Int).toNat) (y12.set ((0 : Int).toNat) 3) }))).bind fun y14 =>
         (idx (y10.set ((0 : Int).toNat) ({ y11 with Args := y11.Args.set ((2 : Int).toNat) (y12.set ((0 : Int).toNat) 3) })) 0).bind fun y15 =>
         (idx y15.Args 2).bind fun y16 =>
         (idx y16 0).bind fun y17 =>
         (qF fuel (⟨y1.Free, y1.Nodes, y1.Defs, y1.Main⟩ : ScopeProg) ((y10.set ((0 : Int).toNat) ({ y11 with Args := y11.Args.set ((2 : Int).toNat) (y12.set ((0 : Int).toNat) 3) })).set ((0 : Int).toNat) ({ y15 with Args := y15.Args.set ((2 : Int).toNat) (y16.set ((0 : Int).toNat) 2) }))).bind fun y18 =>
         (if y14.2 = 0 then
          bif !y14.1 then
           some (decide (y18.2 = 2))
          else
           some false
         else
          some false).bind fun x1 =>
         some x1
theorem aB2 (fuel : Nat)   (r : Bool) (H : tX fuel = some r) : FnS Tryz.prog 9 [] [] (aL r) (fun _ => []) := by
 unfold tX at H
 refine bJ Tryz.func9 rfl Tryz.ntmps9 rfl (fun β => ?_)
 revert H; refine B4 fun y1 h1 H => ?_
 refine Tc (aFE _ _ h1) ?_
 refine Tn (bZ rfl aCP rfl) fun b1 => ?_
 refine cS (φs' := [fSl aM y1.Free, fSl aK y1.Nodes, fSl aI y1.Defs, aA .i64 y1.Main]) trivial rfl rfl (has rfl) (has rfl) (aJ (bA) (aJ (bA) (aJ (bA) (aJ (aE trivial) bP)))) (sz rfl) rfl rfl rfl ?_
 revert H; refine B3 fun y2 h2 H => ?_
 refine iE trivial rfl rfl rfl (has rfl) (aO.cons (has rfl) aO.nil) rfl (cb rfl) (aHg fuel (⟨y1.Free, y1.Nodes, y1.Defs, y1.Main⟩ : ScopeProg) y2 h2) rfl ?_
 refine Z6 ?_
 refine aG ?_
 revert H; refine bs fun y3 h3 H => ?_
 revert H; refine bs fun y4 h4 H => ?_
 apply bC (ods := [_, _, _, _, _, _, _, _]) 8 0 1 bB rfl rfl rfl
 refine ND ?_
 refine M1 ?_
 intros
 refine xM (od := odC [] true (fSl aX y3) []) (Φ := fSl aX y3) rfl (fun _ => rfl) trivial rfl rfl (has rfl) aO.nil rfl (cb rfl) (aB3 y3 h3) (fun _ => ?_)
 refine Nc (zE _ _ _ _ h4) fun _ => ?_
 refine M5 ?_
 intros
 refine Z2 ?_
 refine aG ?_
 revert H; refine bs fun y5 h5 H => ?_
 revert H; refine bs fun y6 h6 H => ?_
 apply bC (ods := [_, _, _, _, _, _, _, _]) 8 0 1 bB rfl rfl rfl
 refine ND ?_
 refine M1 ?_
 intros
 refine xM (od := odC [] true (fSl aX y5) []) (Φ := fSl aX y5) rfl (fun _ => rfl) trivial rfl rfl (has rfl) aO.nil rfl (cb rfl) (aB3 y5 h5) (fun _ => ?_)
 refine Nc (aGj _ _ _ _ _ _ h6) fun _ => ?_
 refine M5 ?_
 intros
 revert H; refine B4 fun y7 h7 H => ?_
 refine Tc (aGY _ _ _ _ _ h7) ?_
 refine Z6 ?_
 refine aG ?_
 revert H; refine I4 (fun c1 H => ?_) fun c1 H => ?_
 refine Z12 ?_
 refine Z12 ?_
 refine Z11 ?_
 cases H
 refine aH [] (by decide) ?_
 exact To
 revert H; refine I4 (fun c2 H => ?_) fun c2 H => ?_
 refine Z12 ?_
 refine Z12 ?_
 refine Z7 ?_
 cases H
 refine aH [] (by decide) ?_
 exact To
 revert H; refine I4 (fun c3 H => ?_) fun c3 H => ?_
 refine Z12 ?_
 refine Z12 ?_
 refine Z3 ?_
 cases H
 refine aH [] (by decide) ?_
 exact To
 revert H; refine I4 (fun c4 H => ?_) fun c4 H => ?_
 refine Z12 ?_
 refine Z11 ?_
 cases H
 refine aH [] (by decide) ?_
 exact To
 refine Z4 ?_
 revert H; refine cs (fun c5 H => ?_) fun c5 H => ?_
 refine Z12 ?_
 refine Z7 ?_
 cases H
 refine aH [] (by decide) ?_
 exact To
 revert H; refine B1 fun y8 h8 H => ?_
 refine vH ⟨_, _, rfl, rfl, c5⟩ rfl rfl rfl (has rfl) aO.nil rfl (cb rfl) (aBi y8 h8) (Δi := []) rfl (fun v1 => ?_)
 dsimp only [List.append, List.cons_append, List.nil_append]
 refine dJ 0 rfl (fun hc_v1 => ?_)
 revert H; refine bs fun y9 h9 H => ?_
 refine zY (Δl := [bM v1 61 cW y8]) (Δi := []) (Δo := []) [(v1, fSl aX y8)] ⟨_, _, rfl, rfl, c5⟩ rfl rfl rfl (has rfl) (eH.cons rfl (vX Ent.rfl) (eH.cons rfl (uG 0 rfl) eH.nil)) (cb rfl) (aHJ fuel y2.1 y8 y9 h9) wE (fun _ h => nomatch h) (fZ.cons (lI rfl nC) fZ.nil) rfl ?_
 dsimp only [List.append, List.cons_append, List.nil_append]
 refine Z3 ?_
 revert H; refine cs (fun c6 H => ?_) fun c6 H => ?_
 refine Z12 ?_
 refine Z1 ?_
 cases H
 refine aH [] (by decide) ?_
 exact To
 revert H; refine I4 (fun c7 H => ?_) fun c7 H => ?_
 refine Z9 ?_
 cases H
 refine aH [] (by decide) ?_
 exact To
 revert H; refine I4 (fun c8 H => ?_) fun c8 H => ?_
 refine Z5 ?_
 cases H
 refine aH [] (by decide) ?_
 exact To
 revert H; refine B4 fun y10 h10 H => ?_
 refine vH trivial rfl rfl rfl (has rfl) aO.nil rfl (cb rfl) (aBi y10 h10) (Δi := []) rfl (fun v2 => ?_)
 dsimp only [List.append, List.cons_append, List.nil_append]
 refine dJ 0 rfl (fun hc_v2 => ?_)
 revert H; refine B4 fun y11 h11 H => ?_
 refine Yo 0 rfl (lD rfl hh hh (el rfl) h11) ?_
 refine Yy (zU 2 rfl hh (fa rfl) rfl) ?_
 refine rW (i := ((0 : Int).toNat)) (k := 2) (y := y11) (f := (fun v => bM v 58 (bW 30 (aB .i64)) y11.Args)) (cB h11) rfl (fun v3 => ?_)
 refine dJ 0 rfl (fun hc_v3 => ?_)
 refine Yo 1 rfl (mF rfl rfl hh (sc rfl) (cB h11) rfl) ?_
 revert H; refine bs fun y12 h12 H => ?_
 refine Yo 0 rfl (lD rfl hh hh (el rfl) h12) ?_
 refine rW (i := ((2 : Int).toNat)) (k := 0) (y := y12) (f := (fun v => aD v 30 (aB .i64) y12)) (cB h12) rfl (fun v4 => ?_)
 refine aN 0 rfl (fun hc_v4 => ?_)
 refine Yo 1 rfl (mF rfl rfl hh (sc rfl) (cB h12) rfl) ?_
 revert H; refine bs fun y13 h13 H => ?_
 refine Z1 ?_
 refine qP (z' := 3) trivial rfl rfl rfl (has rfl) (has rfl) (aE trivial) (sz rfl) (cB h13) rfl rfl ?_
 refine Z4 ?_
 refine qE (o := (bW 30 (aB .i64))) (i := ((2 : Int).toNat)) (k := 0) (y := y12) (y' := y12.set ((0 : Int).toNat) 3) (f := (fun v => aD v 30 (aB .i64) (y12.set ((0 : Int).toNat) 3))) (hf := (fun _ => dQ)) (cB h12) rfl rfl ?_
 refine qE (o := cW) (i := ((0 : Int).toNat)) (k := 2) (y := y11) (y' := { y11 with Args := y11.Args.set ((2 : Int).toNat) (y12.set ((0 : Int).toNat) 3) }) (f := (fun v => bM v 58 (bW 30 (aB .i64)) (y11.Args.set ((2 : Int).toNat) (y12.set ((0 : Int).toNat) 3)))) (hf := (fun _ => iJ)) (cB h11) rfl rfl ?_
 revert H; refine bs fun y14 h14 H => ?_
 refine zY (Δl := [bM v2 61 cW (y10.set ((0 : Int).toNat) ({ y11 with Args := y11.Args.set ((2 : Int).toNat) (y12.set ((0 : Int).toNat) 3) }))]) (Δi := []) (Δo := []) [(v2, fSl aX (y10.set ((0 : Int).toNat) ({ y11 with Args := y11.Args.set ((2 : Int).toNat) (y12.set ((0 : Int).toNat) 3) })))] trivial rfl rfl rfl (has rfl) (eH.cons rfl (vX Ent.rfl) (eH.cons rfl (uG 0 rfl) eH.nil)) (cb rfl) (zE fuel (⟨y1.Free, y1.Nodes, y1.Defs, y1.Main⟩ : ScopeProg) (y10.set ((0 : Int).toNat) ({ y11 with Args := y11.Args.set ((2 : Int).toNat) (y12.set ((0 : Int).toNat) 3) })) y14 h14) (aCK (by intro φ h; simp only [List.mem_cons, List.not_mem_nil, or_false] at h; rcases h with rfl | rfl <;> exact wE)) (fun _ h => nomatch h) (fZ.cons (lI rfl nC) fZ.nil) rfl ?_
 dsimp only [List.append, List.cons_append, List.nil_append]
 revert H; refine B8 fun y15 h15 H => ?_
 refine Yo 0 rfl (lD rfl hh hh (el rfl) h15) ?_
 refine Yy (zU 2 rfl hh (fa rfl) rfl) ?_
 refine rW (i := ((0 : Int).toNat)) (k := 2) (y := y15) (f := (fun v => bM v 58 (bW 30 (aB .i64)) y15.Args)) (cB h15) rfl (fun v5 => ?_)
 refine dJ 0 rfl (fun hc_v5 => ?_)
 refine Yo 1 rfl (mF rfl rfl hh (sc rfl) (cB h15) rfl) ?_
 revert H; refine bs fun y16 h16 H => ?_
 refine Yo 0 rfl (lD rfl hh hh (el rfl) h16) ?_
 refine rW (i := ((2 : Int).toNat)) (k := 0) (y := y16) (f := (fun v => aD v 30 (aB .i64) y16)) (cB h16) rfl (fun v6 => ?_)
 refine aN 0 rfl (fun hc_v6 => ?_)
 refine Yo 1 rfl (mF rfl rfl hh (sc rfl) (cB h16) rfl) ?_
 revert H; refine bs fun y17 h17 H => ?_
 refine Z1 ?_
 refine qP (z' := 2) trivial rfl rfl rfl (has rfl) (has rfl) (aE trivial) (sz rfl) (cB h17) rfl rfl ?_
 refine Z4 ?_
 refine qE (o := (bW 30 (aB .i64))) (i := ((2 : Int).toNat)) (k := 0) (y := y16) (y' := y16.set ((0 : Int).toNat) 2) (f := (fun v => aD v 30 (aB .i64) (y16.set ((0 : Int).toNat) 2))) (hf := (fun _ => dQ)) (cB h16) rfl rfl ?_
 refine qE (o := cW) (i := ((0 : Int).toNat)) (k := 2) (y := y15) (y' := { y15 with Args := y15.Args.set ((2 : Int).toNat) (y16.set ((0 : Int).toNat) 2) }) (f := (fun v => bM v 58 (bW 30 (aB .i64)) (y15.Args.set ((2 : Int).toNat) (y16.set ((0 : Int).toNat) 2)))) (hf := (fun _ => iJ)) (cB h15) rfl rfl ?_
 revert H; refine bs fun y18 h18 H => ?_
 refine zY (Δl := [bM v2 61 cW ((y10.set ((0 : Int).toNat) ({ y11 with Args := y11.Args.set ((2 : Int).toNat) (y12.set ((0 : Int).toNat) 3) })).set ((0 : Int).toNat) ({ y15 with Args := y15.Args.set ((2 : Int).toNat) (y16.set ((0 : Int).toNat) 2) }))]) (Δi := []) (Δo := []) [(v2, fSl aX ((y10.set ((0 : Int).toNat) ({ y11 with Args := y11.Args.set ((2 : Int).toNat) (y12.set ((0 : Int).toNat) 3) })).set ((0 : Int).toNat) ({ y15 with Args := y15.Args.set ((2 : Int).toNat) (y16.set ((0 : Int).toNat) 2) })))] trivial rfl rfl rfl (has rfl) (eH.cons rfl (vX Ent.rfl) (eH.cons rfl (uG 0 rfl) eH.nil)) (cb rfl) (zE fuel (⟨y1.Free, y1.Nodes, y1.Defs, y1.Main⟩ : ScopeProg) ((y10.set ((0 : Int).toNat) ({ y11 with Args := y11.Args.set ((2 : Int).toNat) (y12.set ((0 : Int).toNat) 3) })).set ((0 : Int).toNat) ({ y15 with Args := y15.Args.set ((2 : Int).toNat) (y16.set ((0 : Int).toNat) 2) })) y18 h18) (aCK (by intro φ h; simp only [List.mem_cons, List.not_mem_nil, or_false] at h; rcases h with rfl | rfl <;> exact wE)) (fun _ h => nomatch h) (fZ.cons (lI rfl nC) fZ.nil) rfl ?_
 dsimp only [List.append, List.cons_append, List.nil_append]
 revert H; refine B5 fun o1 H Hr1 => ?_
 refine aR (ι := Bool) (fun i => o1 = i) (fun i => [(0, aL i)]) (fun i => [aC b1 26 [fSl aM y1.Free, fSl aK y1.Nodes, fSl aI y1.Defs, aA .i64 y1.Main]]) ?_ ?_
 revert H; refine I4 (fun c9 H => ?_) fun c9 H => ?_
 refine Z4 ?_
 revert H; refine cs (fun c10 H => ?_) fun c10 H => ?_
 refine Z5 ?_
 refine aH [2] (by decide) ?_
 exact Tm (decide (y18.2 = 2)) (ij H)
 refine Z5 ?_
 refine aH [2] (by decide) ?_
 exact Tm (false) (ij H)
 refine Z9 ?_
 refine aH [2] (by decide) ?_
 exact Tm (false) (ij H)
 clear H; intro x1 hi; subst o1; have H := Hr1; clear Hr1; try dsimp only at H
 try dsimp only
 refine Z1 ?_
 cases H
 refine aH [] (by decide) ?_
 exact To
 exact fk
 kernel_rfl
 exact fk
 kernel_rfl
def pE (a0 : List ByteArray) (a1 : ByteArray) : Nat → Int → Option ((Unit) ⊕ (Bool))
| 0, _ => none
| k + 1, x2 =>
 if x2 < (a0.length : Int) then
  (idx a0 x2).bind fun y1 =>
  if y1 = a1 then
   (some true).bind fun r => some (Sum.inr r)
  else
   (chk (x2 + 1)).bind fun z1 =>
   pE a0 a1 k z1
 else
  some (Sum.inl ())
def vW (fuel : Nat) (a0 : List ByteArray) (a1 : ByteArray) : Option (Bool) :=
 (pE a0 a1 fuel 0).bind fun o => match o with
 | Sum.inr r => some r
 | Sum.inl _ =>
 some false
theorem aFd (fuel : Nat)  (a0 : List ByteArray) (a1 : ByteArray) (r : Bool) (H : vW fuel a0 a1 = some r) : FnS Tryz.prog 103 [fSl aM a0, gL a1] [] (aL r) (fun _ => []) := by
 unfold vW at H
 refine bJ Tryz.func103 rfl Tryz.ntmps103 rfl (fun β => ?_)
 revert H; refine B3 fun o1 H Hr1 => ?_
 refine aR (ι := Unit) (fun i => o1 = Sum.inl ()) (fun i => []) (fun i => []) ?_ ?_
 refine Z4 ?_
 refine Tl (ι := Nat × Int) (fun i => pE a0 a1 i.1 i.2 = _) (fun i => i.1) (fun i => [(0, fSl aM a0), (1, gL a1), (5, aA .i64 i.2)]) (fun i => []) (fuel, 0) H ?_
 clear H; rintro ⟨k1, x2⟩ H
 replace H : pE a0 a1 k1 x2 = _ := H
 try dsimp only
 obtain _ | k1 := k1
 rw [pE] at H; cases H
 rw [pE] at H
 refine aG ?_
 revert H; refine I6 (fun c1 H => ?_) fun c1 H => ?_
 refine Z3 ?_
 refine aG ?_
 revert H; refine B4 fun y1 h1 H => ?_
 refine Z3 ?_
 refine Yy (o_eqlS rfl hh hh) ?_
 revert H; refine I1 (fun c2 H => ?_) fun c2 H => ?_
 revert H; refine B10 fun r1 H e1 => ?_
 cases e1; cases Hr1
 cases H
 exact To
 revert H; refine B6 fun z1 h2 H => ?_
 refine Z3 ?_
 exact Tm ((k1, z1)) ⟨H, ls⟩
 refine Z6 ?_
 exact Tm (()) (ij H)
 clear H; intro i hi; subst o1; have H := Hr1; clear Hr1; try dsimp only at H
 try dsimp only
 refine Z4 ?_
 cases H
 exact To
end Go.Proofs.YtmnbfgeljmhekaaGreat
set_option maxRecDepth 100000
set_option maxHeartbeats 2000000
namespace Go.Proofs.YtmnbfgeljmhekaaGreat
open Go.SX Go.SW Go.Dt
attribute [local irreducible] Code.wpIn wpListIn Exit.then Exit.inBlock
def pM (a0 : ByteArray) : Nat → Int → Option ((Unit) ⊕ (Bool))
| 0, _ => none
| k + 1, x2 =>
 if x2 < (a0.size : Int) then
  (sidx a0 x2).bind fun z1 =>
  if z1 < 97 then
   (some false).bind fun r => some (Sum.inr r)
  else
   (sidx a0 x2).bind fun z2 =>
   if 122 < z2 then
    (some false).bind fun r => some (Sum.inr r)
   else
    (chk (x2 + 1)).bind fun z3 =>
    pM a0 k z3
 else
  some (Sum.inl ())
def uU (fuel : Nat) (a0 : ByteArray) : Option (Bool) :=
 if (a0.size : Int) < 1 then
  some false
 else
  if 8 < (a0.size : Int) then
   some false
  else
   (pM a0 fuel 0).bind fun o => match o with
   | Sum.inr r => some r
   | Sum.inl _ =>
   (vW fuel [{ data := #[97, 110, 100] }, { data := #[100, 101, 102] }, { data := #[101, 108, 115, 101] }, { data := #[103, 111] }, { data := #[105, 102] }, { data := #[105, 110] }, { data := #[112, 108, 97, 99, 101] }, { data := #[115, 116, 111, 112] }, { data := #[116, 104, 101, 110] }, { data := #[119, 97, 116, 99, 104] }] a0).bind fun y1 =>
   some (!y1)
theorem aA0 (fuel : Nat)  (a0 : ByteArray) (r : Bool) (H : uU fuel a0 = some r) : FnS Tryz.prog 87 [gL a0] [] (aL r) (fun _ => []) := by
 unfold uU at H
 refine bJ Tryz.func87 rfl Tryz.ntmps87 rfl (fun β => ?_)
 refine Z3 ?_
 refine aG ?_
 refine Z2 ?_
 refine Yy (sN rfl hh mG) ?_
 revert H; refine I2 (fun c1 H => ?_) fun c1 H => ?_
 refine Z10 ?_
 cases H
 exact To
 refine Z1 ?_
 refine Yg c1 (sN rfl hh mG) ?_
 revert H; refine I3 (fun c2 H => ?_) fun c2 H => ?_
 refine Z5 ?_
 cases H
 exact To
 revert H; refine B3 fun o1 H Hr1 => ?_
 refine aR (ι := Unit) (fun i => o1 = Sum.inl ()) (fun i => [(0, gL a0)]) (fun i => []) ?_ ?_
 refine Z4 ?_
 refine Tl (ι := Nat × Int) (fun i => pM a0 i.1 i.2 = _) (fun i => i.1) (fun i => [(0, gL a0), (3, aA .i64 i.2)]) (fun i => []) (fuel, 0) H ?_
 clear H; rintro ⟨k1, x2⟩ H
 replace H : pM a0 k1 x2 = _ := H
 try dsimp only
 obtain _ | k1 := k1
 rw [pM] at H; cases H
 rw [pM] at H
 refine aG ?_
 refine Z3 ?_
 refine Yy (sN rfl hh mG) ?_
 revert H; refine I2 (fun c3 H => ?_) fun c3 H => ?_
 refine Z3 ?_
 refine aG ?_
 revert H; refine B4 fun z1 h1 H => ?_
 refine Yy (xU rfl hh hh mG h1) ?_
 revert H; refine I2 (fun c4 H => ?_) fun c4 H => ?_
 refine Z12 ?_
 revert H; refine B4 fun r1 H e1 => ?_
 cases e1; cases Hr1
 cases H
 exact To
 revert H; refine B2 fun z2 h2 H => ?_
 refine Yg c4 (xU rfl hh hh mG h2) ?_
 revert H; refine I3 (fun c5 H => ?_) fun c5 H => ?_
 revert H; refine B10 fun r2 H e2 => ?_
 cases e2; cases Hr1
 cases H
 exact To
 revert H; refine B6 fun z3 h3 H => ?_
 refine Z3 ?_
 exact Tm ((k1, z3)) ⟨H, ls⟩
 refine Z6 ?_
 exact Tm (()) (ij H)
 clear H; intro i hi; subst o1; have H := Hr1; clear Hr1; try dsimp only at H
 try dsimp only
 refine Z1 ?_
 refine Tn (cH (t := aM) (xs := [{ data := #[97, 110, 100] }, { data := #[100, 101, 102] }, { data := #[101, 108, 115, 101] }, { data := #[103, 111] }, { data := #[105, 102] }, { data := #[105, 110] }, { data := #[112, 108, 97, 99, 101] }, { data := #[115, 116, 111, 112] }, { data := #[116, 104, 101, 110] }, { data := #[119, 97, 116, 99, 104] }]) rfl (et rfl) (aQ.cons rfl (has rfl) (aS (aE trivial)) (aQ.cons rfl (has rfl) (aS (aE trivial)) (aQ.cons rfl (has rfl) (aS (aE trivial)) (aQ.cons rfl (has rfl) (aS (aE trivial)) (aQ.cons rfl (has rfl) (aS (aE trivial)) (aQ.cons rfl (has rfl) (aS (aE trivial)) (aQ.cons rfl (has rfl) (aS (aE trivial)) (aQ.cons rfl (has rfl) (aS (aE trivial)) (aQ.cons rfl (has rfl) (aS (aE trivial)) (aQ.cons rfl (has rfl) (aS (aE trivial)) aQ.nil)))))))))) rfl rfl rfl) fun b1 => ?_
 generalize (Value.slice (some ⟨b1, 0, none⟩) _ _) = v1
 refine aN 0 rfl (fun hc_v1 => ?_)
 refine Z1 ?_
 refine cR (φ := fSl aM [{ data := #[97, 110, 100] }, { data := #[100, 101, 102] }, { data := #[101, 108, 115, 101] }, { data := #[103, 111] }, { data := #[105, 102] }, { data := #[105, 110] }, { data := #[112, 108, 97, 99, 101] }, { data := #[115, 116, 111, 112] }, { data := #[116, 104, 101, 110] }, { data := #[119, 97, 116, 99, 104] }]) (v := v1) [28] cL fz ?_
 refine cT ?_
 revert H; refine bs fun y1 h4 H => ?_
 refine Tc (aFd _ _ _ _ h4) ?_
 refine Z4 ?_
 cases H
 exact To
end Go.Proofs.YtmnbfgeljmhekaaGreat
set_option maxRecDepth 100000
set_option maxHeartbeats 2000000
namespace Go.Proofs.YtmnbfgeljmhekaaGreat
open Go.SX Go.SW Go.Dt
attribute [local irreducible] Code.wpIn wpListIn Exit.then Exit.inBlock
def oN (a0 : ScopeDef) : Nat → Int → Option ((Unit) ⊕ (Bool))
| 0, _ => none
| k + 1, x2 =>
 if x2 < (a0.Chans.length : Int) then
  (idx a0.Chans x2).bind fun y1 =>
  if y1.At < 0 then
   (some false).bind fun r => some (Sum.inr r)
  else
   (idx a0.Chans x2).bind fun y2 =>
   if (a0.Spots.length : Int) < y2.At then
    (some false).bind fun r => some (Sum.inr r)
   else
    (idx a0.Chans x2).bind fun y3 =>
    if y3.Many < 0 then
     (some false).bind fun r => some (Sum.inr r)
    else
     (idx a0.Chans x2).bind fun y4 =>
     if 3 < y4.Many then
      (some false).bind fun r => some (Sum.inr r)
     else
      (chk (x2 + 1)).bind fun z1 =>
      oN a0 k z1
 else
  some (Sum.inl ())
def nY (a0 : ScopeDef) : Nat → Int → Option ((Unit) ⊕ (Bool))
| 0, _ => none
| k + 1, x4 =>
 if x4 < (a0.Spots.length : Int) then
  (idx a0.Spots x4).bind fun y5 =>
  if y5.In < 0 then
   (some false).bind fun r => some (Sum.inr r)
  else
   (idx a0.Spots x4).bind fun y6 =>
   if x4 < y6.In then
    (some false).bind fun r => some (Sum.inr r)
   else
    (chk (x4 + 1)).bind fun z2 =>
    nY a0 k z2
 else
  some (Sum.inl ())
def oB (y8 : ScopeRule) (x14 : Int) (y9 : Int) : Nat → Int → Option ((Unit) ⊕ ((List Bool) ⊕ ((List Bool) ⊕ ((List Bool) ⊕ (Bool)))))
| 0, _ => none
| k + 1, x17 =>
 if x17 < x14 then
  (idx y8.Joins x17).bind fun y11 =>
  if y11 = y9 then
   ((((some false).bind fun r => some (Sum.inr r)).bind fun r => some (Sum.inr r)).bind fun r => some (Sum.inr r)).bind fun r => some (Sum.inr r)
  else
   (chk (x17 + 1)).bind fun z3 =>
   oB y8 x14 y9 k z3
 else
  some (Sum.inl ())
def jX (fuel : Nat) (a0 : ScopeDef) (y8 : ScopeRule) : Nat → (List Bool) → Int → Option ((List Bool) ⊕ ((List Bool) ⊕ (Bool)))
| 0, _, _ => none
| k + 1, x13, x14 =>
 if x14 < (y8.Joins.length : Int) then
  ((idx y8.Joins x14).bind fun y9 =>
  if y9 < 0 then
   (((some false).bind fun r => some (Sum.inr r)).bind fun r => some (Sum.inr r)).bind fun r => some (Sum.inr r)
  else
   if (a0.Chans.length : Int) ≤ y9 then
    (((some false).bind fun r => some (Sum.inr r)).bind fun r => some (Sum.inr r)).bind fun r => some (Sum.inr r)
   else
    (idx a0.Chans y9).bind fun y10 =>
    if y10.At ≠ y8.At then
     (((some false).bind fun r => some (Sum.inr r)).bind fun r => some (Sum.inr r)).bind fun r => some (Sum.inr r)
    else
     (oB y8 x14 y9 fuel 0).bind fun o => match o with
     | Sum.inr r => some r
     | Sum.inl _ =>
     (idx x13 y9).bind fun y12 =>
     some (Sum.inl (x13.set y9.toNat true))).bind fun o => match o with
  | Sum.inr r => some r
  | Sum.inl x15 =>
  (chk (x14 + 1)).bind fun z4 =>
  jX fuel a0 y8 k x15 z4
 else
  some (Sum.inl x13)
def mE (fuel : Nat) (a0 : ScopeDef) : Nat → (List Bool) → Int → Option ((List Bool) ⊕ (Bool))
| 0, _, _ => none
| k + 1, x8, x9 =>
 if x9 < (a0.Rules.length : Int) then
  ((idx a0.Rules x9).bind fun y8 =>
  if y8.At < 0 then
   ((some false).bind fun r => some (Sum.inr r)).bind fun r => some (Sum.inr r)
  else
   if (a0.Spots.length : Int) < y8.At then
    ((some false).bind fun r => some (Sum.inr r)).bind fun r => some (Sum.inr r)
   else
    if (y8.Joins.length : Int) < 1 then
     ((some false).bind fun r => some (Sum.inr r)).bind fun r => some (Sum.inr r)
    else
     if 3 < (y8.Joins.length : Int) then
      ((some false).bind fun r => some (Sum.inr r)).bind fun r => some (Sum.inr r)
     else
      jX fuel a0 y8 fuel x8 0).bind fun o => match o with
  | Sum.inr r => some r
  | Sum.inl x10 =>
  (chk (x9 + 1)).bind fun z5 =>
  mE fuel a0 k x10 z5
 else
  some (Sum.inl x8)
def oP (x5 : List Bool) : Nat → Int → Option ((Unit) ⊕ (Bool))
| 0, _ => none
| k + 1, x19 =>
 if x19 < (x5.length : Int) then
  (idx x5 x19).bind fun y13 =>
  bif y13 then
   (chk (x19 + 1)).bind fun z6 =>
   oP x5 k z6
  else
   (some false).bind fun r => some (Sum.inr r)
 else
  some (Sum.inl ())
def wU (fuel : Nat) (a0 : ScopeDef) : Option (Bool) :=
 if 30 < (a0.Chans.length : Int) then
  some false
 else
  if 30 < (a0.Spots.length : Int) then
   some false
  else
   if 30 < (a0.Rules.length : Int) then
    some false
   else
    (oN a0 fuel 0).bind fun o => match o with
    | Sum.inr r => some r
    | Sum.inl _ =>
    (nY a0 fuel 0).bind fun o => match o with
    | Sum.inr r => some r
    | Sum.inl _ =>
    (mk false (a0.Chans.length : Int)).bind fun y7 =>
    (mE fuel a0 fuel y7 0).bind fun o => match o with
    | Sum.inr r => some r
    | Sum.inl x5 =>
    (oP x5 fuel 0).bind fun o => match o with
    | Sum.inr r => some r
    | Sum.inl _ =>
    some true
theorem aGS (fuel : Nat)  (a0 : ScopeDef) (r : Bool) (H : wU fuel a0 = some r) : FnS Tryz.prog 88 [fSt aI a0] [] (aL r) (fun _ => []) := by
 unfold wU at H
 refine bJ Tryz.func88 rfl Tryz.ntmps88 rfl (fun β => ?_)
 refine Z1 ?_
 refine Tn (cF rfl (has rfl) bO) fun b1 => ?_
 refine Z2 ?_
 refine aG ?_
 revert H; refine I6 (fun c1 H => ?_) fun c1 H => ?_
 refine Yt c1 ?_
 refine Yt c1 ?_
 refine Yt c1 ?_
 refine Yt c1 ?_
 refine Yy (cN rfl hh c1 hh) ?_
 refine Z12 ?_
 cases H
 refine aH [] (by decide) ?_
 exact To
 refine Yg c1 (cE 1 rfl hh (fa rfl) rfl) ?_
 refine Yh 0 rfl c1 (bS rfl hh (sc rfl) rfl Ent.rfl) ?_
 refine Yg c1 (dT rfl hh (us rfl)) ?_
 refine Yg c1 (gO rfl hh hh) ?_
 refine Yy (bU rfl hh c1 hh) ?_
 revert H; refine I1 (fun c2 H => ?_) fun c2 H => ?_
 refine Yt c2 ?_
 refine Yt c2 ?_
 refine Yt c2 ?_
 refine Yt c2 ?_
 refine Yy (cN rfl hh c2 hh) ?_
 refine Z6 ?_
 cases H
 refine aH [] (by decide) ?_
 exact To
 refine Yg c2 (cE 2 rfl hh (fa rfl) rfl) ?_
 refine Yh 0 rfl c2 (bS rfl hh (sc rfl) rfl Ent.rfl) ?_
 refine Yg c2 (dT rfl hh (us rfl)) ?_
 refine Yg c2 (gO rfl hh hh) ?_
 refine Yy (bU rfl hh c2 hh) ?_
 revert H; refine I1 (fun c3 H => ?_) fun c3 H => ?_
 refine cJ (has rfl) c3 ?_
 refine Z4 ?_
 cases H
 refine aH [] (by decide) ?_
 exact To
 refine cK (has rfl) c3 ?_
 revert H; refine B2 fun o1 H Hr1 => ?_
 refine aR (ι := Unit) (fun i => o1 = Sum.inl ()) (fun i => [(1, fEq (ptr b1))]) (fun i => [aC b1 99 [fSl aU a0.Chans, fSl bH a0.Spots, fSl aZ a0.Rules]]) ?_ ?_
 refine Z4 ?_
 refine Tl (ι := Nat × Int) (fun i => oN a0 i.1 i.2 = _) (fun i => i.1) (fun i => [(1, fEq (ptr b1)), (3, aA .i64 i.2)]) (fun i => [aC b1 99 [fSl aU a0.Chans, fSl bH a0.Spots, fSl aZ a0.Rules]]) (fuel, 0) H ?_
 clear H; rintro ⟨k1, x2⟩ H
 replace H : oN a0 k1 x2 = _ := H
 try dsimp only
 obtain _ | k1 := k1
 rw [oN] at H; cases H
 rw [oN] at H
 refine aG ?_
 revert H; refine I7 (fun c4 H => ?_) fun c4 H => ?_
 refine cJ (has rfl) c4 ?_
 refine Z2 ?_
 refine aG ?_
 refine Z1 ?_
 refine aG ?_
 revert H; refine bs fun y1 h1 H => ?_
 revert H; refine is (fun c5 H => ?_) fun c5 H => ?_
 apply bC (ods := [_, _, _, _, _, _, _, _, _, _, _, _, _, _, _, _, _, _, _, _, _, _, _, _, _, _, _, _, _, _, _, _, _, _, _, _, _]) 37 0 1 bB rfl rfl rfl
 refine ND ?_
 refine M3 ?_
 intros
 refine My (bE rfl hh hh (el rfl) h1) fun _ => ?_
 refine M4 ?_
 intros
 refine Mt c5 fun _ => ?_
 refine Mt c5 fun _ => ?_
 refine Mt c5 fun _ => ?_
 refine Mt c5 fun _ => ?_
 refine Mt c5 fun _ => ?_
 refine Mt c5 fun _ => ?_
 refine Mt c5 fun _ => ?_
 refine Mt c5 fun _ => ?_
 refine Mt c5 fun _ => ?_
 refine Mt c5 fun _ => ?_
 refine My (cN rfl hh c5 hh) fun _ => ?_
 refine M8 ?_
 intros
 refine M8 ?_
 intros
 refine M2 ?_
 intros
 revert H; refine B12 fun r1 H e1 => ?_
 cases e1; cases Hr1
 cases H
 refine aH [] (by decide) ?_
 exact To
 exact fk
 kernel_rfl
 revert H; refine bs fun y2 h2 H => ?_
 revert H; refine is (fun c6 H => ?_) fun c6 H => ?_
 apply bC (ods := [_, _, _, _, _, _, _, _, _, _, _, _, _, _, _, _, _, _, _, _, _, _, _, _, _, _, _, _, _, _, _, _, _, _, _, _, _]) 37 0 1 bB rfl rfl rfl
 refine ND ?_
 refine M3 ?_
 intros
 refine My (bE rfl hh hh (el rfl) h1) fun _ => ?_
 refine M4 ?_
 intros
 refine Mg c5 (cE 0 rfl hh (fa rfl) rfl) fun _ => ?_
 refine dR (od := odC [0] false (fSl aU a0.Chans) [cQ]) (ps := [0]) (φ := fSl aU a0.Chans) rfl (fun _ => rfl) ⟨_, _, rfl, rfl, c5⟩ rfl rfl (bS rfl (has rfl) (sc rfl) rfl Ent.rfl) (fun _ => ?_)
 refine Mg c5 (bF rfl hh) fun _ => ?_
 refine Mg c5 (bE rfl hh hh (el rfl) h2) fun _ => ?_
 refine Mg c5 (dP (t' := (aB .i64)) (z := y2.At) rfl hh (fa rfl) rfl) fun _ => ?_
 refine Mg c5 (dB rfl hh (sc rfl) rfl) fun _ => ?_
 refine Mg c5 (cE 1 rfl hh (fa rfl) rfl) fun _ => ?_
 refine dR (od := odC [0] false (fSl bH a0.Spots) [cQ]) (ps := [0]) (φ := fSl bH a0.Spots) rfl (fun _ => rfl) ⟨_, _, rfl, rfl, c5⟩ rfl rfl (bS rfl (has rfl) (sc rfl) rfl Ent.rfl) (fun _ => ?_)
 refine Mg c5 (dT rfl hh (us rfl)) fun _ => ?_
 refine Mg c5 (gO rfl hh hh) fun _ => ?_
 refine My (bU rfl hh c5 hh) fun _ => ?_
 refine M1 ?_
 intros
 refine Mt c6 fun _ => ?_
 refine Mt c6 fun _ => ?_
 refine Mt c6 fun _ => ?_
 refine Mt c6 fun _ => ?_
 refine Mt c6 fun _ => ?_
 refine Mt c6 fun _ => ?_
 refine Mt c6 fun _ => ?_
 refine My (cN rfl hh c6 hh) fun _ => ?_
 refine M8 ?_
 intros
 refine M1 ?_
 intros
 revert H; refine B12 fun r2 H e2 => ?_
 cases e2; cases Hr1
 cases H
 refine aH [] (by decide) ?_
 exact To
 exact fk
 kernel_rfl
 revert H; refine bs fun y3 h3 H => ?_
 revert H; refine is (fun c7 H => ?_) fun c7 H => ?_
 apply bC (ods := [_, _, _, _, _, _, _, _, _, _, _, _, _, _, _, _, _, _, _, _, _, _, _, _, _, _, _, _, _, _, _, _, _, _, _, _, _]) 37 0 1 bB rfl rfl rfl
 refine ND ?_
 refine M3 ?_
 intros
 refine My (bE rfl hh hh (el rfl) h1) fun _ => ?_
 refine M4 ?_
 intros
 refine Mg c5 (cE 0 rfl hh (fa rfl) rfl) fun _ => ?_
 refine dR (od := odC [0] false (fSl aU a0.Chans) [cQ]) (ps := [0]) (φ := fSl aU a0.Chans) rfl (fun _ => rfl) ⟨_, _, rfl, rfl, c5⟩ rfl rfl (bS rfl (has rfl) (sc rfl) rfl Ent.rfl) (fun _ => ?_)
 refine Mg c5 (bF rfl hh) fun _ => ?_
 refine Mg c5 (bE rfl hh hh (el rfl) h2) fun _ => ?_
 refine Mg c5 (dP (t' := (aB .i64)) (z := y2.At) rfl hh (fa rfl) rfl) fun _ => ?_
 refine Mg c5 (dB rfl hh (sc rfl) rfl) fun _ => ?_
 refine Mg c5 (cE 1 rfl hh (fa rfl) rfl) fun _ => ?_
 refine dR (od := odC [0] false (fSl bH a0.Spots) [cQ]) (ps := [0]) (φ := fSl bH a0.Spots) rfl (fun _ => rfl) ⟨_, _, rfl, rfl, c5⟩ rfl rfl (bS rfl (has rfl) (sc rfl) rfl Ent.rfl) (fun _ => ?_)
 refine Mg c5 (dT rfl hh (us rfl)) fun _ => ?_
 refine Mg c5 (gO rfl hh hh) fun _ => ?_
 refine My (bU rfl hh c5 hh) fun _ => ?_
 refine M1 ?_
 intros
 refine Mg c6 (cE 0 rfl hh (fa rfl) rfl) fun _ => ?_
 refine dR (od := odC [0] false (fSl aU a0.Chans) [cQ]) (ps := [0]) (φ := fSl aU a0.Chans) rfl (fun _ => rfl) ⟨_, _, rfl, rfl, c6⟩ rfl rfl (bS rfl (has rfl) (sc rfl) rfl Ent.rfl) (fun _ => ?_)
 refine Mg c6 (bF rfl hh) fun _ => ?_
 refine Mg c6 (bE rfl hh hh (el rfl) h3) fun _ => ?_
 refine Mg c6 (dP (t' := (aB .i64)) (z := y3.Many) rfl hh (fa rfl) rfl) fun _ => ?_
 refine Mg c6 (dB rfl hh (sc rfl) rfl) fun _ => ?_
 refine Mg c6 (sZ rfl hh hh) fun _ => ?_
 refine My (bU rfl hh c6 hh) fun _ => ?_
 refine M1 ?_
 intros
 refine Mt c7 fun _ => ?_
 refine Mt c7 fun _ => ?_
 refine Mt c7 fun _ => ?_
 refine Mt c7 fun _ => ?_
 refine Mt c7 fun _ => ?_
 refine Mt c7 fun _ => ?_
 refine Mt c7 fun _ => ?_
 refine My (cN rfl hh c7 hh) fun _ => ?_
 revert H; refine B12 fun r3 H e3 => ?_
 cases e3; cases Hr1
 cases H
 refine aH [] (by decide) ?_
 exact To
 exact fk
 kernel_rfl
 revert H; refine bs fun y4 h4 H => ?_
 apply bC (ods := [_, _, _, _, _, _, _, _, _, _, _, _, _, _, _, _, _, _, _, _, _, _, _, _, _, _, _, _, _, _, _, _, _, _, _, _, _]) 37 0 1 bB rfl rfl rfl
 refine ND ?_
 refine M3 ?_
 intros
 refine My (bE rfl hh hh (el rfl) h1) fun _ => ?_
 refine M4 ?_
 intros
 refine Mg c5 (cE 0 rfl hh (fa rfl) rfl) fun _ => ?_
 refine dR (od := odC [0] false (fSl aU a0.Chans) [cQ]) (ps := [0]) (φ := fSl aU a0.Chans) rfl (fun _ => rfl) ⟨_, _, rfl, rfl, c5⟩ rfl rfl (bS rfl (has rfl) (sc rfl) rfl Ent.rfl) (fun _ => ?_)
 refine Mg c5 (bF rfl hh) fun _ => ?_
 refine Mg c5 (bE rfl hh hh (el rfl) h2) fun _ => ?_
 refine Mg c5 (dP (t' := (aB .i64)) (z := y2.At) rfl hh (fa rfl) rfl) fun _ => ?_
 refine Mg c5 (dB rfl hh (sc rfl) rfl) fun _ => ?_
 refine Mg c5 (cE 1 rfl hh (fa rfl) rfl) fun _ => ?_
 refine dR (od := odC [0] false (fSl bH a0.Spots) [cQ]) (ps := [0]) (φ := fSl bH a0.Spots) rfl (fun _ => rfl) ⟨_, _, rfl, rfl, c5⟩ rfl rfl (bS rfl (has rfl) (sc rfl) rfl Ent.rfl) (fun _ => ?_)
 refine Mg c5 (dT rfl hh (us rfl)) fun _ => ?_
 refine Mg c5 (gO rfl hh hh) fun _ => ?_
 refine My (bU rfl hh c5 hh) fun _ => ?_
 refine M1 ?_
 intros
 refine Mg c6 (cE 0 rfl hh (fa rfl) rfl) fun _ => ?_
 refine dR (od := odC [0] false (fSl aU a0.Chans) [cQ]) (ps := [0]) (φ := fSl aU a0.Chans) rfl (fun _ => rfl) ⟨_, _, rfl, rfl, c6⟩ rfl rfl (bS rfl (has rfl) (sc rfl) rfl Ent.rfl) (fun _ => ?_)
 refine Mg c6 (bF rfl hh) fun _ => ?_
 refine Mg c6 (bE rfl hh hh (el rfl) h3) fun _ => ?_
 refine Mg c6 (dP (t' := (aB .i64)) (z := y3.Many) rfl hh (fa rfl) rfl) fun _ => ?_
 refine Mg c6 (dB rfl hh (sc rfl) rfl) fun _ => ?_
 refine Mg c6 (sZ rfl hh hh) fun _ => ?_
 refine My (bU rfl hh c6 hh) fun _ => ?_
 refine M1 ?_
 intros
 refine Mg c7 (cE 0 rfl hh (fa rfl) rfl) fun _ => ?_
 refine dR (od := odC [0] false (fSl aU a0.Chans) [cQ]) (ps := [0]) (φ := fSl aU a0.Chans) rfl (fun _ => rfl) ⟨_, _, rfl, rfl, c7⟩ rfl rfl (bS rfl (has rfl) (sc rfl) rfl Ent.rfl) (fun _ => ?_)
 refine Mg c7 (bF rfl hh) fun _ => ?_
 refine Mg c7 (bE rfl hh hh (el rfl) h4) fun _ => ?_
 refine Mg c7 (dP (t' := (aB .i64)) (z := y4.Many) rfl hh (fa rfl) rfl) fun _ => ?_
 refine Mg c7 (dB rfl hh (sc rfl) rfl) fun _ => ?_
 refine Mg c7 (gO rfl hh hh) fun _ => ?_
 refine My (bU rfl hh c7 hh) fun _ => ?_
 revert H; refine I2 (fun c8 H => ?_) fun c8 H => ?_
 refine cJ (has rfl) c8 ?_
 revert H; refine B9 fun r4 H e4 => ?_
 cases e4; cases Hr1
 cases H
 refine aH [] (by decide) ?_
 exact To
 refine cK (has rfl) c8 ?_
 revert H; refine B5 fun z1 h5 H => ?_
 refine Yy (eN rfl hh hh h5) ?_
 refine Z2 ?_
 exact Tm ((k1, z1)) ⟨H, ls⟩
 exact fk
 kernel_rfl
 refine cK (has rfl) c4 ?_
 refine Z5 ?_
 exact Tm (()) (ij H)
 clear H; intro i hi; subst o1; have H := Hr1; clear Hr1; try dsimp only at H
 try dsimp only
 revert H; refine bs fun o2 H Hr2 => ?_
 refine aR (ι := Unit) (fun i => o2 = Sum.inl ()) (fun i => [(1, fEq (ptr b1))]) (fun i => [aC b1 99 [fSl aU a0.Chans, fSl bH a0.Spots, fSl aZ a0.Rules]]) ?_ ?_
 refine Z4 ?_
 refine Tl (ι := Nat × Int) (fun i => nY a0 i.1 i.2 = _) (fun i => i.1) (fun i => [(1, fEq (ptr b1)), (4, aA .i64 i.2)]) (fun i => [aC b1 99 [fSl aU a0.Chans, fSl bH a0.Spots, fSl aZ a0.Rules]]) (fuel, 0) H ?_
 clear H; rintro ⟨k2, x4⟩ H
 replace H : nY a0 k2 x4 = _ := H
 try dsimp only
 obtain _ | k2 := k2
 rw [nY] at H; cases H
 rw [nY] at H
 refine aG ?_
 revert H; refine I7 (fun c9 H => ?_) fun c9 H => ?_
 refine cJ (has rfl) c9 ?_
 refine Z2 ?_
 refine aG ?_
 revert H; refine B5 fun y5 h6 H => ?_
 refine Yy (bE rfl hh hh (el rfl) h6) ?_
 revert H; refine I4 (fun c10 H => ?_) fun c10 H => ?_
 refine Yt c10 ?_
 refine Yt c10 ?_
 refine Yt c10 ?_
 refine Yt c10 ?_
 refine Yt c10 ?_
 refine Yt c10 ?_
 refine Yt c10 ?_
 refine Yt c10 ?_
 refine Yy (cN rfl hh c10 hh) ?_
 revert H; refine B11 fun r5 H e5 => ?_
 cases e5; cases Hr2
 cases H
 refine aH [] (by decide) ?_
 exact To
 refine Yg c10 (cE 1 rfl hh (fa rfl) rfl) ?_
 refine Yh 0 rfl c10 (bS rfl hh (sc rfl) rfl Ent.rfl) ?_
 refine Yg c10 (bF rfl hh) ?_
 revert H; refine bs fun y6 h7 H => ?_
 refine Yg c10 (bE rfl hh hh (el rfl) h7) ?_
 refine Yg c10 (dP (t' := (aB .i64)) (z := y6.In) rfl hh (fa rfl) rfl) ?_
 refine Yg c10 (dB rfl hh (sc rfl) rfl) ?_
 refine Yg c10 (bF rfl hh) ?_
 refine Yg c10 (gO rfl hh hh) ?_
 refine Yy (bU rfl hh c10 hh) ?_
 revert H; refine I1 (fun c11 H => ?_) fun c11 H => ?_
 refine cJ (has rfl) c11 ?_
 revert H; refine B9 fun r6 H e6 => ?_
 cases e6; cases Hr2
 cases H
 refine aH [] (by decide) ?_
 exact To
 refine cK (has rfl) c11 ?_
 revert H; refine B5 fun z2 h8 H => ?_
 refine Yy (eN rfl hh hh h8) ?_
 refine Z2 ?_
 exact Tm ((k2, z2)) ⟨H, ls⟩
 refine cK (has rfl) c9 ?_
 refine Z5 ?_
 exact Tm (()) (ij H)
 clear H; intro i hi; subst o2; have H := Hr2; clear Hr2; try dsimp only at H
 try dsimp only
 revert H; refine B4 fun y7 h9 H => ?_
 refine Tn (lK (t := cG) (z := false) rfl (has rfl) (et rfl) rfl aAL rfl h9) fun b2 => ?_
 generalize (Value.slice (some ⟨b2, 0, none⟩) _ _) = v1
 refine aN 0 rfl (fun hc_v1 => ?_)
 revert H; refine B2 fun o3 H Hr3 => ?_
 refine aR (ι := List Bool) (fun i => o3 = Sum.inl i) (fun i => [(5, fEq v1)]) (fun i => [aC b1 99 [fSl aU a0.Chans, fSl bH a0.Spots, fSl aZ a0.Rules], aD v1 4 cG i]) ?_ ?_
 refine Z4 ?_
 refine aH [1, 0] (by decide) ?_
 refine Tl (ι := Nat × List Bool × Int) (fun i => mE fuel a0 i.1 i.2.1 i.2.2 = _) (fun i => i.1) (fun i => [(1, fEq (ptr b1)), (5, fEq v1), (6, aA .i64 i.2.2)]) (fun i => [aC b1 99 [fSl aU a0.Chans, fSl bH a0.Spots, fSl aZ a0.Rules], aD v1 4 cG i.2.1]) (fuel, y7, 0) H ?_
 clear H; rintro ⟨k3, x8, x9⟩ H
 replace H : mE fuel a0 k3 x8 x9 = _ := H
 try dsimp only
 obtain _ | k3 := k3
 rw [mE] at H; cases H
 rw [mE] at H
 refine aG ?_
 revert H; refine I7 (fun c12 H => ?_) fun c12 H => ?_
 refine cJ (has rfl) c12 ?_
 revert H; refine B2 fun o4 H Hr4 => ?_
 refine aR (ι := List Bool) (fun i => o4 = Sum.inl i) (fun i => [(1, fEq (ptr b1)), (5, fEq v1), (6, aA .i64 x9)]) (fun i => [aC b1 99 [fSl aU a0.Chans, fSl bH a0.Spots, fSl aZ a0.Rules], aD v1 4 cG i]) ?_ ?_
 revert H; refine B5 fun y8 h10 H => ?_
 refine Yy (bE rfl hh hh (el rfl) h10) ?_
 refine Z1 ?_
 refine Tn (bZ rfl tG rfl) fun b3 => ?_
 refine cS (φs' := [aA .i64 y8.At, fSl (aB .i64) y8.Joins, aA .i64 y8.Node]) trivial rfl rfl (has rfl) (has rfl) (aJ (aE trivial) (aJ (bA) (aJ (aE trivial) bP))) (sz rfl) rfl rfl rfl ?_
 refine Z1 ?_
 refine aG ?_
 revert H; refine I5 (fun c13 H => ?_) fun c13 H => ?_
 refine Yt c13 ?_
 refine Yt c13 ?_
 refine Yt c13 ?_
 refine Yt c13 ?_
 refine Yt c13 ?_
 refine Yt c13 ?_
 refine Yy (cN rfl hh c13 hh) ?_
 refine Z12 ?_
 revert H; refine B8 fun r7 H e7 => ?_
 cases e7; cases Hr4
 revert H; refine B3 fun r8 H e8 => ?_
 cases e8; cases Hr3
 cases H
 refine aH [] (by decide) ?_
 exact To
 refine Yg c13 (cE 0 rfl hh (fa rfl) rfl) ?_
 refine Yh 0 rfl c13 (bS rfl hh (sc rfl) rfl Ent.rfl) ?_
 refine Yg c13 (cE 1 rfl hh (fa rfl) rfl) ?_
 refine Yh 1 rfl c13 (bS rfl hh (sc rfl) rfl Ent.rfl) ?_
 refine Yg c13 (dT rfl hh (us rfl)) ?_
 refine Yg c13 (gO rfl hh hh) ?_
 refine Yy (bU rfl hh c13 hh) ?_
 revert H; refine I1 (fun c14 H => ?_) fun c14 H => ?_
 refine Yt c14 ?_
 refine Yt c14 ?_
 refine Yt c14 ?_
 refine Yt c14 ?_
 refine Yy (cN rfl hh c14 hh) ?_
 refine Z12 ?_
 revert H; refine B2 fun r9 H e9 => ?_
 cases e9; cases Hr4
 revert H; refine B3 fun r10 H e10 => ?_
 cases e10; cases Hr3
 cases H
 refine aH [] (by decide) ?_
 exact To
 refine Yg c14 (cE 1 rfl hh (fa rfl) rfl) ?_
 refine Yh 0 rfl c14 (bS rfl hh (sc rfl) rfl Ent.rfl) ?_
 refine Yg c14 (dT rfl hh (us rfl)) ?_
 refine Yg c14 (sZ rfl hh hh) ?_
 refine Yy (bU rfl hh c14 hh) ?_
 revert H; refine I1 (fun c15 H => ?_) fun c15 H => ?_
 refine Yt c15 ?_
 refine Yt c15 ?_
 refine Yt c15 ?_
 refine Yt c15 ?_
 refine Yy (cN rfl hh c15 hh) ?_
 revert H; refine B8 fun r11 H e11 => ?_
 cases e11; cases Hr4
 revert H; refine B3 fun r12 H e12 => ?_
 cases e12; cases Hr3
 cases H
 refine aH [] (by decide) ?_
 exact To
 refine Yg c15 (cE 1 rfl hh (fa rfl) rfl) ?_
 refine Yh 0 rfl c15 (bS rfl hh (sc rfl) rfl Ent.rfl) ?_
 refine Yg c15 (dT rfl hh (us rfl)) ?_
 refine Yg c15 (gO rfl hh hh) ?_
 refine Yy (bU rfl hh c15 hh) ?_
 revert H; refine I1 (fun c16 H => ?_) fun c16 H => ?_
 refine cJ (has rfl) c16 ?_
 revert H; refine B6 fun r13 H e13 => ?_
 cases e13; cases Hr4
 revert H; refine B3 fun r14 H e14 => ?_
 cases e14; cases Hr3
 cases H
 refine aH [] (by decide) ?_
 exact To
 refine cK (has rfl) c16 ?_
 refine Z6 ?_
 refine Tl (ι := Nat × List Bool × Int) (fun i => jX fuel a0 y8 i.1 i.2.1 i.2.2 = _) (fun i => i.1) (fun i => [(1, fEq (ptr b1)), (5, fEq v1), (6, aA .i64 x9), (7, fEq (ptr b3)), (8, aA .i64 i.2.2)]) (fun i => [aC b3 105 [aA .i64 y8.At, fSl (aB .i64) y8.Joins, aA .i64 y8.Node], aC b1 99 [fSl aU a0.Chans, fSl bH a0.Spots, fSl aZ a0.Rules], aD v1 4 cG i.2.1]) (fuel, x8, 0) H ?_
 clear H; rintro ⟨k4, x13, x14⟩ H
 replace H : jX fuel a0 y8 k4 x13 x14 = _ := H
 try dsimp only
 obtain _ | k4 := k4
 rw [jX] at H; cases H
 rw [jX] at H
 refine aG ?_
 revert H; refine I7 (fun c17 H => ?_) fun c17 H => ?_
 refine cJ (has rfl) c17 ?_
 revert H; refine B2 fun o5 H Hr5 => ?_
 refine aR (ι := List Bool) (fun i => o5 = Sum.inl i) (fun i => [(1, fEq (ptr b1)), (5, fEq v1), (6, aA .i64 x9), (7, fEq (ptr b3)), (8, aA .i64 x14)]) (fun i => [aC b3 105 [aA .i64 y8.At, fSl (aB .i64) y8.Joins, aA .i64 y8.Node], aC b1 99 [fSl aU a0.Chans, fSl bH a0.Spots, fSl aZ a0.Rules], aD v1 4 cG i]) ?_ ?_
 revert H; refine B5 fun y9 h11 H => ?_
 refine Yy (bE rfl hh hh (el rfl) h11) ?_
 refine Z3 ?_
 refine aG ?_
 refine aG ?_
 revert H; refine is (fun c18 H => ?_) fun c18 H => ?_
 apply bC (ods := [_, _, _, _, _, _, _, _, _, _, _, _, _, _, _, _, _, _, _, _]) 20 0 3 bB rfl rfl rfl
 refine ND ?_
 refine M3 ?_
 intros
 refine Mt c18 fun _ => ?_
 refine Mt c18 fun _ => ?_
 refine Mt c18 fun _ => ?_
 refine Mt c18 fun _ => ?_
 refine Mt c18 fun _ => ?_
 refine My (cN rfl hh c18 hh) fun _ => ?_
 refine M8 ?_
 intros
 refine M3 ?_
 intros
 revert H; refine B9 fun r15 H e15 => ?_
 cases e15; cases Hr5
 revert H; refine B4 fun r16 H e16 => ?_
 cases e16; cases Hr4
 revert H; refine B3 fun r17 H e17 => ?_
 cases e17; cases Hr3
 cases H
 refine aH [] (by decide) ?_
 exact To
 exact fk
 kernel_rfl
 revert H; refine is (fun c19 H => ?_) fun c19 H => ?_
 apply bC (ods := [_, _, _, _, _, _, _, _, _, _, _, _, _, _, _, _, _, _, _, _]) 20 0 3 bB rfl rfl rfl
 refine ND ?_
 refine M3 ?_
 intros
 refine Mg c18 (bF rfl hh) fun _ => ?_
 refine Mg c18 (cE 0 rfl hh (fa rfl) rfl) fun _ => ?_
 refine dR (od := odC [1] false (fSl aU a0.Chans) [cQ]) (ps := [1]) (φ := fSl aU a0.Chans) rfl (fun _ => rfl) ⟨_, _, rfl, rfl, c18⟩ rfl rfl (bS rfl (has rfl) (sc rfl) rfl Ent.rfl) (fun _ => ?_)
 refine Mg c18 (dT rfl hh (us rfl)) fun _ => ?_
 refine Mg c18 (pL rfl hh hh) fun _ => ?_
 refine My (bU rfl hh c18 hh) fun _ => ?_
 refine M1 ?_
 intros
 refine Mt c19 fun _ => ?_
 refine Mt c19 fun _ => ?_
 refine Mt c19 fun _ => ?_
 refine Mt c19 fun _ => ?_
 refine Mt c19 fun _ => ?_
 refine Mt c19 fun _ => ?_
 refine Mt c19 fun _ => ?_
 refine Mt c19 fun _ => ?_
 refine Mt c19 fun _ => ?_
 refine My (cN rfl hh c19 hh) fun _ => ?_
 revert H; refine B9 fun r18 H e18 => ?_
 cases e18; cases Hr5
 revert H; refine B4 fun r19 H e19 => ?_
 cases e19; cases Hr4
 revert H; refine B3 fun r20 H e20 => ?_
 cases e20; cases Hr3
 cases H
 refine aH [] (by decide) ?_
 exact To
 exact fk
 kernel_rfl
 revert H; refine bs fun y10 h12 H => ?_
 apply bC (ods := [_, _, _, _, _, _, _, _, _, _, _, _, _, _, _, _, _, _, _, _]) 20 0 3 bB rfl rfl rfl
 refine ND ?_
 refine M3 ?_
 intros
 refine Mg c18 (bF rfl hh) fun _ => ?_
 refine Mg c18 (cE 0 rfl hh (fa rfl) rfl) fun _ => ?_
 refine dR (od := odC [1] false (fSl aU a0.Chans) [cQ]) (ps := [1]) (φ := fSl aU a0.Chans) rfl (fun _ => rfl) ⟨_, _, rfl, rfl, c18⟩ rfl rfl (bS rfl (has rfl) (sc rfl) rfl Ent.rfl) (fun _ => ?_)
 refine Mg c18 (dT rfl hh (us rfl)) fun _ => ?_
 refine Mg c18 (pL rfl hh hh) fun _ => ?_
 refine My (bU rfl hh c18 hh) fun _ => ?_
 refine M1 ?_
 intros
 refine Mg c19 (cE 0 rfl hh (fa rfl) rfl) fun _ => ?_
 refine dR (od := odC [1] false (fSl aU a0.Chans) [cQ]) (ps := [1]) (φ := fSl aU a0.Chans) rfl (fun _ => rfl) ⟨_, _, rfl, rfl, c19⟩ rfl rfl (bS rfl (has rfl) (sc rfl) rfl Ent.rfl) (fun _ => ?_)
 refine Mg c19 (bF rfl hh) fun _ => ?_
 refine Mg c19 (bE rfl hh hh (el rfl) h12) fun _ => ?_
 refine Mg c19 (dP (t' := (aB .i64)) (z := y10.At) rfl hh (fa rfl) rfl) fun _ => ?_
 refine Mg c19 (dB rfl hh (sc rfl) rfl) fun _ => ?_
 refine Mg c19 (cE 0 rfl hh (fa rfl) rfl) fun _ => ?_
 refine dR (od := odC [0] false (aA .i64 y8.At) [cQ]) (ps := [0]) (φ := aA .i64 y8.At) rfl (fun _ => rfl) ⟨_, _, rfl, rfl, c19⟩ rfl rfl (bS rfl (has rfl) (sc rfl) rfl Ent.rfl) (fun _ => ?_)
 refine Mg c19 (hP rfl hh hh) fun _ => ?_
 refine My (bU rfl hh c19 hh) fun _ => ?_
 revert H; refine I2 (fun c20 H => ?_) fun c20 H => ?_
 refine cJ (has rfl) c20 ?_
 revert H; refine B6 fun r21 H e21 => ?_
 cases e21; cases Hr5
 revert H; refine B4 fun r22 H e22 => ?_
 cases e22; cases Hr4
 revert H; refine B3 fun r23 H e23 => ?_
 cases e23; cases Hr3
 cases H
 refine aH [] (by decide) ?_
 exact To
 refine cK (has rfl) c20 ?_
 revert H; refine B2 fun o6 H Hr6 => ?_
 refine aR (ι := Unit) (fun i => o6 = Sum.inl ()) (fun i => [(1, fEq (ptr b1)), (5, fEq v1), (6, aA .i64 x9), (7, fEq (ptr b3)), (8, aA .i64 x14), (9, aA .i64 y9)]) (fun i => [aC b3 105 [aA .i64 y8.At, fSl (aB .i64) y8.Joins, aA .i64 y8.Node], aC b1 99 [fSl aU a0.Chans, fSl bH a0.Spots, fSl aZ a0.Rules], aD v1 4 cG x13]) ?_ ?_
 refine Z4 ?_
 refine Tl (ι := Nat × Int) (fun i => oB y8 x14 y9 i.1 i.2 = _) (fun i => i.1) (fun i => [(1, fEq (ptr b1)), (5, fEq v1), (6, aA .i64 x9), (7, fEq (ptr b3)), (8, aA .i64 x14), (9, aA .i64 y9), (10, aA .i64 i.2)]) (fun i => [aC b3 105 [aA .i64 y8.At, fSl (aB .i64) y8.Joins, aA .i64 y8.Node], aC b1 99 [fSl aU a0.Chans, fSl bH a0.Spots, fSl aZ a0.Rules], aD v1 4 cG x13]) (fuel, 0) H ?_
 clear H; rintro ⟨k5, x17⟩ H
 replace H : oB y8 x14 y9 k5 x17 = _ := H
 try dsimp only
 obtain _ | k5 := k5
 rw [oB] at H; cases H
 rw [oB] at H
 refine aG ?_
 revert H; refine I5 (fun c21 H => ?_) fun c21 H => ?_
 refine cJ (has rfl) c21 ?_
 refine Z2 ?_
 refine aG ?_
 revert H; refine B5 fun y11 h13 H => ?_
 refine Yy (bE rfl hh hh (el rfl) h13) ?_
 revert H; refine I4 (fun c22 H => ?_) fun c22 H => ?_
 refine cJ (has rfl) c22 ?_
 revert H; refine B9 fun r24 H e24 => ?_
 cases e24; cases Hr6
 revert H; refine B2 fun r25 H e25 => ?_
 cases e25; cases Hr5
 revert H; refine B4 fun r26 H e26 => ?_
 cases e26; cases Hr4
 revert H; refine B3 fun r27 H e27 => ?_
 cases e27; cases Hr3
 cases H
 refine aH [] (by decide) ?_
 exact To
 refine cK (has rfl) c22 ?_
 revert H; refine B5 fun z3 h14 H => ?_
 refine Yy (eN rfl hh hh h14) ?_
 refine Z2 ?_
 exact Tm ((k5, z3)) ⟨H, ls⟩
 refine cK (has rfl) c21 ?_
 refine Z5 ?_
 exact Tm (()) (ij H)
 clear H; intro i hi; subst o6; have H := Hr6; clear Hr6; try dsimp only at H
 try dsimp only
 revert H; refine B3 fun y12 h15 H => ?_
 refine Yo 2 rfl (jI rfl hh hh (el rfl) h15) ?_
 refine eB ?_
 refine qP (z' := true) trivial rfl rfl rfl (has rfl) (has rfl) (aE trivial) (sz rfl) (cB h15) rfl rfl ?_
 refine Z3 ?_
 refine aH [1, 2, 0] (by decide) ?_
 exact Tm (x13.set y9.toNat true) (ij H)
 exact fk
 kernel_rfl
 clear H; intro x15 hi; subst o5; have H := Hr5; clear Hr5; try dsimp only at H
 try dsimp only
 revert H; refine B2 fun z4 h16 H => ?_
 refine Yy (eN rfl hh hh h16) ?_
 refine Z2 ?_
 exact Tm ((k4, x15, z4)) ⟨H, ls⟩
 refine cK (has rfl) c17 ?_
 refine Z6 ?_
 refine aH [1, 2] (by decide) ?_
 exact Tm (x13) (ij H)
 clear H; intro x10 hi; subst o4; have H := Hr4; clear Hr4; try dsimp only at H
 try dsimp only
 revert H; refine B2 fun z5 h17 H => ?_
 refine Yy (eN rfl hh hh h17) ?_
 refine Z2 ?_
 exact Tm ((k3, x10, z5)) ⟨H, ls⟩
 refine cK (has rfl) c12 ?_
 refine Z5 ?_
 exact Tm (x8) (ij H)
 clear H; intro x5 hi; subst o3; have H := Hr3; clear Hr3; try dsimp only at H
 try dsimp only
 revert H; refine bs fun o7 H Hr7 => ?_
 refine aR (ι := Unit) (fun i => o7 = Sum.inl ()) (fun i => []) (fun i => [aC b1 99 [fSl aU a0.Chans, fSl bH a0.Spots, fSl aZ a0.Rules]]) ?_ ?_
 refine Z4 ?_
 refine Tl (ι := Nat × Int) (fun i => oP x5 i.1 i.2 = _) (fun i => i.1) (fun i => [(5, fEq v1), (11, aA .i64 i.2)]) (fun i => [aC b1 99 [fSl aU a0.Chans, fSl bH a0.Spots, fSl aZ a0.Rules], aD v1 4 cG x5]) (fuel, 0) H ?_
 clear H; rintro ⟨k6, x19⟩ H
 replace H : oP x5 k6 x19 = _ := H
 try dsimp only
 obtain _ | k6 := k6
 rw [oP] at H; cases H
 rw [oP] at H
 refine aG ?_
 revert H; refine I6 (fun c23 H => ?_) fun c23 H => ?_
 refine cJ (has rfl) c23 ?_
 refine Z2 ?_
 refine aG ?_
 revert H; refine B4 fun y13 h18 H => ?_
 refine Yo 1 rfl (jI rfl hh hh (el rfl) h18) ?_
 refine Yo 1 rfl (jW rfl rfl hh (sc rfl) (cB h18) rfl) ?_
 refine Z2 ?_
 revert H; refine cs (fun c24 H => ?_) fun c24 H => ?_
 refine cK (has rfl) (iP c24) ?_
 revert H; refine B5 fun z6 h19 H => ?_
 refine Yy (eN rfl hh hh h19) ?_
 refine Z2 ?_
 exact Tm ((k6, z6)) ⟨H, ls⟩
 refine cJ (has rfl) (jC c24) ?_
 revert H; refine B9 fun r28 H e28 => ?_
 cases e28; cases Hr7
 cases H
 refine aH [] (by decide) ?_
 exact To
 refine cK (has rfl) c23 ?_
 refine Z5 ?_
 refine aH [0] (by decide) ?_
 exact Tm (()) (ij H)
 clear H; intro i hi; subst o7; have H := Hr7; clear Hr7; try dsimp only at H
 try dsimp only
 refine Z4 ?_
 cases H
 refine aH [] (by decide) ?_
 exact To
end Go.Proofs.YtmnbfgeljmhekaaGreat
set_option maxRecDepth 100000
set_option maxHeartbeats 2000000
namespace Go.Proofs.YtmnbfgeljmhekaaGreat
open Go.SX Go.SW Go.Dt
attribute [local irreducible] Code.wpIn wpListIn Exit.then Exit.inBlock
def tS (a0 : Int) : Option (Int × Int × Bool) :=
 (if a0 = 1 then
  some (decide (a0 = 1))
 else
  some (decide (a0 = 7))).bind fun x1 =>
 bif x1 then
  some (0, 0, true)
 else
  if a0 = 2 then
   some ((-1), 0, true)
  else
   if a0 = 3 then
    some (0, 2, true)
   else
    if a0 = 5 then
     some (1, 2, true)
    else
     (if a0 = 4 then
      some (decide (a0 = 4))
     else
      if a0 = 6 then
       some (decide (a0 = 6))
      else
       some (decide (a0 = 8))).bind fun x2 =>
     bif x2 then
      some (0, 1, true)
     else
      some (0, 0, false)
theorem aGG  (a0 : Int) (r : Int × Int × Bool) (H : tS a0 = some r) : FnS Tryz.prog 104 [aA .i64 a0] [] (dC [aA .i64 r.1, aA .i64 r.2.1, aL r.2.2]) (fun _ => []) := by
 unfold tS at H
 refine bJ Tryz.func104 rfl Tryz.ntmps104 rfl (fun β => ?_)
 refine Z5 ?_
 refine aG ?_
 revert H; refine B4 fun o1 H Hr1 => ?_
 refine aR (ι := Bool) (fun i => o1 = i) (fun i => [(5, aA .i64 a0), (6, aL i)]) (fun i => []) ?_ ?_
 revert H; refine I4 (fun c1 H => ?_) fun c1 H => ?_
 refine Z3 ?_
 exact Tm (decide (a0 = 1)) (ij H)
 refine Z5 ?_
 exact Tm (decide (a0 = 7)) (ij H)
 clear H; intro x1 hi; subst o1; have H := Hr1; clear Hr1; try dsimp only at H
 try dsimp only
 revert H; refine cs (fun c2 H => ?_) fun c2 H => ?_
 refine Z9 ?_
 cases H
 exact tI rfl (bL rfl) (bL rfl) (bL rfl) rfl
 revert H; refine I5 (fun c3 H => ?_) fun c3 H => ?_
 refine Z9 ?_
 cases H
 exact tI rfl (bL rfl) (bL rfl) (bL rfl) rfl
 revert H; refine I5 (fun c4 H => ?_) fun c4 H => ?_
 refine Z9 ?_
 cases H
 exact tI rfl (bL rfl) (bL rfl) (bL rfl) rfl
 revert H; refine I5 (fun c5 H => ?_) fun c5 H => ?_
 refine Z9 ?_
 cases H
 exact tI rfl (bL rfl) (bL rfl) (bL rfl) rfl
 revert H; refine B1 fun o2 H Hr2 => ?_
 refine aR (ι := Bool) (fun i => o2 = i) (fun i => [(15, aL i)]) (fun i => []) ?_ ?_
 revert H; refine I4 (fun c6 H => ?_) fun c6 H => ?_
 refine Z3 ?_
 exact Tm (decide (a0 = 4)) (ij H)
 revert H; refine I5 (fun c7 H => ?_) fun c7 H => ?_
 refine Z3 ?_
 exact Tm (decide (a0 = 6)) (ij H)
 refine Z5 ?_
 exact Tm (decide (a0 = 8)) (ij H)
 clear H; intro x2 hi; subst o2; have H := Hr2; clear Hr2; try dsimp only at H
 try dsimp only
 revert H; refine cs (fun c8 H => ?_) fun c8 H => ?_
 refine Z9 ?_
 cases H
 exact tI rfl (bL rfl) (bL rfl) (bL rfl) rfl
 refine Z10 ?_
 cases H
 exact tI rfl (bL rfl) (bL rfl) (bL rfl) rfl
def oL (rec_r03_expNodes : ScopeExp → Int → Option (Int)) (a0 : ScopeExp) (a1 : Int) : Nat → Int → Int → Option (Int)
| 0, _, _ => none
| k + 1, x4, x5 =>
 if x5 < (a0.Kids.length : Int) then
  if x4 ≤ a1 then
   (idx a0.Kids x5).bind fun y1 =>
   (chk (a1 - x4)).bind fun z1 =>
   (rec_r03_expNodes y1 z1).bind fun y2 =>
   (chk (x4 + y2)).bind fun z2 =>
   (chk (x5 + 1)).bind fun z3 =>
   oL rec_r03_expNodes a0 a1 k z2 z3
  else
   some x4
 else
  some x4
def mV : Nat → ScopeExp → Int → Option (Int)
| 0, _, _ => none
| fuel + 1, a0, a1 =>
 (oL (mV fuel) a0 a1 fuel 1 0).bind fun x1 =>
 some x1
theorem aG6 : ∀ (fuel : Nat), (∀  (a0 : ScopeExp) (a1 : Int) (r : Int) (H : mV fuel a0 a1 = some r), FnS Tryz.prog 118 [fSt bD a0, aA .i64 a1] [] (aA .i64 r) (fun _ => [])) := by
 intro fuel
 induction fuel with
 | zero => exact fun a0 a1 r H => (by rw [mV] at H; cases H)
 | succ fuel ih =>
 have ih_r03_expNodes := ih
 refine ?_
 intro a0 a1 r H
 rw [mV] at H
 refine bJ Tryz.func118 rfl Tryz.ntmps118 rfl (fun β => ?_)
 refine Z1 ?_
 refine Tn (cF rfl (has rfl) bO) fun b1 => ?_
 revert H; refine B5 fun o1 H Hr1 => ?_
 refine aR (ι := Int) (fun i => o1 = i) (fun i => [(5, aA .i64 i)]) (fun i => [aC b1 56 [aA .i64 a0.Op, aA .i64 a0.N, fS a0.Kids]]) ?_ ?_
 refine Z4 ?_
 refine Tl (ι := Nat × Int × Int) (fun i => oL (mV fuel) a0 a1 i.1 i.2.1 i.2.2 = _) (fun i => i.1) (fun i => [(1, aA .i64 a1), (2, fEq (ptr b1)), (5, aA .i64 i.2.1), (6, aA .i64 i.2.2)]) (fun i => [aC b1 56 [aA .i64 a0.Op, aA .i64 a0.N, fS a0.Kids]]) (fuel, 1, 0) H ?_
 clear H; rintro ⟨k1, x4, x5⟩ H
 replace H : oL (mV fuel) a0 a1 k1 x4 x5 = _ := H
 try dsimp only
 obtain _ | k1 := k1
 rw [oL] at H; cases H
 rw [oL] at H
 refine aG ?_
 refine Z3 ?_
 refine Yo 0 rfl (bS rfl hh (sc rfl) rfl (iW gX)) ?_
 revert H; refine I3 (fun c1 H => ?_) fun c1 H => ?_
 revert H; refine I5 (fun c2 H => ?_) fun c2 H => ?_
 refine Z3 ?_
 refine aG ?_
 refine Z4 ?_
 refine Yo 0 rfl (bS rfl hh (sc rfl) rfl (iW gX)) ?_
 revert H; refine B1 fun y1 h1 H => ?_
 revert H; refine B4 fun z1 h2 H => ?_
 revert H; refine B1 fun y2 h3 H => ?_
 refine Tc (ih_r03_expNodes _ _ _ h3) ?_
 revert H; refine bs fun z2 h4 H => ?_
 revert H; refine B7 fun z3 h5 H => ?_
 refine Z3 ?_
 exact Tm ((k1, z2, z3)) ⟨H, ls⟩
 refine Z6 ?_
 exact Tm (x4) (ij H)
 refine Z11 ?_
 exact Tm (x4) (ij H)
 clear H; intro x1 hi; subst o1; have H := Hr1; clear Hr1; try dsimp only at H
 try dsimp only
 refine Z5 ?_
 cases H
 refine aH [] (by decide) ?_
 exact To
def pD (rec_r03_expDepth : ScopeExp → Option (Int)) (a0 : ScopeExp) : Nat → Int → Int → Option (Int)
| 0, _, _ => none
| k + 1, x4, x5 =>
 if x5 < (a0.Kids.length : Int) then
  (idx a0.Kids x5).bind fun y1 =>
  (rec_r03_expDepth y1).bind fun y2 =>
  (chk (x5 + 1)).bind fun z1 =>
  pD rec_r03_expDepth a0 k (max x4 y2) z1
 else
  some x4
def mI : Nat → ScopeExp → Option (Int)
| 0, _ => none
| fuel + 1, a0 =>
 (pD (mI fuel) a0 fuel 0 0).bind fun x1 =>
 (chk (x1 + 1)).bind fun z2 =>
 some z2
theorem aHN : ∀ (fuel : Nat), (∀  (a0 : ScopeExp) (r : Int) (H : mI fuel a0 = some r), FnS Tryz.prog 119 [fSt bD a0] [] (aA .i64 r) (fun _ => [])) := by
 intro fuel
 induction fuel with
 | zero => exact fun a0 r H => (by rw [mI] at H; cases H)
 | succ fuel ih =>
 have ih_r03_expDepth := ih
 refine ?_
 intro a0 r H
 rw [mI] at H
 refine bJ Tryz.func119 rfl Tryz.ntmps119 rfl (fun β => ?_)
 refine Z1 ?_
 refine Tn (cF rfl (has rfl) bO) fun b1 => ?_
 revert H; refine B5 fun o1 H Hr1 => ?_
 refine aR (ι := Int) (fun i => o1 = i) (fun i => [(3, aA .i64 i)]) (fun i => [aC b1 56 [aA .i64 a0.Op, aA .i64 a0.N, fS a0.Kids]]) ?_ ?_
 refine Z4 ?_
 refine Tl (ι := Nat × Int × Int) (fun i => pD (mI fuel) a0 i.1 i.2.1 i.2.2 = _) (fun i => i.1) (fun i => [(1, fEq (ptr b1)), (3, aA .i64 i.2.1), (4, aA .i64 i.2.2)]) (fun i => [aC b1 56 [aA .i64 a0.Op, aA .i64 a0.N, fS a0.Kids]]) (fuel, 0, 0) H ?_
 clear H; rintro ⟨k1, x4, x5⟩ H
 replace H : pD (mI fuel) a0 k1 x4 x5 = _ := H
 try dsimp only
 obtain _ | k1 := k1
 rw [pD] at H; cases H
 rw [pD] at H
 refine aG ?_
 refine Z3 ?_
 refine Yo 0 rfl (bS rfl hh (sc rfl) rfl (iW gX)) ?_
 revert H; refine I3 (fun c1 H => ?_) fun c1 H => ?_
 refine Z3 ?_
 refine aG ?_
 refine Z4 ?_
 refine Yo 0 rfl (bS rfl hh (sc rfl) rfl (iW gX)) ?_
 revert H; refine B1 fun y1 h1 H => ?_
 revert H; refine B2 fun y2 h2 H => ?_
 refine Tc (ih_r03_expDepth _ _ h2) ?_
 refine Yy (o_max rfl hh hh) ?_
 revert H; refine B6 fun z1 h3 H => ?_
 refine Z3 ?_
 exact Tm ((k1, max x4 y2, z1)) ⟨H, ls⟩
 refine Z6 ?_
 exact Tm (x4) (ij H)
 clear H; intro x1 hi; subst o1; have H := Hr1; clear Hr1; try dsimp only at H
 try dsimp only
 revert H; refine B2 fun z2 h4 H => ?_
 refine Z4 ?_
 cases H
 refine aH [] (by decide) ?_
 exact To
def pI : Nat → ScopeExp → Int → Option (Bool)
| 0, _, _ => none
| fuel + 1, a0, a1 =>
 if a0.Op = 1 then
  (if (a0.Kids.length : Int) = 0 then
   if (-1000000000) ≤ a0.N then
    some (decide (a0.N ≤ 1000000000))
   else
    some false
  else
   some false).bind fun x1 =>
  some x1
 else
  if a0.Op = 2 then
   (if (a0.Kids.length : Int) = 0 then
    if 0 ≤ a0.N then
     some (decide (a0.N < a1))
    else
     some false
   else
    some false).bind fun x2 =>
   some x2
  else
   if a0.Op < 3 then
    some false
   else
    if 7 < a0.Op then
     some false
    else
     if (a0.Kids.length : Int) ≠ 2 then
      some false
     else
      if a0.N ≠ 0 then
       some false
      else
       ((idx a0.Kids 0).bind fun y1 =>
       ((pI fuel) y1 a1).bind fun y2 =>
       bif y2 then
        (idx a0.Kids 1).bind fun y3 =>
        ((pI fuel) y3 a1).bind fun y4 =>
        some y4
       else
        some false).bind fun x3 =>
       some x3
theorem aE7 : ∀ (fuel : Nat), (∀  (a0 : ScopeExp) (a1 : Int) (r : Bool) (H : pI fuel a0 a1 = some r), FnS Tryz.prog 120 [fSt bD a0, aA .i64 a1] [] (aL r) (fun _ => [])) := by
 intro fuel
 induction fuel with
 | zero => exact fun a0 a1 r H => (by rw [pI] at H; cases H)
 | succ fuel ih =>
 have ih_r03_expFormed := ih
 refine ?_
 intro a0 a1 r H
 rw [pI] at H
 refine bJ Tryz.func120 rfl Tryz.ntmps120 rfl (fun β => ?_)
 refine Z1 ?_
 refine Tn (cF rfl (has rfl) bO) fun b1 => ?_
 refine Z2 ?_
 refine aG ?_
 revert H; refine I7 (fun c1 H => ?_) fun c1 H => ?_
 revert H; refine B1 fun o1 H Hr1 => ?_
 refine aR (ι := Bool) (fun i => o1 = i) (fun i => [(4, aL i)]) (fun i => [aC b1 56 [aA .i64 a0.Op, aA .i64 a0.N, fS a0.Kids]]) ?_ ?_
 refine Z2 ?_
 refine Yo 0 rfl (bS rfl hh (sc rfl) rfl (iW gX)) ?_
 revert H; refine I3 (fun c2 H => ?_) fun c2 H => ?_
 revert H; refine I5 (fun c3 H => ?_) fun c3 H => ?_
 refine Z6 ?_
 exact Tm (decide (a0.N ≤ 1000000000)) (ij H)
 refine Z6 ?_
 exact Tm (false) (ij H)
 refine Z11 ?_
 exact Tm (false) (ij H)
 clear H; intro x1 hi; subst o1; have H := Hr1; clear Hr1; try dsimp only at H
 try dsimp only
 refine Z3 ?_
 cases H
 refine aH [] (by decide) ?_
 exact To
 revert H; refine I7 (fun c4 H => ?_) fun c4 H => ?_
 revert H; refine B1 fun o2 H Hr2 => ?_
 refine aR (ι := Bool) (fun i => o2 = i) (fun i => [(4, aL i)]) (fun i => [aC b1 56 [aA .i64 a0.Op, aA .i64 a0.N, fS a0.Kids]]) ?_ ?_
 refine Z2 ?_
 refine Yo 0 rfl (bS rfl hh (sc rfl) rfl (iW gX)) ?_
 revert H; refine I3 (fun c5 H => ?_) fun c5 H => ?_
 revert H; refine I5 (fun c6 H => ?_) fun c6 H => ?_
 refine Z7 ?_
 exact Tm (decide (a0.N < a1)) (ij H)
 refine Z7 ?_
 exact Tm (false) (ij H)
 refine Z12 ?_
 exact Tm (false) (ij H)
 clear H; intro x2 hi; subst o2; have H := Hr2; clear Hr2; try dsimp only at H
 try dsimp only
 refine Z3 ?_
 cases H
 refine aH [] (by decide) ?_
 exact To
 revert H; refine I6 (fun c7 H => ?_) fun c7 H => ?_
 refine Z12 ?_
 refine Z12 ?_
 cases H
 refine aH [] (by decide) ?_
 exact To
 revert H; refine I5 (fun c8 H => ?_) fun c8 H => ?_
 refine Z12 ?_
 refine Z7 ?_
 cases H
 refine aH [] (by decide) ?_
 exact To
 refine Z1 ?_
 refine Yh 0 rfl c8 (bS rfl hh (sc rfl) rfl (iW gX)) ?_
 revert H; refine I4 (fun c9 H => ?_) fun c9 H => ?_
 refine Z12 ?_
 refine Z1 ?_
 cases H
 refine aH [] (by decide) ?_
 exact To
 revert H; refine I6 (fun c10 H => ?_) fun c10 H => ?_
 refine Z7 ?_
 cases H
 refine aH [] (by decide) ?_
 exact To
 revert H; refine B4 fun o3 H Hr3 => ?_
 refine aR (ι := Bool) (fun i => o3 = i) (fun i => [(4, aL i)]) (fun i => [aC b1 56 [aA .i64 a0.Op, aA .i64 a0.N, fS a0.Kids]]) ?_ ?_
 refine Z2 ?_
 refine Yo 0 rfl (bS rfl hh (sc rfl) rfl (iW gX)) ?_
 revert H; refine bs fun y1 h1 H => ?_
 revert H; refine B3 fun y2 h2 H => ?_
 refine Tc (ih_r03_expFormed _ _ _ h2) ?_
 refine Z1 ?_
 revert H; refine cs (fun c11 H => ?_) fun c11 H => ?_
 refine Z1 ?_
 refine Yh 0 rfl c11 (bS rfl hh (sc rfl) rfl (iW gX)) ?_
 revert H; refine bs fun y3 h3 H => ?_
 revert H; refine B3 fun y4 h4 H => ?_
 refine Tc (ih_r03_expFormed _ _ _ h4) ?_
 refine Z3 ?_
 exact Tm (y4) (ij H)
 refine Z9 ?_
 exact Tm (false) (ij H)
 clear H; intro x3 hi; subst o3; have H := Hr3; clear Hr3; try dsimp only at H
 try dsimp only
 refine Z1 ?_
 cases H
 refine aH [] (by decide) ?_
 exact To
def wI (fuel : Nat) (a0 : ScopeExp) (a1 : Int) : Option (Bool) :=
 ((mV fuel (⟨a0.Op, a0.N, a0.Kids⟩ : ScopeExp) 60).bind fun y1 =>
 if y1 ≤ 60 then
  (mI fuel (⟨a0.Op, a0.N, a0.Kids⟩ : ScopeExp)).bind fun y2 =>
  if y2 ≤ 12 then
   (pI fuel (⟨a0.Op, a0.N, a0.Kids⟩ : ScopeExp) a1).bind fun y3 =>
   some y3
  else
   some false
 else
  some false).bind fun x1 =>
 some x1
theorem aHu (fuel : Nat)  (a0 : ScopeExp) (a1 : Int) (r : Bool) (H : wI fuel a0 a1 = some r) : FnS Tryz.prog 105 [fSt bD a0, aA .i64 a1] [] (aL r) (fun _ => []) := by
 unfold wI at H
 refine bJ Tryz.func105 rfl Tryz.ntmps105 rfl (fun β => ?_)
 refine Z1 ?_
 refine Tn (cF rfl (has rfl) bO) fun b1 => ?_
 revert H; refine B2 fun o1 H Hr1 => ?_
 refine aR (ι := Bool) (fun i => o1 = i) (fun i => [(4, aL i)]) (fun i => [aC b1 56 [aA .i64 a0.Op, aA .i64 a0.N, fS a0.Kids]]) ?_ ?_
 revert H; refine B2 fun y1 h1 H => ?_
 refine Tc (aG6 _ _ _ _ h1) ?_
 revert H; refine I2 (fun c1 H => ?_) fun c1 H => ?_
 revert H; refine B1 fun y2 h2 H => ?_
 refine Tc (aHN _ _ _ h2) ?_
 revert H; refine I3 (fun c2 H => ?_) fun c2 H => ?_
 revert H; refine B2 fun y3 h3 H => ?_
 refine Tc (aE7 _ _ _ _ h3) ?_
 refine Z3 ?_
 exact Tm (y3) (ij H)
 refine Z6 ?_
 exact Tm (false) (ij H)
 refine Z11 ?_
 exact Tm (false) (ij H)
 clear H; intro x1 hi; subst o1; have H := Hr1; clear Hr1; try dsimp only at H
 try dsimp only
 refine Z1 ?_
 cases H
 refine aH [] (by decide) ?_
 exact To
def sS (a0 : ScopeDef) : Option (Int) :=
 (chk ((a0.Chans.length : Int) + (a0.Spots.length : Int))).bind fun z1 =>
 some z1
theorem aEZ  (a0 : ScopeDef) (r : Int) (H : sS a0 = some r) : FnS Tryz.prog 106 [fSt aI a0] [] (aA .i64 r) (fun _ => []) := by
 unfold sS at H
 refine bJ Tryz.func106 rfl Tryz.ntmps106 rfl (fun β => ?_)
 refine Z1 ?_
 refine Tn (cF rfl (has rfl) bO) fun b1 => ?_
 revert H; refine B9 fun z1 h1 H => ?_
 refine Z4 ?_
 cases H
 refine aH [] (by decide) ?_
 exact To
def oQ (a0 : ScopeDef) (a1 : ScopeRule) : Nat → Int → Int → Option (Int)
| 0, _, _ => none
| k + 1, x4, x5 =>
 if x5 < (a1.Joins.length : Int) then
  (idx a1.Joins x5).bind fun y1 =>
  (idx a0.Chans y1).bind fun y2 =>
  (chk (x4 + y2.Many)).bind fun z1 =>
  (chk (x5 + 1)).bind fun z2 =>
  oQ a0 a1 k z1 z2
 else
  some x4
def wT (fuel : Nat) (a0 : ScopeDef) (a1 : ScopeRule) : Option (Int) :=
 (oQ a0 a1 fuel 0 0).bind fun x1 =>
 some x1
theorem aG4 (fuel : Nat)  (a0 : ScopeDef) (a1 : ScopeRule) (r : Int) (H : wT fuel a0 a1 = some r) : FnS Tryz.prog 121 [fSt aI a0, fSt aZ a1] [] (aA .i64 r) (fun _ => []) := by
 unfold wT at H
 refine bJ Tryz.func121 rfl Tryz.ntmps121 rfl (fun β => ?_)
 refine Z1 ?_
 refine Tn (cF rfl (has rfl) bO) fun b1 => ?_
 refine Tn (cF rfl (has rfl) bO) fun b2 => ?_
 revert H; refine B5 fun o1 H Hr1 => ?_
 refine aR (ι := Int) (fun i => o1 = i) (fun i => [(5, aA .i64 i)]) (fun i => [aC b2 105 [aA .i64 a1.At, fSl (aB .i64) a1.Joins, aA .i64 a1.Node], aC b1 99 [fSl aU a0.Chans, fSl bH a0.Spots, fSl aZ a0.Rules]]) ?_ ?_
 refine Z4 ?_
 refine Tl (ι := Nat × Int × Int) (fun i => oQ a0 a1 i.1 i.2.1 i.2.2 = _) (fun i => i.1) (fun i => [(2, fEq (ptr b1)), (3, fEq (ptr b2)), (5, aA .i64 i.2.1), (6, aA .i64 i.2.2)]) (fun i => [aC b2 105 [aA .i64 a1.At, fSl (aB .i64) a1.Joins, aA .i64 a1.Node], aC b1 99 [fSl aU a0.Chans, fSl bH a0.Spots, fSl aZ a0.Rules]]) (fuel, 0, 0) H ?_
 clear H; rintro ⟨k1, x4, x5⟩ H
 replace H : oQ a0 a1 k1 x4 x5 = _ := H
 try dsimp only
 obtain _ | k1 := k1
 rw [oQ] at H; cases H
 rw [oQ] at H
 refine aG ?_
 revert H; refine I7 (fun c1 H => ?_) fun c1 H => ?_
 refine Z3 ?_
 refine aG ?_
 revert H; refine B1 fun y1 h1 H => ?_
 revert H; refine bs fun y2 h2 H => ?_
 revert H; refine bs fun z1 h3 H => ?_
 apply bC (ods := [_, _, _, _, _, _, _, _, _, _, _, _, _]) 13 0 2 bB rfl rfl rfl
 refine ND ?_
 refine M8 ?_
 intros
 refine M5 ?_
 intros
 revert H; refine B6 fun z2 h4 H => ?_
 refine Z3 ?_
 exact Tm ((k1, z1, z2)) ⟨H, ls⟩
 exact fk
 kernel_rfl
 refine Z6 ?_
 exact Tm (x4) (ij H)
 clear H; intro x1 hi; subst o1; have H := Hr1; clear Hr1; try dsimp only at H
 try dsimp only
 refine Z5 ?_
 cases H
 refine aH [] (by decide) ?_
 exact To
end Go.Proofs.YtmnbfgeljmhekaaGreat
set_option maxRecDepth 100000
set_option maxHeartbeats 2000000
namespace Go.Proofs.YtmnbfgeljmhekaaGreat
open Go.SX Go.SW Go.Dt
attribute [local irreducible] Code.wpIn wpListIn Exit.then Exit.inBlock
def iO (fuel : Nat) (a2 : Int) (y5 : ScopeNode) : Nat → Int → Bool → Option (Bool)
| 0, _, _ => none
| k + 1, x4, x5 =>
 if x4 < (y5.Args.length : Int) then
  (bif x5 then
   some true
  else
   (idx y5.Args x4).bind fun y7 =>
   (wI fuel y7 a2).bind fun y8 =>
   some (!y8)).bind fun x6 =>
  (chk (x4 + 1)).bind fun z2 =>
  iO fuel a2 y5 k z2 x6
 else
  some x5
def iV (rec_r03_look_node : Ref03_look → Int → Int → Option (Ref03_look)) (y5 : ScopeNode) (x7 : Int) : Nat → Int → (List ByteArray) → (List ScopeNode) → (List ScopeDef) → Int → (List Int) → (List Int) → (List Int) → Bool → Option (Ref03_look)
| 0, _, _, _, _, _, _, _, _, _ => none
| k + 1, x26, x27, x28, x29, x30, x31, x32, x33, x34 =>
 if x26 < (y5.Kids.length : Int) then
  bif x34 then
   some (⟨(⟨x27, x28, x29, x30⟩ : ScopeProg), x31, x32, x33, x34⟩ : Ref03_look)
  else
   (idx y5.Kids x26).bind fun y16 =>
   (rec_r03_look_node (⟨(⟨x27, x28, x29, x30⟩ : ScopeProg), x31, x32, x33, x34⟩ : Ref03_look) y16 x7).bind fun y17 =>
   (chk (x26 + 1)).bind fun z5 =>
   iV rec_r03_look_node y5 x7 k z5 y17.p.Free y17.p.Nodes y17.p.Defs y17.p.Main y17.sizes y17.owner y17.users y17.bad
 else
  some (⟨(⟨x27, x28, x29, x30⟩ : ScopeProg), x31, x32, x33, x34⟩ : Ref03_look)
def lG (fuel : Nat) (rec_r03_look_node : Ref03_look → Int → Int → Option (Ref03_look)) (a1 : ScopeDef) (a2 : Int) : Nat → Int → (List ByteArray) → (List ScopeNode) → (List ScopeDef) → Int → (List Int) → (List Int) → (List Int) → Bool → Option (List ByteArray × List ScopeNode × List ScopeDef × Int × List Int × List Int × List Int × Bool)
| 0, _, _, _, _, _, _, _, _, _ => none
| k + 1, x18, x19, x20, x21, x22, x23, x24, x25, x26 =>
 if x18 < (a1.Rules.length : Int) then
  bif x26 then
   some (x19, x20, x21, x22, x23, x24, x25, x26)
  else
   (idx a1.Rules x18).bind fun y1 =>
   (idx a1.Rules x18).bind fun y2 =>
   (wT fuel (⟨a1.Chans, a1.Spots, a1.Rules⟩ : ScopeDef) y2).bind fun y3 =>
   (chk (a2 + y3)).bind fun z1 =>
   (rec_r03_look_node (⟨(⟨x19, x20, x21, x22⟩ : ScopeProg), x23, x24, x25, x26⟩ : Ref03_look) y1.Node z1).bind fun y4 =>
   (chk (x18 + 1)).bind fun z2 =>
   lG fuel rec_r03_look_node a1 a2 k z2 y4.p.Free y4.p.Nodes y4.p.Defs y4.p.Main y4.sizes y4.owner y4.users y4.bad
 else
  some (x19, x20, x21, x22, x23, x24, x25, x26)
def kO (rec_r03_look_node : Ref03_look → Int → Int → Option (Ref03_look)) (a1 : ScopeDef) (a2 : Int) : Nat → Int → (List ByteArray) → (List ScopeNode) → (List ScopeDef) → Int → (List Int) → (List Int) → (List Int) → Bool → Option (Ref03_look)
| 0, _, _, _, _, _, _, _, _, _ => none
| k + 1, x36, x37, x38, x39, x40, x41, x42, x43, x44 =>
 if x36 < (a1.Spots.length : Int) then
  bif x44 then
   some (⟨(⟨x37, x38, x39, x40⟩ : ScopeProg), x41, x42, x43, x44⟩ : Ref03_look)
  else
   (idx a1.Spots x36).bind fun y5 =>
   (rec_r03_look_node (⟨(⟨x37, x38, x39, x40⟩ : ScopeProg), x41, x42, x43, x44⟩ : Ref03_look) y5.Node a2).bind fun y6 =>
   (chk (x36 + 1)).bind fun z3 =>
   kO rec_r03_look_node a1 a2 k z3 y6.p.Free y6.p.Nodes y6.p.Defs y6.p.Main y6.sizes y6.owner y6.users y6.bad
 else
  some (⟨(⟨x37, x38, x39, x40⟩ : ScopeProg), x41, x42, x43, x44⟩ : Ref03_look)
mutual
def eT : Nat → Ref03_look → Int → Int → Option (Ref03_look)
| 0, _, _, _ => none
| fuel + 1, a0, a1, a2 =>
 if a1 < 0 then
  some (⟨(⟨a0.p.Free, a0.p.Nodes, a0.p.Defs, a0.p.Main⟩ : ScopeProg), a0.sizes, a0.owner, a0.users, true⟩ : Ref03_look)
 else
  if (a0.p.Nodes.length : Int) ≤ a1 then
   some (⟨(⟨a0.p.Free, a0.p.Nodes, a0.p.Defs, a0.p.Main⟩ : ScopeProg), a0.sizes, a0.owner, a0.users, true⟩ : Ref03_look)
  else
   (idx a0.owner a1).bind fun y1 =>
   if 0 < y1 then
    some (⟨(⟨a0.p.Free, a0.p.Nodes, a0.p.Defs, a0.p.Main⟩ : ScopeProg), a0.sizes, a0.owner, a0.users, true⟩ : Ref03_look)
   else
    (idx a0.owner a1).bind fun y2 =>
    (chk (y2 + 1)).bind fun z1 =>
    (idx a0.owner a1).bind fun y3 =>
    (idx a0.sizes a1).bind fun y4 =>
    (idx a0.p.Nodes a1).bind fun y5 =>
    (tS y5.Op).bind fun y6 =>
    (bif !y6.2.2 then
     (some (⟨(⟨a0.p.Free, a0.p.Nodes, a0.p.Defs, a0.p.Main⟩ : ScopeProg), a0.sizes.set a1.toNat a2, a0.owner.set a1.toNat z1, a0.users, true⟩ : Ref03_look)).bind fun r => some (Sum.inr r)
    else
     if (y5.Kids.length : Int) ≠ y6.2.1 then
      (some (⟨(⟨a0.p.Free, a0.p.Nodes, a0.p.Defs, a0.p.Main⟩ : ScopeProg), a0.sizes.set a1.toNat a2, a0.owner.set a1.toNat z1, a0.users, true⟩ : Ref03_look)).bind fun r => some (Sum.inr r)
     else
      if y6.1 < 0 then
       if 3 < (y5.Args.length : Int) then
        (some (⟨(⟨a0.p.Free, a0.p.Nodes, a0.p.Defs, a0.p.Main⟩ : ScopeProg), a0.sizes.set a1.toNat a2, a0.owner.set a1.toNat z1, a0.users, true⟩ : Ref03_look)).bind fun r => some (Sum.inr r)
       else
        if 0 ≤ y6.1 then
         if (y5.Args.length : Int) ≠ y6.1 then
          (some (⟨(⟨a0.p.Free, a0.p.Nodes, a0.p.Defs, a0.p.Main⟩ : ScopeProg), a0.sizes.set a1.toNat a2, a0.owner.set a1.toNat z1, a0.users, true⟩ : Ref03_look)).bind fun r => some (Sum.inr r)
         else
          some (Sum.inl ())
        else
         some (Sum.inl ())
      else
       if 0 ≤ y6.1 then
        if (y5.Args.length : Int) ≠ y6.1 then
         (some (⟨(⟨a0.p.Free, a0.p.Nodes, a0.p.Defs, a0.p.Main⟩ : ScopeProg), a0.sizes.set a1.toNat a2, a0.owner.set a1.toNat z1, a0.users, true⟩ : Ref03_look)).bind fun r => some (Sum.inr r)
        else
         some (Sum.inl ())
       else
        some (Sum.inl ())).bind fun o => match o with
    | Sum.inr r => some r
    | Sum.inl _ =>
    (iO fuel a2 y5 fuel 0 a0.bad).bind fun x1 =>
    ((if y5.Op = 2 then
     some (decide (y5.Op = 2))
    else
     if y5.Op = 6 then
      some (decide (y5.Op = 6))
     else
      some (decide (y5.Op = 8))).bind fun x16 =>
    bif x16 then
     bif x1 then
      some (Sum.inl (a2, a0.p.Free, a0.p.Nodes, a0.p.Defs, a0.p.Main, a0.sizes.set a1.toNat a2, a0.owner.set a1.toNat z1, a0.users, true))
     else
      if y5.N < 0 then
       some (Sum.inl (a2, a0.p.Free, a0.p.Nodes, a0.p.Defs, a0.p.Main, a0.sizes.set a1.toNat a2, a0.owner.set a1.toNat z1, a0.users, true))
      else
       some (Sum.inl (a2, a0.p.Free, a0.p.Nodes, a0.p.Defs, a0.p.Main, a0.sizes.set a1.toNat a2, a0.owner.set a1.toNat z1, a0.users, decide (a2 ≤ y5.N)))
    else
     if y5.Op = 4 then
      if y5.N < 0 then
       (some (⟨(⟨a0.p.Free, a0.p.Nodes, a0.p.Defs, a0.p.Main⟩ : ScopeProg), a0.sizes.set a1.toNat a2, a0.owner.set a1.toNat z1, a0.users, true⟩ : Ref03_look)).bind fun r => some (Sum.inr r)
      else
       if (a0.p.Defs.length : Int) ≤ y5.N then
        (some (⟨(⟨a0.p.Free, a0.p.Nodes, a0.p.Defs, a0.p.Main⟩ : ScopeProg), a0.sizes.set a1.toNat a2, a0.owner.set a1.toNat z1, a0.users, true⟩ : Ref03_look)).bind fun r => some (Sum.inr r)
       else
        (idx a0.users y5.N).bind fun y9 =>
        if 0 < y9 then
         (some (⟨(⟨a0.p.Free, a0.p.Nodes, a0.p.Defs, a0.p.Main⟩ : ScopeProg), a0.sizes.set a1.toNat a2, a0.owner.set a1.toNat z1, a0.users, true⟩ : Ref03_look)).bind fun r => some (Sum.inr r)
        else
         (idx a0.users y5.N).bind fun y10 =>
         (chk (y10 + 1)).bind fun z3 =>
         (idx a0.users y5.N).bind fun y11 =>
         (idx a0.p.Defs y5.N).bind fun y12 =>
         (sS y12).bind fun y13 =>
         (chk (a2 + y13)).bind fun z4 =>
         (idx a0.p.Defs y5.N).bind fun y14 =>
         ((nZ fuel) (⟨(⟨a0.p.Free, a0.p.Nodes, a0.p.Defs, a0.p.Main⟩ : ScopeProg), a0.sizes.set a1.toNat a2, a0.owner.set a1.toNat z1, a0.users.set y5.N.toNat z3, x1⟩ : Ref03_look) y14 z4).bind fun y15 =>
         some (Sum.inl (z4, y15.p.Free, y15.p.Nodes, y15.p.Defs, y15.p.Main, y15.sizes, y15.owner, y15.users, y15.bad))
     else
      bif x1 then
       some (Sum.inl (a2, a0.p.Free, a0.p.Nodes, a0.p.Defs, a0.p.Main, a0.sizes.set a1.toNat a2, a0.owner.set a1.toNat z1, a0.users, true))
      else
       some (Sum.inl (a2, a0.p.Free, a0.p.Nodes, a0.p.Defs, a0.p.Main, a0.sizes.set a1.toNat a2, a0.owner.set a1.toNat z1, a0.users, decide (y5.N ≠ 0)))).bind fun o => match o with
    | Sum.inr r => some r
    | Sum.inl (x7, x8, x9, x10, x11, x12, x13, x14, x15) =>
    iV (eT fuel) y5 x7 fuel 0 x8 x9 x10 x11 x12 x13 x14 x15
def nZ : Nat → Ref03_look → ScopeDef → Int → Option (Ref03_look)
| 0, _, _, _ => none
| fuel + 1, a0, a1, a2 =>
 (lG fuel (eT fuel) a1 a2 fuel 0 a0.p.Free a0.p.Nodes a0.p.Defs a0.p.Main a0.sizes a0.owner a0.users a0.bad).bind fun (x1, x2, x3, x4, x5, x6, x7, x8) =>
 kO (eT fuel) a1 a2 fuel 0 x1 x2 x3 x4 x5 x6 x7 x8
end
theorem aFC : ∀ (fuel : Nat), (∀ (p0 : Nat) (a0 : Ref03_look) (a1 : Int) (a2 : Int) (r : Ref03_look) (H : eT fuel a0 a1 a2 = some r), FnS Tryz.prog 89 [fEq (.pointer (some ⟨p0, 0, none⟩)), aA .i64 a1, aA .i64 a2] [pG p0 a0] (dC []) (fun _ => [pG p0 r])) ∧ (∀ (p0 : Nat) (a0 : Ref03_look) (a1 : ScopeDef) (a2 : Int) (r : Ref03_look) (H : nZ fuel a0 a1 a2 = some r), FnS Tryz.prog 107 [fEq (.pointer (some ⟨p0, 0, none⟩)), fSt aI a1, aA .i64 a2] [pG p0 a0] (dC []) (fun _ => [pG p0 r])) := by
 intro fuel
 induction fuel with
 | zero => exact ⟨fun p0 a0 a1 a2 r H => (by rw [eT] at H; cases H), fun p0 a0 a1 a2 r H => (by rw [nZ] at H; cases H)⟩
 | succ fuel ih =>
 obtain ⟨ih_r03_look_node, ih_r03_look_def⟩ := ih
 refine ⟨?_, ?_⟩
 intro p0 a0 a1 a2 r H
 rw [eT] at H
 refine bJ Tryz.func89 rfl Tryz.ntmps89 rfl (fun β => ?_)
 refine rN (fun v1 v2 v3 => ?_)
 refine aN 1 rfl (fun hc_v1 => ?_)
 refine aN 2 rfl (fun hc_v2 => ?_)
 refine aN 3 rfl (fun hc_v3 => ?_)
 refine aG ?_
 revert H; refine I4 (fun c1 H => ?_) fun c1 H => ?_
 refine Yt c1 ?_
 refine Yt c1 ?_
 refine Yt c1 ?_
 refine Yt c1 ?_
 refine Yt c1 ?_
 refine Yt c1 ?_
 refine Yt c1 ?_
 refine Yt c1 ?_
 refine Yy (cN rfl hh c1 hh) ?_
 refine Z12 ?_
 refine Z4 ?_
 refine dA (φs' := [fSl aM a0.p.Free, fSl aK a0.p.Nodes, fSl aI a0.p.Defs, aA .i64 a0.p.Main, fEq v1, fEq v2, fEq v3, aL true]) trivial rfl rfl (has rfl) (has rfl) (aE trivial) (sz rfl) rfl rfl ?_
 refine Z2 ?_
 refine fT (x := (⟨(⟨a0.p.Free, a0.p.Nodes, a0.p.Defs, a0.p.Main⟩ : ScopeProg), a0.sizes, a0.owner, a0.users, true⟩ : Ref03_look)) ?_
 cases H
 exact eZ (.inl rfl) rfl rfl
 refine Yg c1 (bF rfl hh) ?_
 refine Yg c1 (bF rfl hh) ?_
 refine Yg c1 (iX rfl (has rfl) (fun m v h => ⟨_, h⟩)) ?_
 refine Yg c1 (cE 0 rfl hh (fa rfl) rfl) ?_
 refine Yg c1 (cE 1 rfl hh (fa rfl) rfl) ?_
 refine Yh 0 rfl c1 (bS rfl hh (sc rfl) rfl Ent.rfl) ?_
 refine Yg c1 (dT rfl hh (us rfl)) ?_
 refine Yg c1 (pL rfl hh hh) ?_
 refine Yy (bU rfl hh c1 hh) ?_
 revert H; refine I1 (fun c2 H => ?_) fun c2 H => ?_
 refine Yt c2 ?_
 refine Yt c2 ?_
 refine Yt c2 ?_
 refine Yt c2 ?_
 refine Yt c2 ?_
 refine Yt c2 ?_
 refine Yt c2 ?_
 refine Yt c2 ?_
 refine Yy (cN rfl hh c2 hh) ?_
 refine Z6 ?_
 refine dA (φs' := [fSl aM a0.p.Free, fSl aK a0.p.Nodes, fSl aI a0.p.Defs, aA .i64 a0.p.Main, fEq v1, fEq v2, fEq v3, aL true]) trivial rfl rfl (has rfl) (has rfl) (aE trivial) (sz rfl) rfl rfl ?_
 refine Z2 ?_
 refine fT (x := (⟨(⟨a0.p.Free, a0.p.Nodes, a0.p.Defs, a0.p.Main⟩ : ScopeProg), a0.sizes, a0.owner, a0.users, true⟩ : Ref03_look)) ?_
 cases H
 exact eZ (.inl rfl) rfl rfl
 refine Yg c2 (bF rfl hh) ?_
 refine Yg c2 (iX rfl (has rfl) (fun m v h => ⟨_, h⟩)) ?_
 refine Yg c2 (cE 5 rfl hh (fa rfl) rfl) ?_
 refine Yh 0 rfl c2 (bS rfl hh (sc rfl) rfl Ent.rfl) ?_
 refine Yg c2 (bF rfl hh) ?_
 revert H; refine bs fun y1 h1 H => ?_
 refine Yh 2 rfl c2 (jI rfl hh hh (el rfl) h1) ?_
 refine Yh 2 rfl c2 (jW rfl rfl hh (sc rfl) (cB h1) rfl) ?_
 refine Yg c2 (gO rfl hh hh) ?_
 refine Yy (bU rfl hh c2 hh) ?_
 revert H; refine I1 (fun c3 H => ?_) fun c3 H => ?_
 refine cJ (has rfl) c3 ?_
 refine Z4 ?_
 refine dA (φs' := [fSl aM a0.p.Free, fSl aK a0.p.Nodes, fSl aI a0.p.Defs, aA .i64 a0.p.Main, fEq v1, fEq v2, fEq v3, aL true]) trivial rfl rfl (has rfl) (has rfl) (aE trivial) (sz rfl) rfl rfl ?_
 refine Z2 ?_
 refine fT (x := (⟨(⟨a0.p.Free, a0.p.Nodes, a0.p.Defs, a0.p.Main⟩ : ScopeProg), a0.sizes, a0.owner, a0.users, true⟩ : Ref03_look)) ?_
 cases H
 exact eZ (.inl rfl) rfl rfl
 refine cK (has rfl) c3 ?_
 revert H; refine B8 fun y2 h2 H => ?_
 refine Yo 2 rfl (jI rfl hh hh (el rfl) h2) ?_
 refine Yo 2 rfl (jW rfl rfl hh (sc rfl) (cB h2) rfl) ?_
 revert H; refine bs fun z1 h3 H => ?_
 refine Yy (eN rfl hh hh h3) ?_
 revert H; refine bs fun y3 h4 H => ?_
 refine Yo 2 rfl (jI rfl hh hh (el rfl) h4) ?_
 refine eB ?_
 refine qP (z' := z1) trivial rfl rfl rfl (has rfl) (has rfl) (aE trivial) (sz rfl) (cB h4) rfl rfl ?_
 revert H; refine B8 fun y4 h5 H => ?_
 refine Yo 2 rfl (jI rfl hh hh (el rfl) h5) ?_
 refine eB ?_
 refine qP (z' := a2) trivial rfl rfl rfl (has rfl) (has rfl) (aE trivial) (sz rfl) (cB h5) rfl rfl ?_
 revert H; refine B8 fun y5 h6 H => ?_
 refine Yy (bE rfl hh hh (el rfl) h6) ?_
 refine Z1 ?_
 refine Tn (bZ rfl hZ rfl) fun b1 => ?_
 refine cS (φs' := [aA .i64 y5.Op, aA .i64 y5.N, fSl bD y5.Args, fSl (aB .i64) y5.Kids]) trivial rfl rfl (has rfl) (has rfl) (aJ (aE trivial) (aJ (aE trivial) (aJ (bA) (aJ (bA) bP)))) (sz rfl) rfl rfl rfl ?_
 revert H; refine B4 fun y6 h7 H => ?_
 refine Tc (aGG _ _ h7) ?_
 revert H; refine B8 fun o1 H Hr1 => ?_
 refine aR (ι := Unit) (fun i => o1 = Sum.inl ()) (fun i => [(0, fEq (ptr p0)), (2, aA .i64 a2), (6, fEq (ptr b1))]) (fun i => [aC b1 51 [aA .i64 y5.Op, aA .i64 y5.N, fSl bD y5.Args, fSl (aB .i64) y5.Kids], aC p0 89 [fSl aM a0.p.Free, fSl aK a0.p.Nodes, fSl aI a0.p.Defs, aA .i64 a0.p.Main, fEq v1, fEq v2, fEq v3, aL a0.bad], aD v1 3 (aB .i64) (a0.sizes.set a1.toNat a2), aD v2 3 (aB .i64) (a0.owner.set a1.toNat z1), aD v3 3 (aB .i64) a0.users]) ?_ ?_
 refine Z4 ?_
 revert H; refine cs (fun c4 H => ?_) fun c4 H => ?_
 refine Yt c4 ?_
 refine Yt c4 ?_
 refine Yt c4 ?_
 refine Yt c4 ?_
 refine Yt c4 ?_
 refine Yy (cN rfl hh c4 hh) ?_
 refine Z4 ?_
 refine dG (⟨_, _, _, _, rfl, rfl, rfl, nu⟩) rfl rfl ?_
 refine dG (⟨_, _, _, _, rfl, rfl, rfl, nu⟩) rfl rfl ?_
 refine dG (⟨_, _, _, _, rfl, rfl, rfl, nu⟩) rfl rfl ?_
 refine dG (⟨_, _, _, _, rfl, rfl, rfl, nu⟩) rfl rfl ?_
 refine Z6 ?_
 refine dG (⟨_, _, _, _, rfl, rfl, rfl, nu⟩) rfl rfl ?_
 refine dG (⟨_, _, _, _, rfl, rfl, rfl, nu⟩) rfl rfl ?_
 refine dG (⟨_, _, _, _, rfl, rfl, rfl, nu⟩) rfl rfl ?_
 refine dG (⟨_, _, _, _, rfl, rfl, rfl, nu⟩) rfl rfl ?_
 refine dG (⟨_, _, _, _, rfl, rfl, rfl, nu⟩) rfl rfl ?_
 refine Z8 ?_
 refine cX ?_
 refine dA (φs' := [fSl aM a0.p.Free, fSl aK a0.p.Nodes, fSl aI a0.p.Defs, aA .i64 a0.p.Main, fEq v1, fEq v2, fEq v3, aL true]) trivial rfl rfl (has rfl) (has rfl) (aE trivial) (sz rfl) rfl rfl ?_
 revert H; refine B2 fun r1 H e1 => ?_
 cases e1; cases Hr1
 refine bK ?_
 refine bK ?_
 refine bK ?_
 refine cX ?_
 refine fT (x := (⟨(⟨a0.p.Free, a0.p.Nodes, a0.p.Defs, a0.p.Main⟩ : ScopeProg), a0.sizes.set a1.toNat a2, a0.owner.set a1.toNat z1, a0.users, true⟩ : Ref03_look)) ?_
 cases H
 refine aH [0] (by decide) ?_
 exact eZ (.inl rfl) rfl rfl
 refine Yg c4 (cE 3 rfl hh (fa rfl) rfl) ?_
 refine Yh 0 rfl c4 (bS rfl hh (sc rfl) rfl Ent.rfl) ?_
 refine Yg c4 (dT rfl hh (us rfl)) ?_
 refine Yg c4 (bF rfl hh) ?_
 refine Yg c4 (hP rfl hh hh) ?_
 refine Yy (bU rfl hh c4 hh) ?_
 revert H; refine I1 (fun c5 H => ?_) fun c5 H => ?_
 refine Yt c5 ?_
 refine Yt c5 ?_
 refine Yt c5 ?_
 refine dG (⟨_, _, _, _, rfl, rfl, rfl, nu⟩) rfl rfl ?_
 refine dG (⟨_, _, _, _, rfl, rfl, rfl, nu⟩) rfl rfl ?_
 refine dG (⟨_, _, _, _, rfl, rfl, rfl, nu⟩) rfl rfl ?_
 refine dG (⟨_, _, _, _, rfl, rfl, rfl, nu⟩) rfl rfl ?_
 refine Yt c5 ?_
 refine Yy (cN rfl hh c5 hh) ?_
 refine Z4 ?_
 refine dG (⟨_, _, _, _, rfl, rfl, rfl, nu⟩) rfl rfl ?_
 refine dG (⟨_, _, _, _, rfl, rfl, rfl, nu⟩) rfl rfl ?_
 refine dG (⟨_, _, _, _, rfl, rfl, rfl, nu⟩) rfl rfl ?_
 refine dG (⟨_, _, _, _, rfl, rfl, rfl, nu⟩) rfl rfl ?_
 refine dG (⟨_, _, _, _, rfl, rfl, rfl, nu⟩) rfl rfl ?_
 refine Z8 ?_
 refine cX ?_
 refine dA (φs' := [fSl aM a0.p.Free, fSl aK a0.p.Nodes, fSl aI a0.p.Defs, aA .i64 a0.p.Main, fEq v1, fEq v2, fEq v3, aL true]) trivial rfl rfl (has rfl) (has rfl) (aE trivial) (sz rfl) rfl rfl ?_
 revert H; refine B2 fun r2 H e2 => ?_
 cases e2; cases Hr1
 refine bK ?_
 refine bK ?_
 refine bK ?_
 refine cX ?_
 refine fT (x := (⟨(⟨a0.p.Free, a0.p.Nodes, a0.p.Defs, a0.p.Main⟩ : ScopeProg), a0.sizes.set a1.toNat a2, a0.owner.set a1.toNat z1, a0.users, true⟩ : Ref03_look)) ?_
 cases H
 refine aH [0] (by decide) ?_
 exact eZ (.inl rfl) rfl rfl
 refine Yg c5 (bF rfl hh) ?_
 refine Yg c5 (sZ rfl hh hh) ?_
 refine Yg c5 (bF rfl hh) ?_
 revert H; refine is (fun c6 H => ?_) fun c6 H => ?_
 refine Yg c6 (cE 2 rfl hh (fa rfl) rfl) ?_
 refine Yh 0 rfl c6 (bS rfl hh (sc rfl) rfl Ent.rfl) ?_
 refine Yg c6 (dT rfl hh (us rfl)) ?_
 refine Yg c6 (gO rfl hh hh) ?_
 refine Yg c5 (cN rfl hh c6 hh) ?_
 refine Yy (bU rfl hh c5 hh) ?_
 revert H; refine I1 (fun c7 H => ?_) fun c7 H => ?_
 refine Yt c7 ?_
 refine Yt c7 ?_
 refine Yt c7 ?_
 refine dG (⟨_, _, _, _, rfl, rfl, rfl, nu⟩) rfl rfl ?_
 refine dG (⟨_, _, _, _, rfl, rfl, rfl, nu⟩) rfl rfl ?_
 refine dG (⟨_, _, _, _, rfl, rfl, rfl, nu⟩) rfl rfl ?_
 refine dG (⟨_, _, _, _, rfl, rfl, rfl, nu⟩) rfl rfl ?_
 refine dG (⟨_, _, _, _, rfl, rfl, rfl, nu⟩) rfl rfl ?_
 refine Yt c7 ?_
 refine Yy (cN rfl hh c7 hh) ?_
 refine Z6 ?_
 refine cX ?_
 refine dA (φs' := [fSl aM a0.p.Free, fSl aK a0.p.Nodes, fSl aI a0.p.Defs, aA .i64 a0.p.Main, fEq v1, fEq v2, fEq v3, aL true]) trivial rfl rfl (has rfl) (has rfl) (aE trivial) (sz rfl) rfl rfl ?_
 revert H; refine B2 fun r3 H e3 => ?_
 cases e3; cases Hr1
 refine bK ?_
 refine bK ?_
 refine bK ?_
 refine cX ?_
 refine fT (x := (⟨(⟨a0.p.Free, a0.p.Nodes, a0.p.Defs, a0.p.Main⟩ : ScopeProg), a0.sizes.set a1.toNat a2, a0.owner.set a1.toNat z1, a0.users, true⟩ : Ref03_look)) ?_
 cases H
 refine aH [0] (by decide) ?_
 exact eZ (.inl rfl) rfl rfl
 refine Yg c7 (bF rfl hh) ?_
 refine Yg c7 (pL rfl hh hh) ?_
 refine Yg c7 (bF rfl hh) ?_
 revert H; refine is (fun c8 H => ?_) fun c8 H => ?_
 refine Yg c8 (cE 2 rfl hh (fa rfl) rfl) ?_
 refine Yh 0 rfl c8 (bS rfl hh (sc rfl) rfl Ent.rfl) ?_
 refine Yg c8 (dT rfl hh (us rfl)) ?_
 refine Yg c8 (bF rfl hh) ?_
 refine Yg c8 (hP rfl hh hh) ?_
 refine Yg c7 (cN rfl hh c8 hh) ?_
 refine Yy (bU rfl hh c7 hh) ?_
 revert H; refine I1 (fun c9 H => ?_) fun c9 H => ?_
 refine cJ (has rfl) c9 ?_
 refine Z4 ?_
 refine cX ?_
 refine dA (φs' := [fSl aM a0.p.Free, fSl aK a0.p.Nodes, fSl aI a0.p.Defs, aA .i64 a0.p.Main, fEq v1, fEq v2, fEq v3, aL true]) trivial rfl rfl (has rfl) (has rfl) (aE trivial) (sz rfl) rfl rfl ?_
 revert H; refine B2 fun r4 H e4 => ?_
 cases e4; cases Hr1
 refine bK ?_
 refine bK ?_
 refine bK ?_
 refine cX ?_
 refine fT (x := (⟨(⟨a0.p.Free, a0.p.Nodes, a0.p.Defs, a0.p.Main⟩ : ScopeProg), a0.sizes.set a1.toNat a2, a0.owner.set a1.toNat z1, a0.users, true⟩ : Ref03_look)) ?_
 cases H
 refine aH [0] (by decide) ?_
 exact eZ (.inl rfl) rfl rfl
 refine cK (has rfl) c9 ?_
 refine Z2 ?_
 refine aH [0, 3, 1, 2, 4] (by decide) ?_
 exact Tm (()) (ij H)
 refine Yf c8 ?_
 refine Yf c8 ?_
 refine Yf c8 ?_
 refine Yf c8 ?_
 refine Yf c8 ?_
 refine Yg c7 (bU rfl hh c8 hh) ?_
 refine Yy (bU rfl hh c7 hh) ?_
 refine Z4 ?_
 refine aH [0, 3, 1, 2, 4] (by decide) ?_
 exact Tm (()) (ij H)
 refine Yf c6 ?_
 refine Yf c6 ?_
 refine Yf c6 ?_
 refine Yf c6 ?_
 refine Yg c5 (bU rfl hh c6 hh) ?_
 refine Yy (bU rfl hh c5 hh) ?_
 revert H; refine I4 (fun c10 H => ?_) fun c10 H => ?_
 refine Yg c10 (cE 2 rfl hh (fa rfl) rfl) ?_
 refine Yh 0 rfl c10 (bS rfl hh (sc rfl) rfl Ent.rfl) ?_
 refine Yg c10 (dT rfl hh (us rfl)) ?_
 refine Yg c10 (bF rfl hh) ?_
 refine Yg c10 (hP rfl hh hh) ?_
 refine Yg rfl (cN rfl hh c10 hh) ?_
 revert H; refine I2 (fun c11 H => ?_) fun c11 H => ?_
 refine cJ (has rfl) c11 ?_
 refine Z4 ?_
 refine cX ?_
 refine dA (φs' := [fSl aM a0.p.Free, fSl aK a0.p.Nodes, fSl aI a0.p.Defs, aA .i64 a0.p.Main, fEq v1, fEq v2, fEq v3, aL true]) trivial rfl rfl (has rfl) (has rfl) (aE trivial) (sz rfl) rfl rfl ?_
 revert H; refine B2 fun r5 H e5 => ?_
 cases e5; cases Hr1
 refine bK ?_
 refine bK ?_
 refine bK ?_
 refine cX ?_
 refine fT (x := (⟨(⟨a0.p.Free, a0.p.Nodes, a0.p.Defs, a0.p.Main⟩ : ScopeProg), a0.sizes.set a1.toNat a2, a0.owner.set a1.toNat z1, a0.users, true⟩ : Ref03_look)) ?_
 cases H
 refine aH [0] (by decide) ?_
 exact eZ (.inl rfl) rfl rfl
 refine cK (has rfl) c11 ?_
 refine Z2 ?_
 refine aH [0, 3, 1, 2, 4] (by decide) ?_
 exact Tm (()) (ij H)
 refine Yf c10 ?_
 refine Yf c10 ?_
 refine Yf c10 ?_
 refine Yf c10 ?_
 refine Yf c10 ?_
 refine Yg rfl (bU rfl hh c10 hh) ?_
 refine Z5 ?_
 refine aH [0, 3, 1, 2, 4] (by decide) ?_
 exact Tm (()) (ij H)
 clear H; intro i hi; subst o1; have H := Hr1; clear Hr1; try dsimp only at H
 try dsimp only
 revert H; refine bs fun o2 H Hr2 => ?_
 refine aR (ι := Bool) (fun i => o2 = i) (fun i => [(0, fEq (ptr p0)), (2, aA .i64 a2), (6, fEq (ptr b1))]) (fun i => [aC b1 51 [aA .i64 y5.Op, aA .i64 y5.N, fSl bD y5.Args, fSl (aB .i64) y5.Kids], aC p0 89 [fSl aM a0.p.Free, fSl aK a0.p.Nodes, fSl aI a0.p.Defs, aA .i64 a0.p.Main, fEq v1, fEq v2, fEq v3, aL i], aD v1 3 (aB .i64) (a0.sizes.set a1.toNat a2), aD v2 3 (aB .i64) (a0.owner.set a1.toNat z1), aD v3 3 (aB .i64) a0.users]) ?_ ?_
 refine Z4 ?_
 refine Tl (ι := Nat × Int × Bool) (fun i => iO fuel a2 y5 i.1 i.2.1 i.2.2 = _) (fun i => i.1) (fun i => [(0, fEq (ptr p0)), (2, aA .i64 a2), (6, fEq (ptr b1)), (10, aA .i64 i.2.1)]) (fun i => [aC b1 51 [aA .i64 y5.Op, aA .i64 y5.N, fSl bD y5.Args, fSl (aB .i64) y5.Kids], aC p0 89 [fSl aM a0.p.Free, fSl aK a0.p.Nodes, fSl aI a0.p.Defs, aA .i64 a0.p.Main, fEq v1, fEq v2, fEq v3, aL i.2.2], aD v1 3 (aB .i64) (a0.sizes.set a1.toNat a2), aD v2 3 (aB .i64) (a0.owner.set a1.toNat z1), aD v3 3 (aB .i64) a0.users]) (fuel, 0, a0.bad) H ?_
 clear H; rintro ⟨k1, x4, x5⟩ H
 replace H : iO fuel a2 y5 k1 x4 x5 = _ := H
 try dsimp only
 obtain _ | k1 := k1
 rw [iO] at H; cases H
 rw [iO] at H
 refine aG ?_
 revert H; refine I7 (fun c12 H => ?_) fun c12 H => ?_
 refine cJ (has rfl) c12 ?_
 revert H; refine B2 fun o3 H Hr3 => ?_
 refine aR (ι := Bool) (fun i => o3 = i) (fun i => [(0, fEq (ptr p0)), (2, aA .i64 a2), (6, fEq (ptr b1)), (10, aA .i64 x4)]) (fun i => [aC p0 89 [fSl aM a0.p.Free, fSl aK a0.p.Nodes, fSl aI a0.p.Defs, aA .i64 a0.p.Main, fEq v1, fEq v2, fEq v3, aL i], aC b1 51 [aA .i64 y5.Op, aA .i64 y5.N, fSl bD y5.Args, fSl (aB .i64) y5.Kids], aD v1 3 (aB .i64) (a0.sizes.set a1.toNat a2), aD v2 3 (aB .i64) (a0.owner.set a1.toNat z1), aD v3 3 (aB .i64) a0.users]) ?_ ?_
 refine Z8 ?_
 revert H; refine cs (fun c13 H => ?_) fun c13 H => ?_
 refine Yt c13 ?_
 refine Yt c13 ?_
 refine Yt c13 ?_
 refine Yt c13 ?_
 refine Yt c13 ?_
 refine Yt c13 ?_
 refine Yt c13 ?_
 refine Yt c13 ?_
 refine Yy (cN rfl hh c13 hh) ?_
 refine Z2 ?_
 refine cI ?_
 refine dA (φs' := [fSl aM a0.p.Free, fSl aK a0.p.Nodes, fSl aI a0.p.Defs, aA .i64 a0.p.Main, fEq v1, fEq v2, fEq v3, aL true]) trivial rfl rfl (has rfl) (has rfl) (aE trivial) (sz rfl) rfl rfl ?_
 refine Z3 ?_
 exact Tm (true) (ij H)
 refine Yg c13 (cE 2 rfl hh (fa rfl) rfl) ?_
 refine Yh 0 rfl c13 (bS rfl hh (sc rfl) rfl Ent.rfl) ?_
 refine Yg c13 (bF rfl hh) ?_
 revert H; refine bs fun y7 h8 H => ?_
 refine Yg c13 (bE rfl hh hh (el rfl) h8) ?_
 refine Yg c13 (aBA rfl hh (ag rfl)) ?_
 refine Yg c13 (bF rfl hh) ?_
 revert H; refine bs fun y8 h9 H => ?_
 refine Tc (aHu _ _ _ _ h9) ?_
 refine Yg c13 (gD rfl hh) ?_
 refine Yy (bU rfl hh c13 hh) ?_
 refine Z2 ?_
 refine cI ?_
 refine dA (φs' := [fSl aM a0.p.Free, fSl aK a0.p.Nodes, fSl aI a0.p.Defs, aA .i64 a0.p.Main, fEq v1, fEq v2, fEq v3, aL (!y8)]) trivial rfl rfl (has rfl) (has rfl) (aE trivial) (sz rfl) rfl rfl ?_
 refine Z3 ?_
 exact Tm (!y8) (ij H)
 clear H; intro x6 hi; subst o3; have H := Hr3; clear Hr3; try dsimp only at H
 try dsimp only
 revert H; refine B2 fun z2 h10 H => ?_
 refine Yy (eN rfl hh hh h10) ?_
 refine Z2 ?_
 refine aH [1, 0, 2, 3, 4] (by decide) ?_
 exact Tm ((k1, z2, x6)) ⟨H, ls⟩
 refine cK (has rfl) c12 ?_
 refine Z5 ?_
 exact Tm (x5) (ij H)
 clear H; intro x1 hi; subst o2; have H := Hr2; clear Hr2; try dsimp only at H
 try dsimp only
 revert H; refine B4 fun o4 H Hr4 => ?_
 refine aR (ι := Int × List ByteArray × List ScopeNode × List ScopeDef × Int × List Int × List Int × List Int × Bool × Value × Value × Value) (fun i => o4 = Sum.inl (i.1, i.2.1, i.2.2.1, i.2.2.2.1, i.2.2.2.2.1, i.2.2.2.2.2.1, i.2.2.2.2.2.2.1, i.2.2.2.2.2.2.2.1, i.2.2.2.2.2.2.2.2.1)) (fun i => [(0, fEq (ptr p0)), (6, fEq (ptr b1)), (11, aA .i64 i.1)]) (fun i => [aC p0 89 [fSl aM i.2.1, fSl aK i.2.2.1, fSl aI i.2.2.2.1, aA .i64 i.2.2.2.2.1, fEq i.2.2.2.2.2.2.2.2.2.1, fEq i.2.2.2.2.2.2.2.2.2.2.1, fEq i.2.2.2.2.2.2.2.2.2.2.2, aL i.2.2.2.2.2.2.2.2.1], aC b1 51 [aA .i64 y5.Op, aA .i64 y5.N, fSl bD y5.Args, fSl (aB .i64) y5.Kids], aD i.2.2.2.2.2.2.2.2.2.1 3 (aB .i64) i.2.2.2.2.2.1, aD i.2.2.2.2.2.2.2.2.2.2.1 3 (aB .i64) i.2.2.2.2.2.2.1, aD i.2.2.2.2.2.2.2.2.2.2.2 3 (aB .i64) i.2.2.2.2.2.2.2.1]) ?_ ?_
 revert H; refine B5 fun o5 H Hr5 => ?_
 refine aR (ι := Bool) (fun i => o5 = i) (fun i => [(0, fEq (ptr p0)), (2, aA .i64 a2), (6, fEq (ptr b1)), (11, aA .i64 a2), (128, aA .i64 y5.Op), (141, aL i)]) (fun i => [aC b1 51 [aA .i64 y5.Op, aA .i64 y5.N, fSl bD y5.Args, fSl (aB .i64) y5.Kids], aC p0 89 [fSl aM a0.p.Free, fSl aK a0.p.Nodes, fSl aI a0.p.Defs, aA .i64 a0.p.Main, fEq v1, fEq v2, fEq v3, aL x1], aD v1 3 (aB .i64) (a0.sizes.set a1.toNat a2), aD v2 3 (aB .i64) (a0.owner.set a1.toNat z1), aD v3 3 (aB .i64) a0.users]) ?_ ?_
 revert H; refine I4 (fun c14 H => ?_) fun c14 H => ?_
 refine cJ (has rfl) c14 ?_
 refine Z2 ?_
 exact Tm (decide (y5.Op = 2)) (ij H)
 refine cK (has rfl) c14 ?_
 revert H; refine I4 (fun c15 H => ?_) fun c15 H => ?_
 refine cJ (has rfl) c15 ?_
 refine Z2 ?_
 exact Tm (decide (y5.Op = 6)) (ij H)
 refine cK (has rfl) c15 ?_
 refine Z4 ?_
 exact Tm (decide (y5.Op = 8)) (ij H)
 clear H; intro x16 hi; subst o5; have H := Hr5; clear Hr5; try dsimp only at H
 try dsimp only
 revert H; refine cs (fun c16 H => ?_) fun c16 H => ?_
 refine cJ (has rfl) c16 ?_
 refine Z7 ?_
 revert H; refine cs (fun c17 H => ?_) fun c17 H => ?_
 refine Yt c17 ?_
 refine Yt c17 ?_
 refine Yt c17 ?_
 refine Yy (cN rfl hh c17 hh) ?_
 refine Z8 ?_
 refine cI ?_
 refine dA (φs' := [fSl aM a0.p.Free, fSl aK a0.p.Nodes, fSl aI a0.p.Defs, aA .i64 a0.p.Main, fEq v1, fEq v2, fEq v3, aL true]) trivial rfl rfl (has rfl) (has rfl) (aE trivial) (sz rfl) rfl rfl ?_
 refine Z3 ?_
 exact Tm ((a2, a0.p.Free, a0.p.Nodes, a0.p.Defs, a0.p.Main, a0.sizes.set a1.toNat a2, a0.owner.set a1.toNat z1, a0.users, true, v1, v2, v3)) (ij H)
 refine Yg c17 (cE 1 rfl hh (fa rfl) rfl) ?_
 refine Yh 0 rfl c17 (bS rfl hh (sc rfl) rfl Ent.rfl) ?_
 refine Yg c17 (sZ rfl hh hh) ?_
 refine Yy (bU rfl hh c17 hh) ?_
 revert H; refine I1 (fun c18 H => ?_) fun c18 H => ?_
 refine Yt c18 ?_
 refine Yt c18 ?_
 refine Yt c18 ?_
 refine Yt c18 ?_
 refine Yy (cN rfl hh c18 hh) ?_
 refine Z2 ?_
 refine cI ?_
 refine dA (φs' := [fSl aM a0.p.Free, fSl aK a0.p.Nodes, fSl aI a0.p.Defs, aA .i64 a0.p.Main, fEq v1, fEq v2, fEq v3, aL true]) trivial rfl rfl (has rfl) (has rfl) (aE trivial) (sz rfl) rfl rfl ?_
 refine Z3 ?_
 exact Tm ((a2, a0.p.Free, a0.p.Nodes, a0.p.Defs, a0.p.Main, a0.sizes.set a1.toNat a2, a0.owner.set a1.toNat z1, a0.users, true, v1, v2, v3)) (ij H)
 refine Yg c18 (cE 1 rfl hh (fa rfl) rfl) ?_
 refine Yh 0 rfl c18 (bS rfl hh (sc rfl) rfl Ent.rfl) ?_
 refine Yg c18 (bF rfl hh) ?_
 refine Yg c18 (pL rfl hh hh) ?_
 refine Yy (bU rfl hh c18 hh) ?_
 refine Z2 ?_
 refine cI ?_
 refine dA (φs' := [fSl aM a0.p.Free, fSl aK a0.p.Nodes, fSl aI a0.p.Defs, aA .i64 a0.p.Main, fEq v1, fEq v2, fEq v3, aL (decide (a2 ≤ y5.N))]) trivial rfl rfl (has rfl) (has rfl) (aE trivial) (sz rfl) rfl rfl ?_
 refine Z3 ?_
 exact Tm ((a2, a0.p.Free, a0.p.Nodes, a0.p.Defs, a0.p.Main, a0.sizes.set a1.toNat a2, a0.owner.set a1.toNat z1, a0.users, decide (a2 ≤ y5.N), v1, v2, v3)) (ij H)
 refine cK (has rfl) c16 ?_
 revert H; refine I4 (fun c19 H => ?_) fun c19 H => ?_
 refine cJ (has rfl) c19 ?_
 refine aG ?_
 refine aG ?_
 revert H; refine is (fun c20 H => ?_) fun c20 H => ?_
 apply bC (ods := [_, _, _, _, _, _, _, _, _, _, _, _, _, _, _, _, _, _, _, _, _, _, _, _, _]) 25 0 5 bB rfl rfl rfl
 refine ND ?_
 refine M4 ?_
 intros
 refine Mt c20 fun _ => ?_
 refine Mt c20 fun _ => ?_
 refine Mt c20 fun _ => ?_
 refine Mt c20 fun _ => ?_
 refine Mt c20 fun _ => ?_
 refine Mt c20 fun _ => ?_
 refine Mt c20 fun _ => ?_
 refine Mt c20 fun _ => ?_
 refine Mt c20 fun _ => ?_
 refine My (cN rfl hh c20 hh) fun _ => ?_
 refine M8 ?_
 intros
 refine M3 ?_
 intros
 refine Z7 ?_
 refine cI ?_
 refine dA (φs' := [fSl aM a0.p.Free, fSl aK a0.p.Nodes, fSl aI a0.p.Defs, aA .i64 a0.p.Main, fEq v1, fEq v2, fEq v3, aL true]) trivial rfl rfl (has rfl) (has rfl) (aE trivial) (sz rfl) rfl rfl ?_
 revert H; refine B4 fun r6 H e6 => ?_
 cases e6; cases Hr4
 refine bK ?_
 refine bK ?_
 refine bK ?_
 refine cX ?_
 refine fT (x := (⟨(⟨a0.p.Free, a0.p.Nodes, a0.p.Defs, a0.p.Main⟩ : ScopeProg), a0.sizes.set a1.toNat a2, a0.owner.set a1.toNat z1, a0.users, true⟩ : Ref03_look)) ?_
 cases H
 refine aH [0] (by decide) ?_
 exact eZ (.inl rfl) rfl rfl
 exact fk
 kernel_rfl
 revert H; refine is (fun c21 H => ?_) fun c21 H => ?_
 apply bC (ods := [_, _, _, _, _, _, _, _, _, _, _, _, _, _, _, _, _, _, _, _, _, _, _, _, _]) 25 0 5 bB rfl rfl rfl
 refine ND ?_
 refine M4 ?_
 intros
 refine Mg c20 (cE 1 rfl hh (fa rfl) rfl) fun _ => ?_
 refine dR (od := odC [0] false (aA .i64 y5.N) [cQ]) (ps := [0]) (φ := aA .i64 y5.N) rfl (fun _ => rfl) ⟨_, _, rfl, rfl, c20⟩ rfl rfl (bS rfl (has rfl) (sc rfl) rfl Ent.rfl) (fun _ => ?_)
 refine Mg c20 (bF rfl hh) fun _ => ?_
 refine Mg c20 (iX rfl (has rfl) (fun m v h => ⟨_, h⟩)) fun _ => ?_
 refine Mg c20 (cE 0 rfl hh (fa rfl) rfl) fun _ => ?_
 refine Mg c20 (cE 2 rfl hh (fa rfl) rfl) fun _ => ?_
 refine dR (od := odC [1] false (fSl aI a0.p.Defs) [cQ]) (ps := [1]) (φ := fSl aI a0.p.Defs) rfl (fun _ => rfl) ⟨_, _, rfl, rfl, c20⟩ rfl rfl (bS rfl (has rfl) (sc rfl) rfl Ent.rfl) (fun _ => ?_)
 refine Mg c20 (dT rfl hh (us rfl)) fun _ => ?_
 refine Mg c20 (pL rfl hh hh) fun _ => ?_
 refine My (bU rfl hh c20 hh) fun _ => ?_
 refine M1 ?_
 intros
 refine Mt c21 fun _ => ?_
 refine Mt c21 fun _ => ?_
 refine Mt c21 fun _ => ?_
 refine Mt c21 fun _ => ?_
 refine Mt c21 fun _ => ?_
 refine Mt c21 fun _ => ?_
 refine Mt c21 fun _ => ?_
 refine Mt c21 fun _ => ?_
 refine Mt c21 fun _ => ?_
 refine My (cN rfl hh c21 hh) fun _ => ?_
 refine Z7 ?_
 refine cI ?_
 refine dA (φs' := [fSl aM a0.p.Free, fSl aK a0.p.Nodes, fSl aI a0.p.Defs, aA .i64 a0.p.Main, fEq v1, fEq v2, fEq v3, aL true]) trivial rfl rfl (has rfl) (has rfl) (aE trivial) (sz rfl) rfl rfl ?_
 revert H; refine B4 fun r7 H e7 => ?_
 cases e7; cases Hr4
 refine bK ?_
 refine bK ?_
 refine bK ?_
 refine cX ?_
 refine fT (x := (⟨(⟨a0.p.Free, a0.p.Nodes, a0.p.Defs, a0.p.Main⟩ : ScopeProg), a0.sizes.set a1.toNat a2, a0.owner.set a1.toNat z1, a0.users, true⟩ : Ref03_look)) ?_
 cases H
 refine aH [0] (by decide) ?_
 exact eZ (.inl rfl) rfl rfl
 exact fk
 kernel_rfl
 revert H; refine bs fun y9 h11 H => ?_
 apply bC (ods := [_, _, _, _, _, _, _, _, _, _, _, _, _, _, _, _, _, _, _, _, _, _, _, _, _]) 25 0 5 bB rfl rfl rfl
 refine ND ?_
 refine M4 ?_
 intros
 refine Mg c20 (cE 1 rfl hh (fa rfl) rfl) fun _ => ?_
 refine dR (od := odC [0] false (aA .i64 y5.N) [cQ]) (ps := [0]) (φ := aA .i64 y5.N) rfl (fun _ => rfl) ⟨_, _, rfl, rfl, c20⟩ rfl rfl (bS rfl (has rfl) (sc rfl) rfl Ent.rfl) (fun _ => ?_)
 refine Mg c20 (bF rfl hh) fun _ => ?_
 refine Mg c20 (iX rfl (has rfl) (fun m v h => ⟨_, h⟩)) fun _ => ?_
 refine Mg c20 (cE 0 rfl hh (fa rfl) rfl) fun _ => ?_
 refine Mg c20 (cE 2 rfl hh (fa rfl) rfl) fun _ => ?_
 refine dR (od := odC [1] false (fSl aI a0.p.Defs) [cQ]) (ps := [1]) (φ := fSl aI a0.p.Defs) rfl (fun _ => rfl) ⟨_, _, rfl, rfl, c20⟩ rfl rfl (bS rfl (has rfl) (sc rfl) rfl Ent.rfl) (fun _ => ?_)
 refine Mg c20 (dT rfl hh (us rfl)) fun _ => ?_
 refine Mg c20 (pL rfl hh hh) fun _ => ?_
 refine My (bU rfl hh c20 hh) fun _ => ?_
 refine M1 ?_
 intros
 refine Mg c21 (bF rfl hh) fun _ => ?_
 refine Mg c21 (iX rfl (has rfl) (fun m v h => ⟨_, h⟩)) fun _ => ?_
 refine Mg c21 (cE 6 rfl hh (fa rfl) rfl) fun _ => ?_
 refine dR (od := odC [1] false (fEq v3) [cQ]) (ps := [1]) (φ := fEq v3) rfl (fun _ => rfl) ⟨_, _, rfl, rfl, c21⟩ rfl rfl (bS rfl (has rfl) (sc rfl) rfl Ent.rfl) (fun _ => ?_)
 refine Mg c21 (cE 1 rfl hh (fa rfl) rfl) fun _ => ?_
 refine dR (od := odC [0] false (aA .i64 y5.N) [cQ]) (ps := [0]) (φ := aA .i64 y5.N) rfl (fun _ => rfl) ⟨_, _, rfl, rfl, c21⟩ rfl rfl (bS rfl (has rfl) (sc rfl) rfl Ent.rfl) (fun _ => ?_)
 refine dR (od := odC [4] false (jA v3 1 y5.N.toNat 0) [cQ]) (ps := [4]) (φ := jA v3 1 y5.N.toNat 0) rfl (fun _ => rfl) ⟨_, _, rfl, rfl, c21⟩ rfl rfl (jI rfl (has rfl) (has rfl) (el rfl) h11) (fun _ => ?_)
 refine dR (od := odC [4] false (aA .i64 y9) [cQ]) (ps := [4]) (φ := aA .i64 y9) rfl (fun _ => rfl) ⟨_, _, rfl, rfl, c21⟩ rfl rfl (jW rfl rfl (has rfl) (sc rfl) (cB h11) rfl) (fun _ => ?_)
 refine Mg c21 (gO rfl hh hh) fun _ => ?_
 refine My (bU rfl hh c21 hh) fun _ => ?_
 revert H; refine I2 (fun c22 H => ?_) fun c22 H => ?_
 refine cJ (has rfl) c22 ?_
 refine Z4 ?_
 refine cI ?_
 refine dA (φs' := [fSl aM a0.p.Free, fSl aK a0.p.Nodes, fSl aI a0.p.Defs, aA .i64 a0.p.Main, fEq v1, fEq v2, fEq v3, aL true]) trivial rfl rfl (has rfl) (has rfl) (aE trivial) (sz rfl) rfl rfl ?_
 revert H; refine B4 fun r8 H e8 => ?_
 cases e8; cases Hr4
 refine bK ?_
 refine bK ?_
 refine bK ?_
 refine cX ?_
 refine fT (x := (⟨(⟨a0.p.Free, a0.p.Nodes, a0.p.Defs, a0.p.Main⟩ : ScopeProg), a0.sizes.set a1.toNat a2, a0.owner.set a1.toNat z1, a0.users, true⟩ : Ref03_look)) ?_
 cases H
 refine aH [0] (by decide) ?_
 exact eZ (.inl rfl) rfl rfl
 refine cK (has rfl) c22 ?_
 refine Z2 ?_
 refine aG ?_
 revert H; refine bs fun y10 h12 H => ?_
 revert H; refine bs fun z3 h13 H => ?_
 revert H; refine bs fun y11 h14 H => ?_
 apply bC (ods := [_, _, _, _, _, _, _, _, _, _, _]) 11 0 5 bB rfl rfl rfl
 refine ND ?_
 refine M6 ?_
 intros
 refine Mo 4 rfl (jI rfl hh hh (el rfl) h12) fun _ => ?_
 refine Mo 4 rfl (jW rfl rfl hh (sc rfl) (cB h12) rfl) fun _ => ?_
 refine My (eN rfl hh hh h13) fun _ => ?_
 refine Mo 4 rfl (jI rfl hh hh (el rfl) h14) fun _ => ?_
 refine qB (od := odC [4] true (fAny) [aD v3 3 (aB .i64) (a0.users.set y5.N.toNat z3)]) (p := 4) (z' := z3) rfl (fun _ => rfl) (fun _ => rfl) trivial rfl rfl rfl rfl (has rfl) (has rfl) (aE trivial) (sz rfl) (cB h14) rfl rfl (fun _ => ?_)
 refine Z2 ?_
 refine aG ?_
 revert H; refine bs fun y12 h15 H => ?_
 revert H; refine bs fun y13 h16 H => ?_
 revert H; refine bs fun z4 h17 H => ?_
 apply bC (ods := [_, _, _, _, _, _, _, _, _, _, _, _, _]) 13 0 5 bB rfl rfl rfl
 refine ND ?_
 refine M8 ?_
 intros
 refine My (bE rfl hh hh (el rfl) h15) fun _ => ?_
 refine M1 ?_
 intros
 refine Nc (aEZ _ _ h16) fun _ => ?_
 refine My (eN rfl hh hh h17) fun _ => ?_
 refine M1 ?_
 intros
 revert H; refine B2 fun y14 h18 H => ?_
 apply bC (ods := [_, _, _, _, _, _, _, _, _, _, _]) 11 0 5 bB rfl rfl rfl
 refine ND ?_
 refine M8 ?_
 intros
 refine My (bE rfl hh hh (el rfl) h18) fun _ => ?_
 refine M2 ?_
 intros
 refine Z1 ?_
 refine bK ?_
 refine bK ?_
 refine bK ?_
 refine bK ?_
 refine fT (x := (⟨(⟨a0.p.Free, a0.p.Nodes, a0.p.Defs, a0.p.Main⟩ : ScopeProg), a0.sizes.set a1.toNat a2, a0.owner.set a1.toNat z1, a0.users.set y5.N.toNat z3, x1⟩ : Ref03_look)) ?_
 revert H; refine bs fun y15 h19 H => ?_
 refine Tc (ih_r03_look_def _ _ _ _ _ h19) ?_
 refine rN (fun v7 v8 v9 => ?_)
 refine aN 1 rfl (fun hc_v7 => ?_)
 refine aN 2 rfl (fun hc_v8 => ?_)
 refine aN 3 rfl (fun hc_v9 => ?_)
 refine Z3 ?_
 refine aH [0, 4, 1, 2, 3] (by decide) ?_
 exact Tm ((z4, y15.p.Free, y15.p.Nodes, y15.p.Defs, y15.p.Main, y15.sizes, y15.owner, y15.users, y15.bad, v7, v8, v9)) (ij H)
 exact fk
 kernel_rfl
 exact fk
 kernel_rfl
 exact fk
 kernel_rfl
 exact fk
 kernel_rfl
 refine cK (has rfl) c19 ?_
 refine Z7 ?_
 revert H; refine cs (fun c23 H => ?_) fun c23 H => ?_
 refine Yt c23 ?_
 refine Yt c23 ?_
 refine Yt c23 ?_
 refine Yy (cN rfl hh c23 hh) ?_
 refine Z2 ?_
 refine cI ?_
 refine dA (φs' := [fSl aM a0.p.Free, fSl aK a0.p.Nodes, fSl aI a0.p.Defs, aA .i64 a0.p.Main, fEq v1, fEq v2, fEq v3, aL true]) trivial rfl rfl (has rfl) (has rfl) (aE trivial) (sz rfl) rfl rfl ?_
 refine Z3 ?_
 exact Tm ((a2, a0.p.Free, a0.p.Nodes, a0.p.Defs, a0.p.Main, a0.sizes.set a1.toNat a2, a0.owner.set a1.toNat z1, a0.users, true, v1, v2, v3)) (ij H)
 refine Yg c23 (cE 1 rfl hh (fa rfl) rfl) ?_
 refine Yh 0 rfl c23 (bS rfl hh (sc rfl) rfl Ent.rfl) ?_
 refine Yg c23 (hP rfl hh hh) ?_
 refine Yy (bU rfl hh c23 hh) ?_
 refine Z2 ?_
 refine cI ?_
 refine dA (φs' := [fSl aM a0.p.Free, fSl aK a0.p.Nodes, fSl aI a0.p.Defs, aA .i64 a0.p.Main, fEq v1, fEq v2, fEq v3, aL (decide (y5.N ≠ 0))]) trivial rfl rfl (has rfl) (has rfl) (aE trivial) (sz rfl) rfl rfl ?_
 refine Z3 ?_
 exact Tm ((a2, a0.p.Free, a0.p.Nodes, a0.p.Defs, a0.p.Main, a0.sizes.set a1.toNat a2, a0.owner.set a1.toNat z1, a0.users, decide (y5.N ≠ 0), v1, v2, v3)) (ij H)
 clear H; intro i hi; obtain ⟨x7, x8, x9, x10, x11, x12, x13, x14, x15, v4, v5, v6⟩ := i; subst o4; have H := Hr4; clear Hr4; try dsimp only at H
 try dsimp only
 refine aN 2 rfl (fun hc_v4 => ?_)
 refine aN 3 rfl (fun hc_v5 => ?_)
 refine aN 4 rfl (fun hc_v6 => ?_)
 refine Z4 ?_
 refine Tl (ι := Nat × Int × List ByteArray × List ScopeNode × List ScopeDef × Int × List Int × List Int × List Int × Bool × Value × Value × Value) (fun i => iV (eT fuel) y5 x7 i.1 i.2.1 i.2.2.1 i.2.2.2.1 i.2.2.2.2.1 i.2.2.2.2.2.1 i.2.2.2.2.2.2.1 i.2.2.2.2.2.2.2.1 i.2.2.2.2.2.2.2.2.1 i.2.2.2.2.2.2.2.2.2.1 = _) (fun i => i.1) (fun i => [(0, fEq (ptr p0)), (6, fEq (ptr b1)), (11, aA .i64 x7), (12, aA .i64 i.2.1)]) (fun i => [aC p0 89 [fSl aM i.2.2.1, fSl aK i.2.2.2.1, fSl aI i.2.2.2.2.1, aA .i64 i.2.2.2.2.2.1, fEq i.2.2.2.2.2.2.2.2.2.2.1, fEq i.2.2.2.2.2.2.2.2.2.2.2.1, fEq i.2.2.2.2.2.2.2.2.2.2.2.2, aL i.2.2.2.2.2.2.2.2.2.1], aC b1 51 [aA .i64 y5.Op, aA .i64 y5.N, fSl bD y5.Args, fSl (aB .i64) y5.Kids], aD i.2.2.2.2.2.2.2.2.2.2.1 3 (aB .i64) i.2.2.2.2.2.2.1, aD i.2.2.2.2.2.2.2.2.2.2.2.1 3 (aB .i64) i.2.2.2.2.2.2.2.1, aD i.2.2.2.2.2.2.2.2.2.2.2.2 3 (aB .i64) i.2.2.2.2.2.2.2.2.1]) (fuel, 0, x8, x9, x10, x11, x12, x13, x14, x15, v4, v5, v6) H ?_
 clear H; rintro ⟨k2, x26, x27, x28, x29, x30, x31, x32, x33, x34, v13, v14, v15⟩ H
 replace H : iV (eT fuel) y5 x7 k2 x26 x27 x28 x29 x30 x31 x32 x33 x34 = _ := H
 try dsimp only
 obtain _ | k2 := k2
 rw [iV] at H; cases H
 rw [iV] at H
 refine aN 2 rfl (fun hc_v13 => ?_)
 refine aN 3 rfl (fun hc_v14 => ?_)
 refine aN 4 rfl (fun hc_v15 => ?_)
 refine aG ?_
 revert H; refine I7 (fun c24 H => ?_) fun c24 H => ?_
 refine Yg c24 (bF rfl hh) ?_
 refine Yg c24 (iX rfl (has rfl) (fun m v h => ⟨_, h⟩)) ?_
 refine Yg c24 (cE 7 rfl hh (fa rfl) rfl) ?_
 refine Yh 0 rfl c24 (bS rfl hh (sc rfl) rfl Ent.rfl) ?_
 refine Yg c24 (gD rfl hh) ?_
 refine Yy (cN rfl hh c24 hh) ?_
 refine Z1 ?_
 revert H; refine cs (fun c25 H => ?_) fun c25 H => ?_
 refine cK (has rfl) (iP c25) ?_
 refine Z4 ?_
 refine bK ?_
 refine bK ?_
 refine bK ?_
 refine cX ?_
 refine fT (x := (⟨(⟨x27, x28, x29, x30⟩ : ScopeProg), x31, x32, x33, x34⟩ : Ref03_look)) ?_
 cases H
 refine aH [0] (by decide) ?_
 exact eZ (.inr rfl) rfl rfl
 refine cJ (has rfl) (jC c25) ?_
 refine Z2 ?_
 refine aG ?_
 revert H; refine B6 fun y16 h20 H => ?_
 refine Yy (bE rfl hh hh (el rfl) h20) ?_
 refine Z2 ?_
 refine bK ?_
 refine bK ?_
 refine bK ?_
 refine cX ?_
 refine fT (x := (⟨(⟨x27, x28, x29, x30⟩ : ScopeProg), x31, x32, x33, x34⟩ : Ref03_look)) ?_
 revert H; refine bs fun y17 h21 H => ?_
 refine Tc (ih_r03_look_node _ _ _ _ _ h21) ?_
 refine rN (fun v16 v17 v18 => ?_)
 refine aN 1 rfl (fun hc_v16 => ?_)
 refine aN 2 rfl (fun hc_v17 => ?_)
 refine aN 3 rfl (fun hc_v18 => ?_)
 revert H; refine B5 fun z5 h22 H => ?_
 refine Yy (eN rfl hh hh h22) ?_
 refine Z2 ?_
 refine aH [0, 4, 1, 2, 3] (by decide) ?_
 exact Tm ((k2, z5, y17.p.Free, y17.p.Nodes, y17.p.Defs, y17.p.Main, y17.sizes, y17.owner, y17.users, y17.bad, v16, v17, v18)) ⟨H, ls⟩
 refine Yf c24 ?_
 refine Yf c24 ?_
 refine Yf c24 ?_
 refine Yf c24 ?_
 refine Yf c24 ?_
 refine Yy (bU rfl hh c24 hh) ?_
 refine Z6 ?_
 refine bK ?_
 refine bK ?_
 refine bK ?_
 refine cX ?_
 refine fT (x := (⟨(⟨x27, x28, x29, x30⟩ : ScopeProg), x31, x32, x33, x34⟩ : Ref03_look)) ?_
 cases H
 refine aH [0] (by decide) ?_
 exact eZ (.inr rfl) rfl rfl
 intro p0 a0 a1 a2 r H
 rw [nZ] at H
 refine bJ Tryz.func107 rfl Tryz.ntmps107 rfl (fun β => ?_)
 refine rN (fun v1 v2 v3 => ?_)
 refine aN 1 rfl (fun hc_v1 => ?_)
 refine aN 2 rfl (fun hc_v2 => ?_)
 refine aN 3 rfl (fun hc_v3 => ?_)
 refine Z1 ?_
 refine Tn (cF rfl (has rfl) bO) fun b1 => ?_
 revert H; refine B1 fun o1 H Hr1 => ?_
 refine aR (ι := List ByteArray × List ScopeNode × List ScopeDef × Int × List Int × List Int × List Int × Bool × Value × Value × Value) (fun i => o1 = (i.1, i.2.1, i.2.2.1, i.2.2.2.1, i.2.2.2.2.1, i.2.2.2.2.2.1, i.2.2.2.2.2.2.1, i.2.2.2.2.2.2.2.1)) (fun i => [(0, fEq (ptr p0)), (2, aA .i64 a2), (4, fEq (ptr b1))]) (fun i => [aC b1 99 [fSl aU a1.Chans, fSl bH a1.Spots, fSl aZ a1.Rules], aC p0 89 [fSl aM i.1, fSl aK i.2.1, fSl aI i.2.2.1, aA .i64 i.2.2.2.1, fEq i.2.2.2.2.2.2.2.2.1, fEq i.2.2.2.2.2.2.2.2.2.1, fEq i.2.2.2.2.2.2.2.2.2.2, aL i.2.2.2.2.2.2.2.1], aD i.2.2.2.2.2.2.2.2.1 3 (aB .i64) i.2.2.2.2.1, aD i.2.2.2.2.2.2.2.2.2.1 3 (aB .i64) i.2.2.2.2.2.1, aD i.2.2.2.2.2.2.2.2.2.2 3 (aB .i64) i.2.2.2.2.2.2.1]) ?_ ?_
 refine Z4 ?_
 refine Tl (ι := Nat × Int × List ByteArray × List ScopeNode × List ScopeDef × Int × List Int × List Int × List Int × Bool × Value × Value × Value) (fun i => lG fuel (eT fuel) a1 a2 i.1 i.2.1 i.2.2.1 i.2.2.2.1 i.2.2.2.2.1 i.2.2.2.2.2.1 i.2.2.2.2.2.2.1 i.2.2.2.2.2.2.2.1 i.2.2.2.2.2.2.2.2.1 i.2.2.2.2.2.2.2.2.2.1 = _) (fun i => i.1) (fun i => [(0, fEq (ptr p0)), (2, aA .i64 a2), (4, fEq (ptr b1)), (6, aA .i64 i.2.1)]) (fun i => [aC b1 99 [fSl aU a1.Chans, fSl bH a1.Spots, fSl aZ a1.Rules], aC p0 89 [fSl aM i.2.2.1, fSl aK i.2.2.2.1, fSl aI i.2.2.2.2.1, aA .i64 i.2.2.2.2.2.1, fEq i.2.2.2.2.2.2.2.2.2.2.1, fEq i.2.2.2.2.2.2.2.2.2.2.2.1, fEq i.2.2.2.2.2.2.2.2.2.2.2.2, aL i.2.2.2.2.2.2.2.2.2.1], aD i.2.2.2.2.2.2.2.2.2.2.1 3 (aB .i64) i.2.2.2.2.2.2.1, aD i.2.2.2.2.2.2.2.2.2.2.2.1 3 (aB .i64) i.2.2.2.2.2.2.2.1, aD i.2.2.2.2.2.2.2.2.2.2.2.2 3 (aB .i64) i.2.2.2.2.2.2.2.2.1]) (fuel, 0, a0.p.Free, a0.p.Nodes, a0.p.Defs, a0.p.Main, a0.sizes, a0.owner, a0.users, a0.bad, v1, v2, v3) H ?_
 clear H; rintro ⟨k1, x18, x19, x20, x21, x22, x23, x24, x25, x26, v10, v11, v12⟩ H
 replace H : lG fuel (eT fuel) a1 a2 k1 x18 x19 x20 x21 x22 x23 x24 x25 x26 = _ := H
 try dsimp only
 obtain _ | k1 := k1
 rw [lG] at H; cases H
 rw [lG] at H
 refine aN 2 rfl (fun hc_v10 => ?_)
 refine aN 3 rfl (fun hc_v11 => ?_)
 refine aN 4 rfl (fun hc_v12 => ?_)
 refine aG ?_
 revert H; refine I7 (fun c1 H => ?_) fun c1 H => ?_
 refine Yg c1 (bF rfl hh) ?_
 refine Yg c1 (iX rfl (has rfl) (fun m v h => ⟨_, h⟩)) ?_
 refine Yg c1 (cE 7 rfl hh (fa rfl) rfl) ?_
 refine Yh 1 rfl c1 (bS rfl hh (sc rfl) rfl Ent.rfl) ?_
 refine Yg c1 (gD rfl hh) ?_
 refine Yy (cN rfl hh c1 hh) ?_
 refine Z1 ?_
 revert H; refine cs (fun c2 H => ?_) fun c2 H => ?_
 refine cK (has rfl) (iP c2) ?_
 refine Z5 ?_
 exact Tm ((x19, x20, x21, x22, x23, x24, x25, x26, v10, v11, v12)) (ij H)
 refine cJ (has rfl) (jC c2) ?_
 refine Z2 ?_
 refine aG ?_
 revert H; refine B1 fun y1 h1 H => ?_
 revert H; refine bs fun y2 h2 H => ?_
 revert H; refine bs fun y3 h3 H => ?_
 revert H; refine bs fun z1 h4 H => ?_
 apply bC (ods := [_, _, _, _, _, _, _, _, _, _, _, _, _, _, _, _]) 16 0 5 bB rfl rfl rfl
 refine ND ?_
 refine M4 ?_
 intros
 refine My (bE rfl hh hh (el rfl) h1) fun _ => ?_
 refine M7 ?_
 intros
 refine My (bE rfl hh hh (el rfl) h2) fun _ => ?_
 refine M1 ?_
 intros
 refine Nc (aG4 _ _ _ _ h3) fun _ => ?_
 refine My (eN rfl hh hh h4) fun _ => ?_
 refine Z1 ?_
 refine bK ?_
 refine bK ?_
 refine bK ?_
 refine bK ?_
 refine fT (x := (⟨(⟨x19, x20, x21, x22⟩ : ScopeProg), x23, x24, x25, x26⟩ : Ref03_look)) ?_
 revert H; refine bs fun y4 h5 H => ?_
 refine Tc (ih_r03_look_node _ _ _ _ _ h5) ?_
 refine rN (fun v13 v14 v15 => ?_)
 refine aN 1 rfl (fun hc_v13 => ?_)
 refine aN 2 rfl (fun hc_v14 => ?_)
 refine aN 3 rfl (fun hc_v15 => ?_)
 revert H; refine B5 fun z2 h6 H => ?_
 refine Yy (eN rfl hh hh h6) ?_
 refine Z2 ?_
 refine aH [4, 0, 1, 2, 3] (by decide) ?_
 exact Tm ((k1, z2, y4.p.Free, y4.p.Nodes, y4.p.Defs, y4.p.Main, y4.sizes, y4.owner, y4.users, y4.bad, v13, v14, v15)) ⟨H, ls⟩
 exact fk
 kernel_rfl
 refine Yf c1 ?_
 refine Yf c1 ?_
 refine Yf c1 ?_
 refine Yf c1 ?_
 refine Yf c1 ?_
 refine Yy (bU rfl hh c1 hh) ?_
 refine Z7 ?_
 exact Tm ((x19, x20, x21, x22, x23, x24, x25, x26, v10, v11, v12)) (ij H)
 clear H; intro i hi; obtain ⟨x1, x2, x3, x4, x5, x6, x7, x8, v4, v5, v6⟩ := i; subst o1; have H := Hr1; clear Hr1; try dsimp only at H
 try dsimp only
 refine aN 2 rfl (fun hc_v4 => ?_)
 refine aN 3 rfl (fun hc_v5 => ?_)
 refine aN 4 rfl (fun hc_v6 => ?_)
 refine Z4 ?_
 refine Tl (ι := Nat × Int × List ByteArray × List ScopeNode × List ScopeDef × Int × List Int × List Int × List Int × Bool × Value × Value × Value) (fun i => kO (eT fuel) a1 a2 i.1 i.2.1 i.2.2.1 i.2.2.2.1 i.2.2.2.2.1 i.2.2.2.2.2.1 i.2.2.2.2.2.2.1 i.2.2.2.2.2.2.2.1 i.2.2.2.2.2.2.2.2.1 i.2.2.2.2.2.2.2.2.2.1 = _) (fun i => i.1) (fun i => [(0, fEq (ptr p0)), (2, aA .i64 a2), (4, fEq (ptr b1)), (7, aA .i64 i.2.1)]) (fun i => [aC b1 99 [fSl aU a1.Chans, fSl bH a1.Spots, fSl aZ a1.Rules], aC p0 89 [fSl aM i.2.2.1, fSl aK i.2.2.2.1, fSl aI i.2.2.2.2.1, aA .i64 i.2.2.2.2.2.1, fEq i.2.2.2.2.2.2.2.2.2.2.1, fEq i.2.2.2.2.2.2.2.2.2.2.2.1, fEq i.2.2.2.2.2.2.2.2.2.2.2.2, aL i.2.2.2.2.2.2.2.2.2.1], aD i.2.2.2.2.2.2.2.2.2.2.1 3 (aB .i64) i.2.2.2.2.2.2.1, aD i.2.2.2.2.2.2.2.2.2.2.2.1 3 (aB .i64) i.2.2.2.2.2.2.2.1, aD i.2.2.2.2.2.2.2.2.2.2.2.2 3 (aB .i64) i.2.2.2.2.2.2.2.2.1]) (fuel, 0, x1, x2, x3, x4, x5, x6, x7, x8, v4, v5, v6) H ?_
 clear H; rintro ⟨k2, x36, x37, x38, x39, x40, x41, x42, x43, x44, v19, v20, v21⟩ H
 replace H : kO (eT fuel) a1 a2 k2 x36 x37 x38 x39 x40 x41 x42 x43 x44 = _ := H
 try dsimp only
 obtain _ | k2 := k2
 rw [kO] at H; cases H
 rw [kO] at H
 refine aN 2 rfl (fun hc_v19 => ?_)
 refine aN 3 rfl (fun hc_v20 => ?_)
 refine aN 4 rfl (fun hc_v21 => ?_)
 refine aG ?_
 revert H; refine I7 (fun c3 H => ?_) fun c3 H => ?_
 refine Yg c3 (bF rfl hh) ?_
 refine Yg c3 (iX rfl (has rfl) (fun m v h => ⟨_, h⟩)) ?_
 refine Yg c3 (cE 7 rfl hh (fa rfl) rfl) ?_
 refine Yh 1 rfl c3 (bS rfl hh (sc rfl) rfl Ent.rfl) ?_
 refine Yg c3 (gD rfl hh) ?_
 refine Yy (cN rfl hh c3 hh) ?_
 refine Z1 ?_
 revert H; refine cs (fun c4 H => ?_) fun c4 H => ?_
 refine cK (has rfl) (iP c4) ?_
 refine Z4 ?_
 refine bK ?_
 refine bK ?_
 refine bK ?_
 refine bK ?_
 refine fT (x := (⟨(⟨x37, x38, x39, x40⟩ : ScopeProg), x41, x42, x43, x44⟩ : Ref03_look)) ?_
 cases H
 refine aH [0] (by decide) ?_
 exact eZ (.inr rfl) rfl rfl
 refine cJ (has rfl) (jC c4) ?_
 refine Z2 ?_
 refine aG ?_
 revert H; refine B6 fun y5 h7 H => ?_
 refine Yy (bE rfl hh hh (el rfl) h7) ?_
 refine Z3 ?_
 refine bK ?_
 refine bK ?_
 refine bK ?_
 refine bK ?_
 refine fT (x := (⟨(⟨x37, x38, x39, x40⟩ : ScopeProg), x41, x42, x43, x44⟩ : Ref03_look)) ?_
 revert H; refine bs fun y6 h8 H => ?_
 refine Tc (ih_r03_look_node _ _ _ _ _ h8) ?_
 refine rN (fun v22 v23 v24 => ?_)
 refine aN 1 rfl (fun hc_v22 => ?_)
 refine aN 2 rfl (fun hc_v23 => ?_)
 refine aN 3 rfl (fun hc_v24 => ?_)
 revert H; refine B5 fun z3 h9 H => ?_
 refine Yy (eN rfl hh hh h9) ?_
 refine Z2 ?_
 refine aH [4, 0, 1, 2, 3] (by decide) ?_
 exact Tm ((k2, z3, y6.p.Free, y6.p.Nodes, y6.p.Defs, y6.p.Main, y6.sizes, y6.owner, y6.users, y6.bad, v22, v23, v24)) ⟨H, ls⟩
 refine Yf c3 ?_
 refine Yf c3 ?_
 refine Yf c3 ?_
 refine Yf c3 ?_
 refine Yf c3 ?_
 refine Yy (bU rfl hh c3 hh) ?_
 refine Z6 ?_
 refine bK ?_
 refine bK ?_
 refine bK ?_
 refine bK ?_
 refine fT (x := (⟨(⟨x37, x38, x39, x40⟩ : ScopeProg), x41, x42, x43, x44⟩ : Ref03_look)) ?_
 cases H
 refine aH [0] (by decide) ?_
 exact eZ (.inr rfl) rfl rfl
theorem aFw (fuel : Nat) (p0 : Nat) (a0 : Ref03_look) (a1 : Int) (a2 : Int) (r : Ref03_look) (H : eT fuel a0 a1 a2 = some r) : FnS Tryz.prog 89 [fEq (.pointer (some ⟨p0, 0, none⟩)), aA .i64 a1, aA .i64 a2] [pG p0 a0] (dC []) (fun _ => [pG p0 r]) := (aFC fuel).1 p0 a0 a1 a2 r H
end Go.Proofs.YtmnbfgeljmhekaaGreat
set_option maxRecDepth 100000
set_option maxHeartbeats 2000000
namespace Go.Proofs.YtmnbfgeljmhekaaGreat
open Go.SX Go.SW Go.Dt
attribute [local irreducible] Code.wpIn wpListIn Exit.then Exit.inBlock
def iK (fuel : Nat) (a0 : ScopeProg) : Nat → Int → Bool → Option (Bool)
| 0, _, _ => none
| k + 1, x4, x5 =>
 if x4 < (a0.Free.length : Int) then
  (bif x5 then
   some true
  else
   (idx a0.Free x4).bind fun y1 =>
   (uU fuel y1).bind fun y2 =>
   bif !y2 then
    some true
   else
    if 0 < x4 then
     (idx a0.Free x4).bind fun y3 =>
     (chk (x4 - 1)).bind fun z1 =>
     (idx a0.Free z1).bind fun y4 =>
     some (sle y3 y4)
    else
     some false).bind fun x6 =>
  (chk (x4 + 1)).bind fun z2 =>
  iK fuel a0 k z2 x6
 else
  some x5
def jQ (fuel : Nat) (a0 : ScopeProg) : Nat → Int → Bool → Option (Bool)
| 0, _, _ => none
| k + 1, x10, x11 =>
 if x10 < (a0.Defs.length : Int) then
  (bif x11 then
   some true
  else
   (idx a0.Defs x10).bind fun y5 =>
   (wU fuel y5).bind fun y6 =>
   some (!y6)).bind fun x12 =>
  (chk (x10 + 1)).bind fun z3 =>
  jQ fuel a0 k z3 x12
 else
  some x11
def jV (y10 : Ref03_look) : Nat → Int → Bool → Option (Bool)
| 0, _, _ => none
| k + 1, x16, x17 =>
 if x16 < (y10.owner.length : Int) then
  (bif x17 then
   some true
  else
   (idx y10.owner x16).bind fun y11 =>
   some (decide (y11 = 0))).bind fun x18 =>
  (chk (x16 + 1)).bind fun z4 =>
  jV y10 k z4 x18
 else
  some x17
def kE (y10 : Ref03_look) : Nat → Int → Bool → Option (Bool)
| 0, _, _ => none
| k + 1, x22, x23 =>
 if x22 < (y10.users.length : Int) then
  (bif x23 then
   some true
  else
   (idx y10.users x22).bind fun y12 =>
   some (decide (y12 = 0))).bind fun x24 =>
  (chk (x22 + 1)).bind fun z5 =>
  kE y10 k z5 x24
 else
  some x23
def uT (fuel : Nat) (a0 : ScopeProg) : Option (Ref03_look) :=
 if 12 < (a0.Free.length : Int) then
  some (⟨(⟨a0.Free, a0.Nodes, a0.Defs, a0.Main⟩ : ScopeProg), [], [], [], true⟩ : Ref03_look)
 else
  if 60 < (a0.Nodes.length : Int) then
   some (⟨(⟨a0.Free, a0.Nodes, a0.Defs, a0.Main⟩ : ScopeProg), [], [], [], true⟩ : Ref03_look)
  else
   if 12 < (a0.Defs.length : Int) then
    some (⟨(⟨a0.Free, a0.Nodes, a0.Defs, a0.Main⟩ : ScopeProg), [], [], [], true⟩ : Ref03_look)
   else
    (iK fuel a0 fuel 0 false).bind fun x1 =>
    (jQ fuel a0 fuel 0 x1).bind fun x7 =>
    (mk 0 (a0.Nodes.length : Int)).bind fun y7 =>
    (mk 0 (a0.Nodes.length : Int)).bind fun y8 =>
    (mk 0 (a0.Defs.length : Int)).bind fun y9 =>
    bif x7 then
     some (⟨(⟨a0.Free, a0.Nodes, a0.Defs, a0.Main⟩ : ScopeProg), y7, y8, y9, x7⟩ : Ref03_look)
    else
     (eT fuel (⟨(⟨a0.Free, a0.Nodes, a0.Defs, a0.Main⟩ : ScopeProg), y7, y8, y9, x7⟩ : Ref03_look) a0.Main (a0.Free.length : Int)).bind fun y10 =>
     (jV y10 fuel 0 y10.bad).bind fun x13 =>
     (kE y10 fuel 0 x13).bind fun x19 =>
     some (⟨(⟨y10.p.Free, y10.p.Nodes, y10.p.Defs, y10.p.Main⟩ : ScopeProg), y10.sizes, y10.owner, y10.users, x19⟩ : Ref03_look)
theorem aCA (fuel : Nat)  (a0 : ScopeProg) (r : Ref03_look) (H : uT fuel a0 = some r) : FnS Tryz.prog 51 [fSt cY a0] [] (aF sX r) (fun _ => []) := by
 unfold uT at H
 refine bJ Tryz.func51 rfl Tryz.ntmps51 rfl (fun β => ?_)
 refine Z1 ?_
 refine Tn (cF rfl (has rfl) bO) fun b1 => ?_
 refine Z4 ?_
 refine Yy (dN (ψs := [fSl aM a0.Free, fSl aK a0.Nodes, fSl aI a0.Defs, aA .i64 a0.Main, fEq (.slice none 0 0), fEq (.slice none 0 0), fEq (.slice none 0 0), aL false]) rfl ty_bu_89 rfl (aW.cons (has rfl) bO aW.nil) rfl) ?_
 refine Tn (cF rfl (has rfl) bO) fun b2 => ?_
 refine Z2 ?_
 refine aG ?_
 revert H; refine I6 (fun c1 H => ?_) fun c1 H => ?_
 refine Yt c1 ?_
 refine Yt c1 ?_
 refine Yt c1 ?_
 refine Yt c1 ?_
 refine Yy (cN rfl hh c1 hh) ?_
 refine Z12 ?_
 refine dA (φs' := [fSl aM a0.Free, fSl aK a0.Nodes, fSl aI a0.Defs, aA .i64 a0.Main, fEq (.slice none 0 0), fEq (.slice none 0 0), fEq (.slice none 0 0), aL true]) trivial rfl rfl (has rfl) (has rfl) (aE trivial) (sz rfl) rfl rfl ?_
 refine Z6 ?_
 refine cR (φ := aF sX (⟨(⟨a0.Free, a0.Nodes, a0.Defs, a0.Main⟩ : ScopeProg), [], [], [], true⟩ : Ref03_look)) (v := ptr b2) [2, 10, 3, 27, 28, 30] (gI (aP.cons Ent.rfl (aP.cons Ent.rfl (aP.cons Ent.rfl (aP.cons Ent.rfl (aP.cons eC (aP.cons eC (aP.cons eC (aP.cons Ent.rfl aP.nil))))))))) fz ?_
 refine cT ?_
 cases H
 refine aH [] (by decide) ?_
 exact To
 refine Yg c1 (cE 1 rfl hh (fa rfl) rfl) ?_
 refine Yh 1 rfl c1 (bS rfl hh (sc rfl) rfl Ent.rfl) ?_
 refine Yg c1 (dT rfl hh (us rfl)) ?_
 refine Yg c1 (gO rfl hh hh) ?_
 refine Yy (bU rfl hh c1 hh) ?_
 revert H; refine I1 (fun c2 H => ?_) fun c2 H => ?_
 refine Yt c2 ?_
 refine Yt c2 ?_
 refine Yt c2 ?_
 refine Yt c2 ?_
 refine Yy (cN rfl hh c2 hh) ?_
 refine Z6 ?_
 refine dA (φs' := [fSl aM a0.Free, fSl aK a0.Nodes, fSl aI a0.Defs, aA .i64 a0.Main, fEq (.slice none 0 0), fEq (.slice none 0 0), fEq (.slice none 0 0), aL true]) trivial rfl rfl (has rfl) (has rfl) (aE trivial) (sz rfl) rfl rfl ?_
 refine Z6 ?_
 refine cR (φ := aF sX (⟨(⟨a0.Free, a0.Nodes, a0.Defs, a0.Main⟩ : ScopeProg), [], [], [], true⟩ : Ref03_look)) (v := ptr b2) [2, 10, 3, 27, 28, 30] (gI (aP.cons Ent.rfl (aP.cons Ent.rfl (aP.cons Ent.rfl (aP.cons Ent.rfl (aP.cons eC (aP.cons eC (aP.cons eC (aP.cons Ent.rfl aP.nil))))))))) fz ?_
 refine cT ?_
 cases H
 refine aH [] (by decide) ?_
 exact To
 refine Yg c2 (cE 2 rfl hh (fa rfl) rfl) ?_
 refine Yh 1 rfl c2 (bS rfl hh (sc rfl) rfl Ent.rfl) ?_
 refine Yg c2 (dT rfl hh (us rfl)) ?_
 refine Yg c2 (gO rfl hh hh) ?_
 refine Yy (bU rfl hh c2 hh) ?_
 revert H; refine I1 (fun c3 H => ?_) fun c3 H => ?_
 refine cJ (has rfl) c3 ?_
 refine Z4 ?_
 refine dA (φs' := [fSl aM a0.Free, fSl aK a0.Nodes, fSl aI a0.Defs, aA .i64 a0.Main, fEq (.slice none 0 0), fEq (.slice none 0 0), fEq (.slice none 0 0), aL true]) trivial rfl rfl (has rfl) (has rfl) (aE trivial) (sz rfl) rfl rfl ?_
 refine Z6 ?_
 refine cR (φ := aF sX (⟨(⟨a0.Free, a0.Nodes, a0.Defs, a0.Main⟩ : ScopeProg), [], [], [], true⟩ : Ref03_look)) (v := ptr b2) [2, 10, 3, 27, 28, 30] (gI (aP.cons Ent.rfl (aP.cons Ent.rfl (aP.cons Ent.rfl (aP.cons Ent.rfl (aP.cons eC (aP.cons eC (aP.cons eC (aP.cons Ent.rfl aP.nil))))))))) fz ?_
 refine cT ?_
 cases H
 refine aH [] (by decide) ?_
 exact To
 refine cK (has rfl) c3 ?_
 revert H; refine B2 fun o1 H Hr1 => ?_
 refine aR (ι := Bool) (fun i => o1 = i) (fun i => [(1, fEq (ptr b1)), (3, fEq (ptr b2))]) (fun i => [aC b2 89 [fSl aM a0.Free, fSl aK a0.Nodes, fSl aI a0.Defs, aA .i64 a0.Main, fEq (.slice none 0 0), fEq (.slice none 0 0), fEq (.slice none 0 0), aL i], aC b1 26 [fSl aM a0.Free, fSl aK a0.Nodes, fSl aI a0.Defs, aA .i64 a0.Main]]) ?_ ?_
 refine Z4 ?_
 refine Tl (ι := Nat × Int × Bool) (fun i => iK fuel a0 i.1 i.2.1 i.2.2 = _) (fun i => i.1) (fun i => [(1, fEq (ptr b1)), (3, fEq (ptr b2)), (4, aA .i64 i.2.1)]) (fun i => [aC b2 89 [fSl aM a0.Free, fSl aK a0.Nodes, fSl aI a0.Defs, aA .i64 a0.Main, fEq (.slice none 0 0), fEq (.slice none 0 0), fEq (.slice none 0 0), aL i.2.2], aC b1 26 [fSl aM a0.Free, fSl aK a0.Nodes, fSl aI a0.Defs, aA .i64 a0.Main]]) (fuel, 0, false) H ?_
 clear H; rintro ⟨k1, x4, x5⟩ H
 replace H : iK fuel a0 k1 x4 x5 = _ := H
 try dsimp only
 obtain _ | k1 := k1
 rw [iK] at H; cases H
 rw [iK] at H
 refine aG ?_
 revert H; refine I7 (fun c4 H => ?_) fun c4 H => ?_
 refine cJ (has rfl) c4 ?_
 revert H; refine B2 fun o2 H Hr2 => ?_
 refine aR (ι := Bool) (fun i => o2 = i) (fun i => [(1, fEq (ptr b1)), (3, fEq (ptr b2)), (4, aA .i64 x4)]) (fun i => [aC b2 89 [fSl aM a0.Free, fSl aK a0.Nodes, fSl aI a0.Defs, aA .i64 a0.Main, fEq (.slice none 0 0), fEq (.slice none 0 0), fEq (.slice none 0 0), aL i], aC b1 26 [fSl aM a0.Free, fSl aK a0.Nodes, fSl aI a0.Defs, aA .i64 a0.Main]]) ?_ ?_
 refine Z1 ?_
 revert H; refine cs (fun c5 H => ?_) fun c5 H => ?_
 apply bC (ods := [_, _, _, _, _, _, _, _, _, _, _, _, _, _, _, _, _, _, _, _, _, _, _, _, _, _, _, _, _, _, _, _, _, _, _]) 35 0 2 bB rfl rfl rfl
 refine ND ?_
 refine M6 ?_
 intros
 refine Mt c5 fun _ => ?_
 refine Mt c5 fun _ => ?_
 refine Mt c5 fun _ => ?_
 refine Mt c5 fun _ => ?_
 refine Mt c5 fun _ => ?_
 refine Mt c5 fun _ => ?_
 refine Mt c5 fun _ => ?_
 refine My (cN rfl hh c5 hh) fun _ => ?_
 refine M4 ?_
 intros
 refine dK (od := odS) rfl (⟨_, _, _, _, rfl, rfl, rfl, nu⟩) rfl (fun _ => ?_)
 refine dK (od := odS) rfl (⟨_, _, _, _, rfl, rfl, rfl, nu⟩) rfl (fun _ => ?_)
 refine dK (od := odS) rfl (⟨_, _, _, _, rfl, rfl, rfl, nu⟩) rfl (fun _ => ?_)
 refine dK (od := odS) rfl (⟨_, _, _, _, rfl, rfl, rfl, nu⟩) rfl (fun _ => ?_)
 refine dK (od := odS) rfl (⟨_, _, _, _, rfl, rfl, rfl, nu⟩) rfl (fun _ => ?_)
 refine dK (od := odS) rfl (⟨_, _, _, _, rfl, rfl, rfl, nu⟩) rfl (fun _ => ?_)
 refine dK (od := odS) rfl (⟨_, _, _, _, rfl, rfl, rfl, nu⟩) rfl (fun _ => ?_)
 refine dK (od := odS) rfl (⟨_, _, _, _, rfl, rfl, rfl, nu⟩) rfl (fun _ => ?_)
 refine dK (od := odS) rfl (⟨_, _, _, _, rfl, rfl, rfl, nu⟩) rfl (fun _ => ?_)
 refine dK (od := odS) rfl (⟨_, _, _, _, rfl, rfl, rfl, nu⟩) rfl (fun _ => ?_)
 refine dK (od := odS) rfl (⟨_, _, _, _, rfl, rfl, rfl, nu⟩) rfl (fun _ => ?_)
 refine dK (od := odS) rfl (⟨_, _, _, _, rfl, rfl, rfl, nu⟩) rfl (fun _ => ?_)
 refine M4 ?_
 intros
 refine jT (od := odC [0] true (fAny) [aC b2 89 [fSl aM a0.Free, fSl aK a0.Nodes, fSl aI a0.Defs, aA .i64 a0.Main, fEq (.slice none 0 0), fEq (.slice none 0 0), fEq (.slice none 0 0), aL true]]) (p := 0) (φs' := [fSl aM a0.Free, fSl aK a0.Nodes, fSl aI a0.Defs, aA .i64 a0.Main, fEq (.slice none 0 0), fEq (.slice none 0 0), fEq (.slice none 0 0), aL true]) rfl (fun _ => rfl) (fun _ => rfl) trivial rfl rfl rfl (has rfl) (has rfl) (aE trivial) (sz rfl) rfl rfl (fun _ => ?_)
 refine Z4 ?_
 exact Tm (true) (ij H)
 exact fk
 kernel_rfl
 revert H; refine bs fun y1 h1 H => ?_
 revert H; refine bs fun y2 h2 H => ?_
 revert H; refine cs (fun c6 H => ?_) fun c6 H => ?_
 apply bC (ods := [_, _, _, _, _, _, _, _, _, _, _, _, _, _, _, _, _, _, _, _, _, _, _, _, _, _, _, _, _, _, _, _, _, _, _]) 35 0 2 bB rfl rfl rfl
 refine ND ?_
 refine M6 ?_
 intros
 refine Mg c5 (cE 0 rfl hh (fa rfl) rfl) fun _ => ?_
 refine dR (od := odC [1] false (fSl aM a0.Free) [cQ]) (ps := [1]) (φ := fSl aM a0.Free) rfl (fun _ => rfl) ⟨_, _, rfl, rfl, c5⟩ rfl rfl (bS rfl (has rfl) (sc rfl) rfl Ent.rfl) (fun _ => ?_)
 refine Mg c5 (bF rfl hh) fun _ => ?_
 refine Mg c5 (bE rfl hh hh (el rfl) h1) fun _ => ?_
 refine Mg c5 (dB rfl hh (sc rfl) rfl) fun _ => ?_
 refine Nc (aA0 _ _ _ h2) fun _ => ?_
 refine Mg c5 (gD rfl hh) fun _ => ?_
 refine My (bU rfl hh c5 hh) fun _ => ?_
 refine M1 ?_
 intros
 refine Mt c6 fun _ => ?_
 refine Mt c6 fun _ => ?_
 refine Mt c6 fun _ => ?_
 refine dK (od := odS) rfl (⟨_, _, _, _, rfl, rfl, rfl, nu⟩) rfl (fun _ => ?_)
 refine dK (od := odS) rfl (⟨_, _, _, _, rfl, rfl, rfl, nu⟩) rfl (fun _ => ?_)
 refine dK (od := odS) rfl (⟨_, _, _, _, rfl, rfl, rfl, nu⟩) rfl (fun _ => ?_)
 refine dK (od := odS) rfl (⟨_, _, _, _, rfl, rfl, rfl, nu⟩) rfl (fun _ => ?_)
 refine dK (od := odS) rfl (⟨_, _, _, _, rfl, rfl, rfl, nu⟩) rfl (fun _ => ?_)
 refine dK (od := odS) rfl (⟨_, _, _, _, rfl, rfl, rfl, nu⟩) rfl (fun _ => ?_)
 refine dK (od := odS) rfl (⟨_, _, _, _, rfl, rfl, rfl, nu⟩) rfl (fun _ => ?_)
 refine dK (od := odS) rfl (⟨_, _, _, _, rfl, rfl, rfl, nu⟩) rfl (fun _ => ?_)
 refine dK (od := odS) rfl (⟨_, _, _, _, rfl, rfl, rfl, nu⟩) rfl (fun _ => ?_)
 refine dK (od := odS) rfl (⟨_, _, _, _, rfl, rfl, rfl, nu⟩) rfl (fun _ => ?_)
 refine dK (od := odS) rfl (⟨_, _, _, _, rfl, rfl, rfl, nu⟩) rfl (fun _ => ?_)
 refine dK (od := odS) rfl (⟨_, _, _, _, rfl, rfl, rfl, nu⟩) rfl (fun _ => ?_)
 refine Mt c6 fun _ => ?_
 refine My (cN rfl hh c6 hh) fun _ => ?_
 refine M2 ?_
 intros
 refine jT (od := odC [0] true (fAny) [aC b2 89 [fSl aM a0.Free, fSl aK a0.Nodes, fSl aI a0.Defs, aA .i64 a0.Main, fEq (.slice none 0 0), fEq (.slice none 0 0), fEq (.slice none 0 0), aL true]]) (p := 0) (φs' := [fSl aM a0.Free, fSl aK a0.Nodes, fSl aI a0.Defs, aA .i64 a0.Main, fEq (.slice none 0 0), fEq (.slice none 0 0), fEq (.slice none 0 0), aL true]) rfl (fun _ => rfl) (fun _ => rfl) trivial rfl rfl rfl (has rfl) (has rfl) (aE trivial) (sz rfl) rfl rfl (fun _ => ?_)
 refine Z4 ?_
 exact Tm (true) (ij H)
 exact fk
 kernel_rfl
 revert H; refine is (fun c7 H => ?_) fun c7 H => ?_
 revert H; refine bs fun y3 h3 H => ?_
 revert H; refine bs fun z1 h4 H => ?_
 revert H; refine bs fun y4 h5 H => ?_
 apply bC (ods := [_, _, _, _, _, _, _, _, _, _, _, _, _, _, _, _, _, _, _, _, _, _, _, _, _, _, _, _, _, _, _, _, _, _, _]) 35 0 2 bB rfl rfl rfl
 refine ND ?_
 refine M6 ?_
 intros
 refine Mg c5 (cE 0 rfl hh (fa rfl) rfl) fun _ => ?_
 refine dR (od := odC [1] false (fSl aM a0.Free) [cQ]) (ps := [1]) (φ := fSl aM a0.Free) rfl (fun _ => rfl) ⟨_, _, rfl, rfl, c5⟩ rfl rfl (bS rfl (has rfl) (sc rfl) rfl Ent.rfl) (fun _ => ?_)
 refine Mg c5 (bF rfl hh) fun _ => ?_
 refine Mg c5 (bE rfl hh hh (el rfl) h1) fun _ => ?_
 refine Mg c5 (dB rfl hh (sc rfl) rfl) fun _ => ?_
 refine Nc (aA0 _ _ _ h2) fun _ => ?_
 refine Mg c5 (gD rfl hh) fun _ => ?_
 refine My (bU rfl hh c5 hh) fun _ => ?_
 refine M1 ?_
 intros
 refine Mg c6 (bF rfl hh) fun _ => ?_
 refine Mg c6 (gO rfl hh hh) fun _ => ?_
 refine Mg c6 (bF rfl hh) fun _ => ?_
 refine Mg c7 (cE 0 rfl hh (fa rfl) rfl) fun _ => ?_
 refine dR (od := odC [1] false (fSl aM a0.Free) [cQ]) (ps := [1]) (φ := fSl aM a0.Free) rfl (fun _ => rfl) ⟨_, _, rfl, rfl, c7⟩ rfl rfl (bS rfl (has rfl) (sc rfl) rfl Ent.rfl) (fun _ => ?_)
 refine Mg c7 (bF rfl hh) fun _ => ?_
 refine Mg c7 (bE rfl hh hh (el rfl) h3) fun _ => ?_
 refine Mg c7 (dB rfl hh (sc rfl) rfl) fun _ => ?_
 refine Mg c7 (cE 0 rfl hh (fa rfl) rfl) fun _ => ?_
 refine dR (od := odC [1] false (fSl aM a0.Free) [cQ]) (ps := [1]) (φ := fSl aM a0.Free) rfl (fun _ => rfl) ⟨_, _, rfl, rfl, c7⟩ rfl rfl (bS rfl (has rfl) (sc rfl) rfl Ent.rfl) (fun _ => ?_)
 refine Mg c7 (bF rfl hh) fun _ => ?_
 refine Mg c7 (o_sub rfl hh hh h4) fun _ => ?_
 refine Mg c7 (bE rfl hh hh (el rfl) h5) fun _ => ?_
 refine Mg c7 (dB rfl hh (sc rfl) rfl) fun _ => ?_
 refine Mg c7 (o_leqS rfl hh hh) fun _ => ?_
 refine Mg c6 (cN rfl hh c7 hh) fun _ => ?_
 refine My (bU rfl hh c6 hh) fun _ => ?_
 refine M2 ?_
 intros
 refine jT (od := odC [0] true (fAny) [aC b2 89 [fSl aM a0.Free, fSl aK a0.Nodes, fSl aI a0.Defs, aA .i64 a0.Main, fEq (.slice none 0 0), fEq (.slice none 0 0), fEq (.slice none 0 0), aL (sle y3 y4)]]) (p := 0) (φs' := [fSl aM a0.Free, fSl aK a0.Nodes, fSl aI a0.Defs, aA .i64 a0.Main, fEq (.slice none 0 0), fEq (.slice none 0 0), fEq (.slice none 0 0), aL (sle y3 y4)]) rfl (fun _ => rfl) (fun _ => rfl) trivial rfl rfl rfl (has rfl) (has rfl) (aE trivial) (sz rfl) rfl rfl (fun _ => ?_)
 refine Z4 ?_
 exact Tm (sle y3 y4) (ij H)
 exact fk
 kernel_rfl
 apply bC (ods := [_, _, _, _, _, _, _, _, _, _, _, _, _, _, _, _, _, _, _, _, _, _, _, _, _, _, _, _, _, _, _, _, _, _, _]) 35 0 2 bB rfl rfl rfl
 refine ND ?_
 refine M6 ?_
 intros
 refine Mg c5 (cE 0 rfl hh (fa rfl) rfl) fun _ => ?_
 refine dR (od := odC [1] false (fSl aM a0.Free) [cQ]) (ps := [1]) (φ := fSl aM a0.Free) rfl (fun _ => rfl) ⟨_, _, rfl, rfl, c5⟩ rfl rfl (bS rfl (has rfl) (sc rfl) rfl Ent.rfl) (fun _ => ?_)
 refine Mg c5 (bF rfl hh) fun _ => ?_
 refine Mg c5 (bE rfl hh hh (el rfl) h1) fun _ => ?_
 refine Mg c5 (dB rfl hh (sc rfl) rfl) fun _ => ?_
 refine Nc (aA0 _ _ _ h2) fun _ => ?_
 refine Mg c5 (gD rfl hh) fun _ => ?_
 refine My (bU rfl hh c5 hh) fun _ => ?_
 refine M1 ?_
 intros
 refine Mg c6 (bF rfl hh) fun _ => ?_
 refine Mg c6 (gO rfl hh hh) fun _ => ?_
 refine Mg c6 (bF rfl hh) fun _ => ?_
 refine Mz c7 fun _ => ?_
 refine Mz c7 fun _ => ?_
 refine Mz c7 fun _ => ?_
 refine Mz c7 fun _ => ?_
 refine Mz c7 fun _ => ?_
 refine Mz c7 fun _ => ?_
 refine Mz c7 fun _ => ?_
 refine Mz c7 fun _ => ?_
 refine Mz c7 fun _ => ?_
 refine Mz c7 fun _ => ?_
 refine Mz c7 fun _ => ?_
 refine Mz c7 fun _ => ?_
 refine Mg c6 (bU rfl hh c7 hh) fun _ => ?_
 refine My (bU rfl hh c6 hh) fun _ => ?_
 refine M2 ?_
 intros
 refine jT (od := odC [0] true (fAny) [aC b2 89 [fSl aM a0.Free, fSl aK a0.Nodes, fSl aI a0.Defs, aA .i64 a0.Main, fEq (.slice none 0 0), fEq (.slice none 0 0), fEq (.slice none 0 0), aL false]]) (p := 0) (φs' := [fSl aM a0.Free, fSl aK a0.Nodes, fSl aI a0.Defs, aA .i64 a0.Main, fEq (.slice none 0 0), fEq (.slice none 0 0), fEq (.slice none 0 0), aL false]) rfl (fun _ => rfl) (fun _ => rfl) trivial rfl rfl rfl (has rfl) (has rfl) (aE trivial) (sz rfl) rfl rfl (fun _ => ?_)
 refine Z4 ?_
 exact Tm (false) (ij H)
 exact fk
 kernel_rfl
 clear H; intro x6 hi; subst o2; have H := Hr2; clear Hr2; try dsimp only at H
 try dsimp only
 revert H; refine B2 fun z2 h6 H => ?_
 refine Yy (eN rfl hh hh h6) ?_
 refine Z2 ?_
 exact Tm ((k1, z2, x6)) ⟨H, ls⟩
 refine cK (has rfl) c4 ?_
 refine Z5 ?_
 exact Tm (x5) (ij H)
 clear H; intro x1 hi; subst o1; have H := Hr1; clear Hr1; try dsimp only at H
 try dsimp only
 revert H; refine bs fun o3 H Hr3 => ?_
 refine aR (ι := Bool) (fun i => o3 = i) (fun i => [(1, fEq (ptr b1)), (3, fEq (ptr b2))]) (fun i => [aC b2 89 [fSl aM a0.Free, fSl aK a0.Nodes, fSl aI a0.Defs, aA .i64 a0.Main, fEq (.slice none 0 0), fEq (.slice none 0 0), fEq (.slice none 0 0), aL i], aC b1 26 [fSl aM a0.Free, fSl aK a0.Nodes, fSl aI a0.Defs, aA .i64 a0.Main]]) ?_ ?_
 refine Z4 ?_
 refine Tl (ι := Nat × Int × Bool) (fun i => jQ fuel a0 i.1 i.2.1 i.2.2 = _) (fun i => i.1) (fun i => [(1, fEq (ptr b1)), (3, fEq (ptr b2)), (5, aA .i64 i.2.1)]) (fun i => [aC b2 89 [fSl aM a0.Free, fSl aK a0.Nodes, fSl aI a0.Defs, aA .i64 a0.Main, fEq (.slice none 0 0), fEq (.slice none 0 0), fEq (.slice none 0 0), aL i.2.2], aC b1 26 [fSl aM a0.Free, fSl aK a0.Nodes, fSl aI a0.Defs, aA .i64 a0.Main]]) (fuel, 0, x1) H ?_
 clear H; rintro ⟨k2, x10, x11⟩ H
 replace H : jQ fuel a0 k2 x10 x11 = _ := H
 try dsimp only
 obtain _ | k2 := k2
 rw [jQ] at H; cases H
 rw [jQ] at H
 refine aG ?_
 revert H; refine I7 (fun c8 H => ?_) fun c8 H => ?_
 refine cJ (has rfl) c8 ?_
 revert H; refine B2 fun o4 H Hr4 => ?_
 refine aR (ι := Bool) (fun i => o4 = i) (fun i => [(1, fEq (ptr b1)), (3, fEq (ptr b2)), (5, aA .i64 x10)]) (fun i => [aC b2 89 [fSl aM a0.Free, fSl aK a0.Nodes, fSl aI a0.Defs, aA .i64 a0.Main, fEq (.slice none 0 0), fEq (.slice none 0 0), fEq (.slice none 0 0), aL i], aC b1 26 [fSl aM a0.Free, fSl aK a0.Nodes, fSl aI a0.Defs, aA .i64 a0.Main]]) ?_ ?_
 refine Z8 ?_
 revert H; refine cs (fun c9 H => ?_) fun c9 H => ?_
 refine Yt c9 ?_
 refine Yt c9 ?_
 refine Yt c9 ?_
 refine Yt c9 ?_
 refine Yt c9 ?_
 refine Yt c9 ?_
 refine Yt c9 ?_
 refine Yy (cN rfl hh c9 hh) ?_
 refine Z2 ?_
 refine dA (φs' := [fSl aM a0.Free, fSl aK a0.Nodes, fSl aI a0.Defs, aA .i64 a0.Main, fEq (.slice none 0 0), fEq (.slice none 0 0), fEq (.slice none 0 0), aL true]) trivial rfl rfl (has rfl) (has rfl) (aE trivial) (sz rfl) rfl rfl ?_
 refine Z3 ?_
 exact Tm (true) (ij H)
 refine Yg c9 (cE 2 rfl hh (fa rfl) rfl) ?_
 refine Yh 1 rfl c9 (bS rfl hh (sc rfl) rfl Ent.rfl) ?_
 refine Yg c9 (bF rfl hh) ?_
 revert H; refine bs fun y5 h7 H => ?_
 refine Yg c9 (bE rfl hh hh (el rfl) h7) ?_
 refine Yg c9 (aBA rfl hh (ag rfl)) ?_
 revert H; refine bs fun y6 h8 H => ?_
 refine Tc (aGS _ _ _ h8) ?_
 refine Yg c9 (gD rfl hh) ?_
 refine Yy (bU rfl hh c9 hh) ?_
 refine Z2 ?_
 refine dA (φs' := [fSl aM a0.Free, fSl aK a0.Nodes, fSl aI a0.Defs, aA .i64 a0.Main, fEq (.slice none 0 0), fEq (.slice none 0 0), fEq (.slice none 0 0), aL (!y6)]) trivial rfl rfl (has rfl) (has rfl) (aE trivial) (sz rfl) rfl rfl ?_
 refine Z3 ?_
 exact Tm (!y6) (ij H)
 clear H; intro x12 hi; subst o4; have H := Hr4; clear Hr4; try dsimp only at H
 try dsimp only
 revert H; refine B2 fun z3 h9 H => ?_
 refine Yy (eN rfl hh hh h9) ?_
 refine Z2 ?_
 exact Tm ((k2, z3, x12)) ⟨H, ls⟩
 refine cK (has rfl) c8 ?_
 refine Z5 ?_
 exact Tm (x11) (ij H)
 clear H; intro x7 hi; subst o3; have H := Hr3; clear Hr3; try dsimp only at H
 try dsimp only
 refine aG ?_
 revert H; refine bs fun y7 h10 H => ?_
 revert H; refine bs fun y8 h11 H => ?_
 revert H; refine bs fun y9 h12 H => ?_
 apply bC (ods := [_, _, _, _, _, _, _, _, _, _, _, _, _, _, _, _, _, _, _, _, _, _, _, _]) 24 3 5 bB rfl rfl rfl
 refine ND ?_
 refine M6 ?_
 intros
 refine Mn 2 (fun b3 => .slice (some ⟨b3, 0, none⟩) y7.length y7.length) (fun b3 => aD (.slice (some ⟨b3, 0, none⟩) y7.length y7.length) 3 (aB .i64) y7) rfl (lK (t := (aB .i64)) (z := 0) rfl (has rfl) (et rfl) rfl qZ rfl h10) (fun b3 u1 => ?_)
 refine M3 ?_
 intros
 refine Mn 3 (fun b4 => .slice (some ⟨b4, 0, none⟩) y8.length y8.length) (fun b4 => aD (.slice (some ⟨b4, 0, none⟩) y8.length y8.length) 3 (aB .i64) y8) rfl (lK (t := (aB .i64)) (z := 0) rfl (has rfl) (et rfl) rfl qZ rfl h11) (fun b4 u2 => ?_)
 refine M3 ?_
 intros
 refine Mn 4 (fun b5 => .slice (some ⟨b5, 0, none⟩) y9.length y9.length) (fun b5 => aD (.slice (some ⟨b5, 0, none⟩) y9.length y9.length) 3 (aB .i64) y9) rfl (lK (t := (aB .i64)) (z := 0) rfl (has rfl) (et rfl) rfl qZ rfl h12) (fun b5 u3 => ?_)
 refine M2 ?_
 intros
 refine jT (od := od1 6 [0] true (fun b3 _ => fAny) (fun b3 _ => [aC b2 89 [fSl aM a0.Free, fSl aK a0.Nodes, fSl aI a0.Defs, aA .i64 a0.Main, fEq (.slice (some ⟨b3, 0, none⟩) y7.length y7.length), fEq (.slice none 0 0), fEq (.slice none 0 0), aL x7]])) (p := 0) (φs' := [fSl aM a0.Free, fSl aK a0.Nodes, fSl aI a0.Defs, aA .i64 a0.Main, fEq (.slice (some ⟨b3, 0, none⟩) y7.length y7.length), fEq (.slice none 0 0), fEq (.slice none 0 0), aL x7]) rfl (fun _ => rfl) (fun _ => rfl) trivial rfl rfl rfl (has rfl) (has rfl) (aE trivial) (sz rfl) rfl rfl (fun _ => ?_)
 refine M2 ?_
 intros
 refine jT (od := od2 6 10 [0] true (fun b3 _ b4 _ => fAny) (fun b3 _ b4 _ => [aC b2 89 [fSl aM a0.Free, fSl aK a0.Nodes, fSl aI a0.Defs, aA .i64 a0.Main, fEq (.slice (some ⟨b3, 0, none⟩) y7.length y7.length), fEq (.slice (some ⟨b4, 0, none⟩) y8.length y8.length), fEq (.slice none 0 0), aL x7]])) (p := 0) (φs' := [fSl aM a0.Free, fSl aK a0.Nodes, fSl aI a0.Defs, aA .i64 a0.Main, fEq (.slice (some ⟨b3, 0, none⟩) y7.length y7.length), fEq (.slice (some ⟨b4, 0, none⟩) y8.length y8.length), fEq (.slice none 0 0), aL x7]) rfl (fun _ => rfl) (fun _ => rfl) trivial rfl rfl rfl (has rfl) (has rfl) (aE trivial) (sz rfl) rfl rfl (fun _ => ?_)
 refine M2 ?_
 intros
 refine jT (od := od3 6 10 14 [0] true (fun b3 _ b4 _ b5 _ => fAny) (fun b3 _ b4 _ b5 _ => [aC b2 89 [fSl aM a0.Free, fSl aK a0.Nodes, fSl aI a0.Defs, aA .i64 a0.Main, fEq (.slice (some ⟨b3, 0, none⟩) y7.length y7.length), fEq (.slice (some ⟨b4, 0, none⟩) y8.length y8.length), fEq (.slice (some ⟨b5, 0, none⟩) y9.length y9.length), aL x7]])) (p := 0) (φs' := [fSl aM a0.Free, fSl aK a0.Nodes, fSl aI a0.Defs, aA .i64 a0.Main, fEq (.slice (some ⟨b3, 0, none⟩) y7.length y7.length), fEq (.slice (some ⟨b4, 0, none⟩) y8.length y8.length), fEq (.slice (some ⟨b5, 0, none⟩) y9.length y9.length), aL x7]) rfl (fun _ => rfl) (fun _ => rfl) trivial rfl rfl rfl (has rfl) (has rfl) (aE trivial) (sz rfl) rfl rfl (fun _ => ?_)
 refine Z1 ?_
 generalize (Value.slice (some ⟨b3, 0, none⟩) _ _) = v1
 refine aN 2 rfl (fun hc_v1 => ?_)
 generalize (Value.slice (some ⟨b4, 0, none⟩) _ _) = v2
 refine aN 3 rfl (fun hc_v2 => ?_)
 generalize (Value.slice (some ⟨b5, 0, none⟩) _ _) = v3
 refine aN 4 rfl (fun hc_v3 => ?_)
 refine Z1 ?_
 refine aG ?_
 refine Z6 ?_
 revert H; refine cs (fun c10 H => ?_) fun c10 H => ?_
 refine cJ (has rfl) c10 ?_
 refine Z5 ?_
 refine eB ?_
 refine cR (φ := fSl (aB .i64) y7) (v := v1) [101] cL fz ?_
 refine gN (φs' := [fSl aM a0.Free, fSl aK a0.Nodes, fSl aI a0.Defs, aA .i64 a0.Main, fSl (aB .i64) y7, fEq v2, fEq v3, aL x7]) (i := 4) rfl rfl ?_
 refine cT ?_
 refine eB ?_
 refine cR (φ := fSl (aB .i64) y8) (v := v2) [105] cL fz ?_
 refine gN (φs' := [fSl aM a0.Free, fSl aK a0.Nodes, fSl aI a0.Defs, aA .i64 a0.Main, fSl (aB .i64) y7, fSl (aB .i64) y8, fEq v3, aL x7]) (i := 5) rfl rfl ?_
 refine cT ?_
 refine eB ?_
 refine cR (φ := fSl (aB .i64) y9) (v := v3) [109] cL fz ?_
 refine gN (φs' := [fSl aM a0.Free, fSl aK a0.Nodes, fSl aI a0.Defs, aA .i64 a0.Main, fSl (aB .i64) y7, fSl (aB .i64) y8, fSl (aB .i64) y9, aL x7]) (i := 6) rfl rfl ?_
 refine cT ?_
 refine cR (φ := aF sX (⟨(⟨a0.Free, a0.Nodes, a0.Defs, a0.Main⟩ : ScopeProg), y7, y8, y9, x7⟩ : Ref03_look)) (v := ptr b2) [3, 95, 96, 97, 110, 112, 114, 116, 117, 120, 2] (gI aP.rfl) fz ?_
 refine cT ?_
 cases H
 refine aH [] (by decide) ?_
 exact To
 refine cK (has rfl) c10 ?_
 refine Z9 ?_
 refine bK ?_
 refine bK ?_
 refine bK ?_
 refine cX ?_
 refine fT (x := (⟨(⟨a0.Free, a0.Nodes, a0.Defs, a0.Main⟩ : ScopeProg), y7, y8, y9, x7⟩ : Ref03_look)) ?_
 revert H; refine bs fun y10 h13 H => ?_
 refine Tc (aFw _ _ _ _ _ _ h13) ?_
 refine rN (fun v4 v5 v6 => ?_)
 refine aN 1 rfl (fun hc_v4 => ?_)
 refine aN 2 rfl (fun hc_v5 => ?_)
 refine aN 3 rfl (fun hc_v6 => ?_)
 revert H; refine B1 fun o5 H Hr5 => ?_
 refine aR (ι := Bool) (fun i => o5 = i) (fun i => [(3, fEq (ptr b2))]) (fun i => [aC b2 89 [fSl aM y10.p.Free, fSl aK y10.p.Nodes, fSl aI y10.p.Defs, aA .i64 y10.p.Main, fEq v4, fEq v5, fEq v6, aL i], aC b1 26 [fSl aM a0.Free, fSl aK a0.Nodes, fSl aI a0.Defs, aA .i64 a0.Main], aD v4 3 (aB .i64) y10.sizes, aD v5 3 (aB .i64) y10.owner, aD v6 3 (aB .i64) y10.users]) ?_ ?_
 refine Z4 ?_
 refine aH [0, 4, 1, 2, 3] (by decide) ?_
 refine Tl (ι := Nat × Int × Bool) (fun i => jV y10 i.1 i.2.1 i.2.2 = _) (fun i => i.1) (fun i => [(3, fEq (ptr b2)), (6, aA .i64 i.2.1)]) (fun i => [aC b2 89 [fSl aM y10.p.Free, fSl aK y10.p.Nodes, fSl aI y10.p.Defs, aA .i64 y10.p.Main, fEq v4, fEq v5, fEq v6, aL i.2.2], aC b1 26 [fSl aM a0.Free, fSl aK a0.Nodes, fSl aI a0.Defs, aA .i64 a0.Main], aD v4 3 (aB .i64) y10.sizes, aD v5 3 (aB .i64) y10.owner, aD v6 3 (aB .i64) y10.users]) (fuel, 0, y10.bad) H ?_
 clear H; rintro ⟨k3, x16, x17⟩ H
 replace H : jV y10 k3 x16 x17 = _ := H
 try dsimp only
 obtain _ | k3 := k3
 rw [jV] at H; cases H
 rw [jV] at H
 refine aG ?_
 revert H; refine I9 (fun c11 H => ?_) fun c11 H => ?_
 refine cJ (has rfl) c11 ?_
 revert H; refine B2 fun o6 H Hr6 => ?_
 refine aR (ι := Bool) (fun i => o6 = i) (fun i => [(3, fEq (ptr b2)), (6, aA .i64 x16)]) (fun i => [aC b2 89 [fSl aM y10.p.Free, fSl aK y10.p.Nodes, fSl aI y10.p.Defs, aA .i64 y10.p.Main, fEq v4, fEq v5, fEq v6, aL i], aC b1 26 [fSl aM a0.Free, fSl aK a0.Nodes, fSl aI a0.Defs, aA .i64 a0.Main], aD v4 3 (aB .i64) y10.sizes, aD v5 3 (aB .i64) y10.owner, aD v6 3 (aB .i64) y10.users]) ?_ ?_
 refine Z8 ?_
 revert H; refine cs (fun c12 H => ?_) fun c12 H => ?_
 refine Yt c12 ?_
 refine Yt c12 ?_
 refine Yt c12 ?_
 refine Yt c12 ?_
 refine Yt c12 ?_
 refine Yt c12 ?_
 refine Yt c12 ?_
 refine Yt c12 ?_
 refine Yy (cN rfl hh c12 hh) ?_
 refine Z2 ?_
 refine dA (φs' := [fSl aM y10.p.Free, fSl aK y10.p.Nodes, fSl aI y10.p.Defs, aA .i64 y10.p.Main, fEq v4, fEq v5, fEq v6, aL true]) trivial rfl rfl (has rfl) (has rfl) (aE trivial) (sz rfl) rfl rfl ?_
 refine Z3 ?_
 exact Tm (true) (ij H)
 refine Yg c12 (bF rfl hh) ?_
 refine Yg c12 (iX rfl (has rfl) (fun m v h => ⟨_, h⟩)) ?_
 refine Yg c12 (cE 5 rfl hh (fa rfl) rfl) ?_
 refine Yh 0 rfl c12 (bS rfl hh (sc rfl) rfl Ent.rfl) ?_
 refine Yg c12 (bF rfl hh) ?_
 revert H; refine bs fun y11 h14 H => ?_
 refine Yh 3 rfl c12 (jI rfl hh hh (el rfl) h14) ?_
 refine Yh 3 rfl c12 (jW rfl rfl hh (sc rfl) (cB h14) rfl) ?_
 refine Yg c12 (vR rfl hh hh) ?_
 refine Yy (bU rfl hh c12 hh) ?_
 refine Z2 ?_
 refine dA (φs' := [fSl aM y10.p.Free, fSl aK y10.p.Nodes, fSl aI y10.p.Defs, aA .i64 y10.p.Main, fEq v4, fEq v5, fEq v6, aL (decide (y11 = 0))]) trivial rfl rfl (has rfl) (has rfl) (aE trivial) (sz rfl) rfl rfl ?_
 refine Z3 ?_
 exact Tm (decide (y11 = 0)) (ij H)
 clear H; intro x18 hi; subst o6; have H := Hr6; clear Hr6; try dsimp only at H
 try dsimp only
 revert H; refine B2 fun z4 h15 H => ?_
 refine Yy (eN rfl hh hh h15) ?_
 refine Z2 ?_
 exact Tm ((k3, z4, x18)) ⟨H, ls⟩
 refine cK (has rfl) c11 ?_
 refine Z5 ?_
 exact Tm (x17) (ij H)
 clear H; intro x13 hi; subst o5; have H := Hr5; clear Hr5; try dsimp only at H
 try dsimp only
 revert H; refine bs fun o7 H Hr7 => ?_
 refine aR (ι := Bool) (fun i => o7 = i) (fun i => [(3, fEq (ptr b2))]) (fun i => [aC b2 89 [fSl aM y10.p.Free, fSl aK y10.p.Nodes, fSl aI y10.p.Defs, aA .i64 y10.p.Main, fEq v4, fEq v5, fEq v6, aL i], aC b1 26 [fSl aM a0.Free, fSl aK a0.Nodes, fSl aI a0.Defs, aA .i64 a0.Main], aD v4 3 (aB .i64) y10.sizes, aD v5 3 (aB .i64) y10.owner, aD v6 3 (aB .i64) y10.users]) ?_ ?_
 refine Z4 ?_
 refine Tl (ι := Nat × Int × Bool) (fun i => kE y10 i.1 i.2.1 i.2.2 = _) (fun i => i.1) (fun i => [(3, fEq (ptr b2)), (7, aA .i64 i.2.1)]) (fun i => [aC b2 89 [fSl aM y10.p.Free, fSl aK y10.p.Nodes, fSl aI y10.p.Defs, aA .i64 y10.p.Main, fEq v4, fEq v5, fEq v6, aL i.2.2], aC b1 26 [fSl aM a0.Free, fSl aK a0.Nodes, fSl aI a0.Defs, aA .i64 a0.Main], aD v4 3 (aB .i64) y10.sizes, aD v5 3 (aB .i64) y10.owner, aD v6 3 (aB .i64) y10.users]) (fuel, 0, x13) H ?_
 clear H; rintro ⟨k4, x22, x23⟩ H
 replace H : kE y10 k4 x22 x23 = _ := H
 try dsimp only
 obtain _ | k4 := k4
 rw [kE] at H; cases H
 rw [kE] at H
 refine aG ?_
 revert H; refine I9 (fun c13 H => ?_) fun c13 H => ?_
 refine cJ (has rfl) c13 ?_
 revert H; refine B2 fun o8 H Hr8 => ?_
 refine aR (ι := Bool) (fun i => o8 = i) (fun i => [(3, fEq (ptr b2)), (7, aA .i64 x22)]) (fun i => [aC b2 89 [fSl aM y10.p.Free, fSl aK y10.p.Nodes, fSl aI y10.p.Defs, aA .i64 y10.p.Main, fEq v4, fEq v5, fEq v6, aL i], aC b1 26 [fSl aM a0.Free, fSl aK a0.Nodes, fSl aI a0.Defs, aA .i64 a0.Main], aD v4 3 (aB .i64) y10.sizes, aD v5 3 (aB .i64) y10.owner, aD v6 3 (aB .i64) y10.users]) ?_ ?_
 refine Z8 ?_
 revert H; refine cs (fun c14 H => ?_) fun c14 H => ?_
 refine Yt c14 ?_
 refine Yt c14 ?_
 refine Yt c14 ?_
 refine Yt c14 ?_
 refine Yt c14 ?_
 refine Yt c14 ?_
 refine Yt c14 ?_
 refine Yt c14 ?_
 refine Yy (cN rfl hh c14 hh) ?_
 refine Z2 ?_
 refine dA (φs' := [fSl aM y10.p.Free, fSl aK y10.p.Nodes, fSl aI y10.p.Defs, aA .i64 y10.p.Main, fEq v4, fEq v5, fEq v6, aL true]) trivial rfl rfl (has rfl) (has rfl) (aE trivial) (sz rfl) rfl rfl ?_
 refine Z3 ?_
 exact Tm (true) (ij H)
 refine Yg c14 (bF rfl hh) ?_
 refine Yg c14 (iX rfl (has rfl) (fun m v h => ⟨_, h⟩)) ?_
 refine Yg c14 (cE 6 rfl hh (fa rfl) rfl) ?_
 refine Yh 0 rfl c14 (bS rfl hh (sc rfl) rfl Ent.rfl) ?_
 refine Yg c14 (bF rfl hh) ?_
 revert H; refine bs fun y12 h16 H => ?_
 refine Yh 4 rfl c14 (jI rfl hh hh (el rfl) h16) ?_
 refine Yh 4 rfl c14 (jW rfl rfl hh (sc rfl) (cB h16) rfl) ?_
 refine Yg c14 (vR rfl hh hh) ?_
 refine Yy (bU rfl hh c14 hh) ?_
 refine Z2 ?_
 refine dA (φs' := [fSl aM y10.p.Free, fSl aK y10.p.Nodes, fSl aI y10.p.Defs, aA .i64 y10.p.Main, fEq v4, fEq v5, fEq v6, aL (decide (y12 = 0))]) trivial rfl rfl (has rfl) (has rfl) (aE trivial) (sz rfl) rfl rfl ?_
 refine Z3 ?_
 exact Tm (decide (y12 = 0)) (ij H)
 clear H; intro x24 hi; subst o8; have H := Hr8; clear Hr8; try dsimp only at H
 try dsimp only
 revert H; refine B2 fun z5 h17 H => ?_
 refine Yy (eN rfl hh hh h17) ?_
 refine Z2 ?_
 exact Tm ((k4, z5, x24)) ⟨H, ls⟩
 refine cK (has rfl) c13 ?_
 refine Z5 ?_
 exact Tm (x23) (ij H)
 clear H; intro x19 hi; subst o7; have H := Hr7; clear Hr7; try dsimp only at H
 try dsimp only
 refine Z5 ?_
 refine eB ?_
 refine cR (φ := fSl (aB .i64) y10.sizes) (v := v4) [] cL (fun _ h => nomatch h) ?_
 refine gN (φs' := [fSl aM y10.p.Free, fSl aK y10.p.Nodes, fSl aI y10.p.Defs, aA .i64 y10.p.Main, fSl (aB .i64) y10.sizes, fEq v5, fEq v6, aL x19]) (i := 4) rfl rfl ?_
 refine cT ?_
 refine eB ?_
 refine cR (φ := fSl (aB .i64) y10.owner) (v := v5) [] cL (fun _ h => nomatch h) ?_
 refine gN (φs' := [fSl aM y10.p.Free, fSl aK y10.p.Nodes, fSl aI y10.p.Defs, aA .i64 y10.p.Main, fSl (aB .i64) y10.sizes, fSl (aB .i64) y10.owner, fEq v6, aL x19]) (i := 5) rfl rfl ?_
 refine cT ?_
 refine eB ?_
 refine cR (φ := fSl (aB .i64) y10.users) (v := v6) [] cL (fun _ h => nomatch h) ?_
 refine gN (φs' := [fSl aM y10.p.Free, fSl aK y10.p.Nodes, fSl aI y10.p.Defs, aA .i64 y10.p.Main, fSl (aB .i64) y10.sizes, fSl (aB .i64) y10.owner, fSl (aB .i64) y10.users, aL x19]) (i := 6) rfl rfl ?_
 refine cT ?_
 refine cR (φ := aF sX (⟨(⟨y10.p.Free, y10.p.Nodes, y10.p.Defs, y10.p.Main⟩ : ScopeProg), y10.sizes, y10.owner, y10.users, x19⟩ : Ref03_look)) (v := ptr b2) [3, 180, 2] (gI aP.rfl) fz ?_
 refine cT ?_
 cases H
 refine aH [] (by decide) ?_
 exact To
 exact fk
 kernel_rfl
def vZ (fuel : Nat) (a0 : ScopeProg) : Option (Int) :=
 (uT fuel (⟨a0.Free, a0.Nodes, a0.Defs, a0.Main⟩ : ScopeProg)).bind fun y1 =>
 bif y1.bad then
  some 2
 else
  some 0
theorem aGo (fuel : Nat)  (a0 : ScopeProg) (r : Int) (H : vZ fuel a0 = some r) : FnS Tryz.prog 19 [fSt cY a0] [] (aA .i64 r) (fun _ => []) := by
 unfold vZ at H
 refine bJ Tryz.func19 rfl Tryz.ntmps19 rfl (fun β => ?_)
 refine Z1 ?_
 refine Tn (cF rfl (has rfl) bO) fun b1 => ?_
 refine Z2 ?_
 refine aG ?_
 revert H; refine B2 fun y1 h1 H => ?_
 refine Tc (aCA _ _ _ h1) ?_
 refine Z4 ?_
 revert H; refine cs (fun c1 H => ?_) fun c1 H => ?_
 refine Z5 ?_
 cases H
 refine aH [] (by decide) ?_
 exact To
 refine Z7 ?_
 cases H
 refine aH [] (by decide) ?_
 exact To
def kM (a0 : List Int) (a1 : Bool) : Nat → Int → Option ((Unit) ⊕ (Bool))
| 0, _ => none
| k + 1, x2 =>
 if x2 < (a0.length : Int) then
  ((idx a0 x2).bind fun y1 =>
  if y1 < 1 then
   ((some false).bind fun r => some (Sum.inr r)).bind fun r => some (Sum.inr r)
  else
   (idx a0 x2).bind fun y2 =>
   if 4 < y2 then
    ((some false).bind fun r => some (Sum.inr r)).bind fun r => some (Sum.inr r)
   else
    (idx a0 x2).bind fun y3 =>
    if y3 = 2 then
     bif a1 then
      some (Sum.inl ())
     else
      ((some false).bind fun r => some (Sum.inr r)).bind fun r => some (Sum.inr r)
    else
     some (Sum.inl ())).bind fun o => match o with
  | Sum.inr r => some r
  | Sum.inl _ =>
  (chk (x2 + 1)).bind fun z1 =>
  kM a0 a1 k z1
 else
  some (Sum.inl ())
def rZ (fuel : Nat) (a0 : List Int) (a1 : Bool) : Option (Bool) :=
 (kM a0 a1 fuel 0).bind fun o => match o with
 | Sum.inr r => some r
 | Sum.inl _ =>
 some true
theorem yE (fuel : Nat)  (a0 : List Int) (a1 : Bool) (r : Bool) (H : rZ fuel a0 a1 = some r) : FnS Tryz.prog 69 [fSl (aB .i64) a0, aL a1] [] (aL r) (fun _ => []) := by
 unfold rZ at H
 refine bJ Tryz.func69 rfl Tryz.ntmps69 rfl (fun β => ?_)
 revert H; refine B3 fun o1 H Hr1 => ?_
 refine aR (ι := Unit) (fun i => o1 = Sum.inl ()) (fun i => []) (fun i => []) ?_ ?_
 refine Z4 ?_
 refine Tl (ι := Nat × Int) (fun i => kM a0 a1 i.1 i.2 = _) (fun i => i.1) (fun i => [(0, fSl (aB .i64) a0), (1, aL a1), (5, aA .i64 i.2)]) (fun i => []) (fuel, 0) H ?_
 clear H; rintro ⟨k1, x2⟩ H
 replace H : kM a0 a1 k1 x2 = _ := H
 try dsimp only
 obtain _ | k1 := k1
 rw [kM] at H; cases H
 rw [kM] at H
 refine aG ?_
 revert H; refine I6 (fun c1 H => ?_) fun c1 H => ?_
 revert H; refine B3 fun o2 H Hr2 => ?_
 refine aR (ι := Unit) (fun i => o2 = Sum.inl ()) (fun i => [(0, fSl (aB .i64) a0), (1, aL a1), (5, aA .i64 x2)]) (fun i => []) ?_ ?_
 revert H; refine B4 fun y1 h1 H => ?_
 revert H; refine I4 (fun c2 H => ?_) fun c2 H => ?_
 refine Z12 ?_
 refine Z1 ?_
 refine dG (⟨_, _, _, _, rfl, rfl, rfl, nu⟩) rfl rfl ?_
 refine dG (⟨_, _, _, _, rfl, rfl, rfl, nu⟩) rfl rfl ?_
 revert H; refine B10 fun r1 H e1 => ?_
 cases e1; cases Hr2
 revert H; refine B3 fun r2 H e2 => ?_
 cases e2; cases Hr1
 cases H
 exact To
 revert H; refine B2 fun y2 h2 H => ?_
 revert H; refine I5 (fun c3 H => ?_) fun c3 H => ?_
 refine Z6 ?_
 refine dG (⟨_, _, _, _, rfl, rfl, rfl, nu⟩) rfl rfl ?_
 refine dG (⟨_, _, _, _, rfl, rfl, rfl, nu⟩) rfl rfl ?_
 revert H; refine B10 fun r3 H e3 => ?_
 cases e3; cases Hr2
 revert H; refine B3 fun r4 H e4 => ?_
 cases e4; cases Hr1
 cases H
 exact To
 revert H; refine B2 fun y3 h3 H => ?_
 revert H; refine I4 (fun c4 H => ?_) fun c4 H => ?_
 refine Z5 ?_
 revert H; refine cs (fun c5 H => ?_) fun c5 H => ?_
 refine Z4 ?_
 exact Tm (()) (ij H)
 revert H; refine B7 fun r5 H e5 => ?_
 cases e5; cases Hr2
 revert H; refine B3 fun r6 H e6 => ?_
 cases e6; cases Hr1
 cases H
 exact To
 refine Z9 ?_
 exact Tm (()) (ij H)
 clear H; intro i hi; subst o2; have H := Hr2; clear Hr2; try dsimp only at H
 try dsimp only
 revert H; refine B2 fun z1 h4 H => ?_
 refine Z3 ?_
 exact Tm ((k1, z1)) ⟨H, ls⟩
 refine Z6 ?_
 exact Tm (()) (ij H)
 clear H; intro i hi; subst o1; have H := Hr1; clear Hr1; try dsimp only at H
 try dsimp only
 refine Z4 ?_
 cases H
 exact To
end Go.Proofs.YtmnbfgeljmhekaaGreat
set_option maxRecDepth 100000
set_option maxHeartbeats 2000000
namespace Go.Proofs.YtmnbfgeljmhekaaGreat
open Go.SX Go.SW Go.Dt
attribute [local irreducible] Code.wpIn wpListIn Exit.then Exit.inBlock
def mU (fuel : Nat) (a1 : List UsageDef) (x2 : Int) (y1 : ScopeDef) : Nat → Int → Option ((Unit) ⊕ ((Unit) ⊕ (Bool)))
| 0, _ => none
| k + 1, x4 =>
 if x4 < (y1.Chans.length : Int) then
  (idx a1 x2).bind fun y9 =>
  (idx y9.Args x4).bind fun y10 =>
  (idx y1.Chans x4).bind fun y11 =>
  if (y10.length : Int) ≠ y11.Many then
   ((some false).bind fun r => some (Sum.inr r)).bind fun r => some (Sum.inr r)
  else
   (idx a1 x2).bind fun y12 =>
   (idx y12.Args x4).bind fun y13 =>
   (rZ fuel y13 false).bind fun y14 =>
   bif y14 then
    (chk (x4 + 1)).bind fun z1 =>
    mU fuel a1 x2 y1 k z1
   else
    ((some false).bind fun r => some (Sum.inr r)).bind fun r => some (Sum.inr r)
 else
  some (Sum.inl ())
def nW (fuel : Nat) (a0 : ScopeProg) (a1 : List UsageDef) : Nat → Int → Option ((Unit) ⊕ (Bool))
| 0, _ => none
| k + 1, x2 =>
 if x2 < (a1.length : Int) then
  ((idx a0.Defs x2).bind fun y1 =>
  (idx a1 x2).bind fun y2 =>
  if (y2.Chans.length : Int) ≠ (y1.Chans.length : Int) then
   ((some false).bind fun r => some (Sum.inr r)).bind fun r => some (Sum.inr r)
  else
   (idx a1 x2).bind fun y3 =>
   if (y3.Rules.length : Int) ≠ (y1.Rules.length : Int) then
    ((some false).bind fun r => some (Sum.inr r)).bind fun r => some (Sum.inr r)
   else
    (idx a1 x2).bind fun y4 =>
    if (y4.Args.length : Int) ≠ (y1.Chans.length : Int) then
     ((some false).bind fun r => some (Sum.inr r)).bind fun r => some (Sum.inr r)
    else
     (idx a1 x2).bind fun y5 =>
     (rZ fuel y5.Chans true).bind fun y6 =>
     bif !y6 then
      ((some false).bind fun r => some (Sum.inr r)).bind fun r => some (Sum.inr r)
     else
      (idx a1 x2).bind fun y7 =>
      (rZ fuel y7.Rules false).bind fun y8 =>
      bif y8 then
       mU fuel a1 x2 y1 fuel 0
      else
       ((some false).bind fun r => some (Sum.inr r)).bind fun r => some (Sum.inr r)).bind fun o => match o with
  | Sum.inr r => some r
  | Sum.inl _ =>
  (chk (x2 + 1)).bind fun z2 =>
  nW fuel a0 a1 k z2
 else
  some (Sum.inl ())
def wS (fuel : Nat) (a0 : ScopeProg) (a1 : List UsageDef) : Option (Bool) :=
 if (a1.length : Int) ≠ (a0.Defs.length : Int) then
  some false
 else
  (nW fuel a0 a1 fuel 0).bind fun o => match o with
  | Sum.inr r => some r
  | Sum.inl _ =>
  some true
theorem aFb (fuel : Nat)  (a0 : ScopeProg) (a1 : List UsageDef) (r : Bool) (H : wS fuel a0 a1 = some r) : FnS Tryz.prog 29 [fSt cY a0, fSl aX a1] [] (aL r) (fun _ => []) := by
 unfold wS at H
 refine bJ Tryz.func29 rfl Tryz.ntmps29 rfl (fun β => ?_)
 refine Z1 ?_
 refine Tn (cF rfl (has rfl) bO) fun b1 => ?_
 refine Z2 ?_
 refine aG ?_
 revert H; refine I8 (fun c1 H => ?_) fun c1 H => ?_
 refine cJ (has rfl) c1 ?_
 refine Z4 ?_
 cases H
 refine aH [] (by decide) ?_
 exact To
 refine cK (has rfl) c1 ?_
 revert H; refine B2 fun o1 H Hr1 => ?_
 refine aR (ι := Unit) (fun i => o1 = Sum.inl ()) (fun i => []) (fun i => [aC b1 26 [fSl aM a0.Free, fSl aK a0.Nodes, fSl aI a0.Defs, aA .i64 a0.Main]]) ?_ ?_
 refine Z4 ?_
 refine Tl (ι := Nat × Int) (fun i => nW fuel a0 a1 i.1 i.2 = _) (fun i => i.1) (fun i => [(1, fSl aX a1), (2, fEq (ptr b1)), (5, aA .i64 i.2)]) (fun i => [aC b1 26 [fSl aM a0.Free, fSl aK a0.Nodes, fSl aI a0.Defs, aA .i64 a0.Main]]) (fuel, 0) H ?_
 clear H; rintro ⟨k1, x2⟩ H
 replace H : nW fuel a0 a1 k1 x2 = _ := H
 try dsimp only
 obtain _ | k1 := k1
 rw [nW] at H; cases H
 rw [nW] at H
 refine aG ?_
 revert H; refine I6 (fun c2 H => ?_) fun c2 H => ?_
 refine cJ (has rfl) c2 ?_
 revert H; refine B2 fun o2 H Hr2 => ?_
 refine aR (ι := Unit) (fun i => o2 = Sum.inl ()) (fun i => [(1, fSl aX a1), (2, fEq (ptr b1)), (5, aA .i64 x2)]) (fun i => [aC b1 26 [fSl aM a0.Free, fSl aK a0.Nodes, fSl aI a0.Defs, aA .i64 a0.Main]]) ?_ ?_
 revert H; refine B5 fun y1 h1 H => ?_
 refine Yy (bE rfl hh hh (el rfl) h1) ?_
 refine Z1 ?_
 refine Tn (bZ rfl jD rfl) fun b2 => ?_
 refine cS (φs' := [fSl aU y1.Chans, fSl bH y1.Spots, fSl aZ y1.Rules]) trivial rfl rfl (has rfl) (has rfl) (aJ (bA) (aJ (bA) (aJ (bA) bP))) (sz rfl) rfl rfl rfl ?_
 refine Z1 ?_
 refine aG ?_
 refine aG ?_
 revert H; refine bs fun y2 h2 H => ?_
 revert H; refine is (fun c3 H => ?_) fun c3 H => ?_
 apply bC (ods := [_, _, _, _, _, _, _, _, _, _, _, _, _, _, _, _, _, _, _, _, _, _, _, _, _, _, _, _, _, _, _, _, _, _, _, _, _, _, _, _, _, _, _, _, _, _, _, _, _, _, _, _]) 52 0 2 bB rfl rfl rfl
 refine ND ?_
 refine M2 ?_
 intros
 refine My (bE rfl hh hh (el rfl) h2) fun _ => ?_
 refine M8 ?_
 intros
 refine Mt c3 fun _ => ?_
 refine Mt c3 fun _ => ?_
 refine Mt c3 fun _ => ?_
 refine Mt c3 fun _ => ?_
 refine Mt c3 fun _ => ?_
 refine Mt c3 fun _ => ?_
 refine Mt c3 fun _ => ?_
 refine Mt c3 fun _ => ?_
 refine Mt c3 fun _ => ?_
 refine Mt c3 fun _ => ?_
 refine My (cN rfl hh c3 hh) fun _ => ?_
 refine M8 ?_
 intros
 refine M8 ?_
 intros
 refine M8 ?_
 intros
 refine M6 ?_
 intros
 revert H; refine B9 fun r1 H e1 => ?_
 cases e1; cases Hr2
 revert H; refine B3 fun r2 H e2 => ?_
 cases e2; cases Hr1
 cases H
 refine aH [] (by decide) ?_
 exact To
 exact fk
 kernel_rfl
 revert H; refine bs fun y3 h3 H => ?_
 revert H; refine is (fun c4 H => ?_) fun c4 H => ?_
 apply bC (ods := [_, _, _, _, _, _, _, _, _, _, _, _, _, _, _, _, _, _, _, _, _, _, _, _, _, _, _, _, _, _, _, _, _, _, _, _, _, _, _, _, _, _, _, _, _, _, _, _, _, _, _, _]) 52 0 2 bB rfl rfl rfl
 refine ND ?_
 refine M2 ?_
 intros
 refine My (bE rfl hh hh (el rfl) h2) fun _ => ?_
 refine M8 ?_
 intros
 refine Mg c3 (bF rfl hh) fun _ => ?_
 refine Mg c3 (bF rfl hh) fun _ => ?_
 refine Mg c3 (bE rfl hh hh (el rfl) h3) fun _ => ?_
 refine Mg c3 (dP (t' := (tSl (aB .i64))) (z := y3.Rules) rfl hh (fa rfl) rfl) fun _ => ?_
 refine Mg c3 (dB rfl hh (sc rfl) rfl) fun _ => ?_
 refine Mg c3 (dT rfl hh (us rfl)) fun _ => ?_
 refine Mg c3 (cE 2 rfl hh (fa rfl) rfl) fun _ => ?_
 refine dR (od := odC [0] false (fSl aZ y1.Rules) [cQ]) (ps := [0]) (φ := fSl aZ y1.Rules) rfl (fun _ => rfl) ⟨_, _, rfl, rfl, c3⟩ rfl rfl (bS rfl (has rfl) (sc rfl) rfl Ent.rfl) (fun _ => ?_)
 refine Mg c3 (dT rfl hh (us rfl)) fun _ => ?_
 refine Mg c3 (hP rfl hh hh) fun _ => ?_
 refine My (bU rfl hh c3 hh) fun _ => ?_
 refine M1 ?_
 intros
 refine Mt c4 fun _ => ?_
 refine Mt c4 fun _ => ?_
 refine Mt c4 fun _ => ?_
 refine Mt c4 fun _ => ?_
 refine Mt c4 fun _ => ?_
 refine Mt c4 fun _ => ?_
 refine Mt c4 fun _ => ?_
 refine Mt c4 fun _ => ?_
 refine Mt c4 fun _ => ?_
 refine Mt c4 fun _ => ?_
 refine My (cN rfl hh c4 hh) fun _ => ?_
 refine M8 ?_
 intros
 refine M8 ?_
 intros
 refine M2 ?_
 intros
 revert H; refine B9 fun r3 H e3 => ?_
 cases e3; cases Hr2
 revert H; refine B3 fun r4 H e4 => ?_
 cases e4; cases Hr1
 cases H
 refine aH [] (by decide) ?_
 exact To
 exact fk
 kernel_rfl
 revert H; refine bs fun y4 h4 H => ?_
 revert H; refine is (fun c5 H => ?_) fun c5 H => ?_
 apply bC (ods := [_, _, _, _, _, _, _, _, _, _, _, _, _, _, _, _, _, _, _, _, _, _, _, _, _, _, _, _, _, _, _, _, _, _, _, _, _, _, _, _, _, _, _, _, _, _, _, _, _, _, _, _]) 52 0 2 bB rfl rfl rfl
 refine ND ?_
 refine M2 ?_
 intros
 refine My (bE rfl hh hh (el rfl) h2) fun _ => ?_
 refine M8 ?_
 intros
 refine Mg c3 (bF rfl hh) fun _ => ?_
 refine Mg c3 (bF rfl hh) fun _ => ?_
 refine Mg c3 (bE rfl hh hh (el rfl) h3) fun _ => ?_
 refine Mg c3 (dP (t' := (tSl (aB .i64))) (z := y3.Rules) rfl hh (fa rfl) rfl) fun _ => ?_
 refine Mg c3 (dB rfl hh (sc rfl) rfl) fun _ => ?_
 refine Mg c3 (dT rfl hh (us rfl)) fun _ => ?_
 refine Mg c3 (cE 2 rfl hh (fa rfl) rfl) fun _ => ?_
 refine dR (od := odC [0] false (fSl aZ y1.Rules) [cQ]) (ps := [0]) (φ := fSl aZ y1.Rules) rfl (fun _ => rfl) ⟨_, _, rfl, rfl, c3⟩ rfl rfl (bS rfl (has rfl) (sc rfl) rfl Ent.rfl) (fun _ => ?_)
 refine Mg c3 (dT rfl hh (us rfl)) fun _ => ?_
 refine Mg c3 (hP rfl hh hh) fun _ => ?_
 refine My (bU rfl hh c3 hh) fun _ => ?_
 refine M1 ?_
 intros
 refine Mg c4 (bF rfl hh) fun _ => ?_
 refine Mg c4 (bF rfl hh) fun _ => ?_
 refine Mg c4 (bE rfl hh hh (el rfl) h4) fun _ => ?_
 refine Mg c4 (dP (t' := (tSl (tSl (aB .i64)))) (z := y4.Args) rfl hh (fa rfl) rfl) fun _ => ?_
 refine Mg c4 (dB rfl hh (sc rfl) rfl) fun _ => ?_
 refine Mg c4 (dT rfl hh (us rfl)) fun _ => ?_
 refine Mg c4 (cE 0 rfl hh (fa rfl) rfl) fun _ => ?_
 refine dR (od := odC [0] false (fSl aU y1.Chans) [cQ]) (ps := [0]) (φ := fSl aU y1.Chans) rfl (fun _ => rfl) ⟨_, _, rfl, rfl, c4⟩ rfl rfl (bS rfl (has rfl) (sc rfl) rfl Ent.rfl) (fun _ => ?_)
 refine Mg c4 (dT rfl hh (us rfl)) fun _ => ?_
 refine Mg c4 (hP rfl hh hh) fun _ => ?_
 refine My (bU rfl hh c4 hh) fun _ => ?_
 refine M1 ?_
 intros
 refine Mt c5 fun _ => ?_
 refine Mt c5 fun _ => ?_
 refine Mt c5 fun _ => ?_
 refine Mt c5 fun _ => ?_
 refine Mt c5 fun _ => ?_
 refine Mt c5 fun _ => ?_
 refine Mt c5 fun _ => ?_
 refine My (cN rfl hh c5 hh) fun _ => ?_
 refine M8 ?_
 intros
 refine M1 ?_
 intros
 revert H; refine B9 fun r5 H e5 => ?_
 cases e5; cases Hr2
 revert H; refine B3 fun r6 H e6 => ?_
 cases e6; cases Hr1
 cases H
 refine aH [] (by decide) ?_
 exact To
 exact fk
 kernel_rfl
 revert H; refine bs fun y5 h5 H => ?_
 revert H; refine bs fun y6 h6 H => ?_
 revert H; refine cs (fun c6 H => ?_) fun c6 H => ?_
 apply bC (ods := [_, _, _, _, _, _, _, _, _, _, _, _, _, _, _, _, _, _, _, _, _, _, _, _, _, _, _, _, _, _, _, _, _, _, _, _, _, _, _, _, _, _, _, _, _, _, _, _, _, _, _, _]) 52 0 2 bB rfl rfl rfl
 refine ND ?_
 refine M2 ?_
 intros
 refine My (bE rfl hh hh (el rfl) h2) fun _ => ?_
 refine M8 ?_
 intros
 refine Mg c3 (bF rfl hh) fun _ => ?_
 refine Mg c3 (bF rfl hh) fun _ => ?_
 refine Mg c3 (bE rfl hh hh (el rfl) h3) fun _ => ?_
 refine Mg c3 (dP (t' := (tSl (aB .i64))) (z := y3.Rules) rfl hh (fa rfl) rfl) fun _ => ?_
 refine Mg c3 (dB rfl hh (sc rfl) rfl) fun _ => ?_
 refine Mg c3 (dT rfl hh (us rfl)) fun _ => ?_
 refine Mg c3 (cE 2 rfl hh (fa rfl) rfl) fun _ => ?_
 refine dR (od := odC [0] false (fSl aZ y1.Rules) [cQ]) (ps := [0]) (φ := fSl aZ y1.Rules) rfl (fun _ => rfl) ⟨_, _, rfl, rfl, c3⟩ rfl rfl (bS rfl (has rfl) (sc rfl) rfl Ent.rfl) (fun _ => ?_)
 refine Mg c3 (dT rfl hh (us rfl)) fun _ => ?_
 refine Mg c3 (hP rfl hh hh) fun _ => ?_
 refine My (bU rfl hh c3 hh) fun _ => ?_
 refine M1 ?_
 intros
 refine Mg c4 (bF rfl hh) fun _ => ?_
 refine Mg c4 (bF rfl hh) fun _ => ?_
 refine Mg c4 (bE rfl hh hh (el rfl) h4) fun _ => ?_
 refine Mg c4 (dP (t' := (tSl (tSl (aB .i64)))) (z := y4.Args) rfl hh (fa rfl) rfl) fun _ => ?_
 refine Mg c4 (dB rfl hh (sc rfl) rfl) fun _ => ?_
 refine Mg c4 (dT rfl hh (us rfl)) fun _ => ?_
 refine Mg c4 (cE 0 rfl hh (fa rfl) rfl) fun _ => ?_
 refine dR (od := odC [0] false (fSl aU y1.Chans) [cQ]) (ps := [0]) (φ := fSl aU y1.Chans) rfl (fun _ => rfl) ⟨_, _, rfl, rfl, c4⟩ rfl rfl (bS rfl (has rfl) (sc rfl) rfl Ent.rfl) (fun _ => ?_)
 refine Mg c4 (dT rfl hh (us rfl)) fun _ => ?_
 refine Mg c4 (hP rfl hh hh) fun _ => ?_
 refine My (bU rfl hh c4 hh) fun _ => ?_
 refine M1 ?_
 intros
 refine Mg c5 (bF rfl hh) fun _ => ?_
 refine Mg c5 (bF rfl hh) fun _ => ?_
 refine Mg c5 (bE rfl hh hh (el rfl) h5) fun _ => ?_
 refine Mg c5 (dP (t' := (tSl (aB .i64))) (z := y5.Chans) rfl hh (fa rfl) rfl) fun _ => ?_
 refine Mg c5 (dB rfl hh (sc rfl) rfl) fun _ => ?_
 refine Nc (yE _ _ _ _ h6) fun _ => ?_
 refine Mg c5 (gD rfl hh) fun _ => ?_
 refine My (bU rfl hh c5 hh) fun _ => ?_
 refine M1 ?_
 intros
 refine Mt c6 fun _ => ?_
 refine Mt c6 fun _ => ?_
 refine Mt c6 fun _ => ?_
 refine Mt c6 fun _ => ?_
 refine Mt c6 fun _ => ?_
 refine Mt c6 fun _ => ?_
 refine Mt c6 fun _ => ?_
 refine My (cN rfl hh c6 hh) fun _ => ?_
 revert H; refine B9 fun r7 H e7 => ?_
 cases e7; cases Hr2
 revert H; refine B3 fun r8 H e8 => ?_
 cases e8; cases Hr1
 cases H
 refine aH [] (by decide) ?_
 exact To
 exact fk
 kernel_rfl
 revert H; refine bs fun y7 h7 H => ?_
 revert H; refine bs fun y8 h8 H => ?_
 apply bC (ods := [_, _, _, _, _, _, _, _, _, _, _, _, _, _, _, _, _, _, _, _, _, _, _, _, _, _, _, _, _, _, _, _, _, _, _, _, _, _, _, _, _, _, _, _, _, _, _, _, _, _, _, _]) 52 0 2 bB rfl rfl rfl
 refine ND ?_
 refine M2 ?_
 intros
 refine My (bE rfl hh hh (el rfl) h2) fun _ => ?_
 refine M8 ?_
 intros
 refine Mg c3 (bF rfl hh) fun _ => ?_
 refine Mg c3 (bF rfl hh) fun _ => ?_
 refine Mg c3 (bE rfl hh hh (el rfl) h3) fun _ => ?_
 refine Mg c3 (dP (t' := (tSl (aB .i64))) (z := y3.Rules) rfl hh (fa rfl) rfl) fun _ => ?_
 refine Mg c3 (dB rfl hh (sc rfl) rfl) fun _ => ?_
 refine Mg c3 (dT rfl hh (us rfl)) fun _ => ?_
 refine Mg c3 (cE 2 rfl hh (fa rfl) rfl) fun _ => ?_
 refine dR (od := odC [0] false (fSl aZ y1.Rules) [cQ]) (ps := [0]) (φ := fSl aZ y1.Rules) rfl (fun _ => rfl) ⟨_, _, rfl, rfl, c3⟩ rfl rfl (bS rfl (has rfl) (sc rfl) rfl Ent.rfl) (fun _ => ?_)
 refine Mg c3 (dT rfl hh (us rfl)) fun _ => ?_
 refine Mg c3 (hP rfl hh hh) fun _ => ?_
 refine My (bU rfl hh c3 hh) fun _ => ?_
 refine M1 ?_
 intros
 refine Mg c4 (bF rfl hh) fun _ => ?_
 refine Mg c4 (bF rfl hh) fun _ => ?_
 refine Mg c4 (bE rfl hh hh (el rfl) h4) fun _ => ?_
 refine Mg c4 (dP (t' := (tSl (tSl (aB .i64)))) (z := y4.Args) rfl hh (fa rfl) rfl) fun _ => ?_
 refine Mg c4 (dB rfl hh (sc rfl) rfl) fun _ => ?_
 refine Mg c4 (dT rfl hh (us rfl)) fun _ => ?_
 refine Mg c4 (cE 0 rfl hh (fa rfl) rfl) fun _ => ?_
 refine dR (od := odC [0] false (fSl aU y1.Chans) [cQ]) (ps := [0]) (φ := fSl aU y1.Chans) rfl (fun _ => rfl) ⟨_, _, rfl, rfl, c4⟩ rfl rfl (bS rfl (has rfl) (sc rfl) rfl Ent.rfl) (fun _ => ?_)
 refine Mg c4 (dT rfl hh (us rfl)) fun _ => ?_
 refine Mg c4 (hP rfl hh hh) fun _ => ?_
 refine My (bU rfl hh c4 hh) fun _ => ?_
 refine M1 ?_
 intros
 refine Mg c5 (bF rfl hh) fun _ => ?_
 refine Mg c5 (bF rfl hh) fun _ => ?_
 refine Mg c5 (bE rfl hh hh (el rfl) h5) fun _ => ?_
 refine Mg c5 (dP (t' := (tSl (aB .i64))) (z := y5.Chans) rfl hh (fa rfl) rfl) fun _ => ?_
 refine Mg c5 (dB rfl hh (sc rfl) rfl) fun _ => ?_
 refine Nc (yE _ _ _ _ h6) fun _ => ?_
 refine Mg c5 (gD rfl hh) fun _ => ?_
 refine My (bU rfl hh c5 hh) fun _ => ?_
 refine M1 ?_
 intros
 refine Mg c6 (bF rfl hh) fun _ => ?_
 refine Mg c6 (bF rfl hh) fun _ => ?_
 refine Mg c6 (bE rfl hh hh (el rfl) h7) fun _ => ?_
 refine Mg c6 (dP (t' := (tSl (aB .i64))) (z := y7.Rules) rfl hh (fa rfl) rfl) fun _ => ?_
 refine Mg c6 (dB rfl hh (sc rfl) rfl) fun _ => ?_
 refine Nc (yE _ _ _ _ h8) fun _ => ?_
 refine Mg c6 (gD rfl hh) fun _ => ?_
 refine My (bU rfl hh c6 hh) fun _ => ?_
 refine Z2 ?_
 revert H; refine cs (fun c7 H => ?_) fun c7 H => ?_
 refine cK (has rfl) (iP c7) ?_
 refine Z6 ?_
 refine Tl (ι := Nat × Int) (fun i => mU fuel a1 x2 y1 i.1 i.2 = _) (fun i => i.1) (fun i => [(1, fSl aX a1), (2, fEq (ptr b1)), (5, aA .i64 x2), (6, fEq (ptr b2)), (7, aA .i64 i.2)]) (fun i => [aC b2 99 [fSl aU y1.Chans, fSl bH y1.Spots, fSl aZ y1.Rules], aC b1 26 [fSl aM a0.Free, fSl aK a0.Nodes, fSl aI a0.Defs, aA .i64 a0.Main]]) (fuel, 0) H ?_
 clear H; rintro ⟨k2, x4⟩ H
 replace H : mU fuel a1 x2 y1 k2 x4 = _ := H
 try dsimp only
 obtain _ | k2 := k2
 rw [mU] at H; cases H
 rw [mU] at H
 refine aG ?_
 revert H; refine I7 (fun c8 H => ?_) fun c8 H => ?_
 refine cJ (has rfl) c8 ?_
 refine Z2 ?_
 refine aG ?_
 refine Z1 ?_
 refine aG ?_
 revert H; refine bs fun y9 h9 H => ?_
 revert H; refine bs fun y10 h10 H => ?_
 revert H; refine bs fun y11 h11 H => ?_
 revert H; refine is (fun c9 H => ?_) fun c9 H => ?_
 apply bC (ods := [_, _, _, _, _, _, _, _, _, _, _, _, _, _, _, _, _, _, _, _, _, _, _, _, _, _, _, _]) 28 0 2 bB rfl rfl rfl
 refine ND ?_
 refine M2 ?_
 intros
 refine My (bE rfl hh hh (el rfl) h9) fun _ => ?_
 refine M3 ?_
 intros
 refine My (bE rfl hh hh (el rfl) h10) fun _ => ?_
 refine M5 ?_
 intros
 refine My (bE rfl hh hh (el rfl) h11) fun _ => ?_
 refine M4 ?_
 intros
 refine Mt c9 fun _ => ?_
 refine Mt c9 fun _ => ?_
 refine Mt c9 fun _ => ?_
 refine Mt c9 fun _ => ?_
 refine Mt c9 fun _ => ?_
 refine Mt c9 fun _ => ?_
 refine Mt c9 fun _ => ?_
 refine Mt c9 fun _ => ?_
 refine Mt c9 fun _ => ?_
 refine Mt c9 fun _ => ?_
 refine My (cN rfl hh c9 hh) fun _ => ?_
 refine Z12 ?_
 revert H; refine B1 fun r9 H e9 => ?_
 cases e9; cases Hr2
 revert H; refine B3 fun r10 H e10 => ?_
 cases e10; cases Hr1
 cases H
 refine aH [] (by decide) ?_
 exact To
 exact fk
 kernel_rfl
 revert H; refine bs fun y12 h12 H => ?_
 revert H; refine bs fun y13 h13 H => ?_
 revert H; refine bs fun y14 h14 H => ?_
 apply bC (ods := [_, _, _, _, _, _, _, _, _, _, _, _, _, _, _, _, _, _, _, _, _, _, _, _, _, _, _, _]) 28 0 2 bB rfl rfl rfl
 refine ND ?_
 refine M2 ?_
 intros
 refine My (bE rfl hh hh (el rfl) h9) fun _ => ?_
 refine M3 ?_
 intros
 refine My (bE rfl hh hh (el rfl) h10) fun _ => ?_
 refine M5 ?_
 intros
 refine My (bE rfl hh hh (el rfl) h11) fun _ => ?_
 refine M4 ?_
 intros
 refine Mg c9 (bF rfl hh) fun _ => ?_
 refine Mg c9 (bF rfl hh) fun _ => ?_
 refine Mg c9 (bE rfl hh hh (el rfl) h12) fun _ => ?_
 refine Mg c9 (dP (t' := (tSl (tSl (aB .i64)))) (z := y12.Args) rfl hh (fa rfl) rfl) fun _ => ?_
 refine Mg c9 (dB rfl hh (sc rfl) rfl) fun _ => ?_
 refine Mg c9 (bF rfl hh) fun _ => ?_
 refine Mg c9 (bE rfl hh hh (el rfl) h13) fun _ => ?_
 refine Mg c9 (dB rfl hh (sc rfl) rfl) fun _ => ?_
 refine Nc (yE _ _ _ _ h14) fun _ => ?_
 refine Mg c9 (gD rfl hh) fun _ => ?_
 refine My (bU rfl hh c9 hh) fun _ => ?_
 refine Z2 ?_
 revert H; refine cs (fun c10 H => ?_) fun c10 H => ?_
 refine cK (has rfl) (iP c10) ?_
 revert H; refine B5 fun z1 h15 H => ?_
 refine Yy (eN rfl hh hh h15) ?_
 refine Z2 ?_
 exact Tm ((k2, z1)) ⟨H, ls⟩
 refine cJ (has rfl) (jC c10) ?_
 revert H; refine B10 fun r11 H e11 => ?_
 cases e11; cases Hr2
 revert H; refine B3 fun r12 H e12 => ?_
 cases e12; cases Hr1
 cases H
 refine aH [] (by decide) ?_
 exact To
 exact fk
 kernel_rfl
 refine cK (has rfl) c8 ?_
 refine Z6 ?_
 refine aH [1] (by decide) ?_
 exact Tm (()) (ij H)
 refine cJ (has rfl) (jC c7) ?_
 revert H; refine B6 fun r13 H e13 => ?_
 cases e13; cases Hr2
 revert H; refine B3 fun r14 H e14 => ?_
 cases e14; cases Hr1
 cases H
 refine aH [] (by decide) ?_
 exact To
 exact fk
 kernel_rfl
 clear H; intro i hi; subst o2; have H := Hr2; clear Hr2; try dsimp only at H
 try dsimp only
 revert H; refine B2 fun z2 h16 H => ?_
 refine Yy (eN rfl hh hh h16) ?_
 refine Z2 ?_
 exact Tm ((k1, z2)) ⟨H, ls⟩
 refine cK (has rfl) c2 ?_
 refine Z5 ?_
 exact Tm (()) (ij H)
 clear H; intro i hi; subst o1; have H := Hr1; clear Hr1; try dsimp only at H
 try dsimp only
 refine Z4 ?_
 cases H
 refine aH [] (by decide) ?_
 exact To
def tW (fuel : Nat) (a0 : ScopeProg) : Option (List Int) :=
 (uT fuel (⟨a0.Free, a0.Nodes, a0.Defs, a0.Main⟩ : ScopeProg)).bind fun y1 =>
 some y1.sizes
theorem aHO (fuel : Nat)  (a0 : ScopeProg) (r : List Int) (H : tW fuel a0 = some r) : FnS Tryz.prog 22 [fSt cY a0] [] (fSl (aB .i64) r) (fun _ => []) := by
 unfold tW at H
 refine bJ Tryz.func22 rfl Tryz.ntmps22 rfl (fun β => ?_)
 refine Z1 ?_
 refine Tn (cF rfl (has rfl) bO) fun b1 => ?_
 revert H; refine B4 fun y1 h1 H => ?_
 refine Tc (aCA _ _ _ h1) ?_
 refine Z6 ?_
 cases H
 refine aH [] (by decide) ?_
 exact To
def mK (a1 : Int) : Nat → (List Ref05_Chan) → Int → Option (List Ref05_Chan)
| 0, _, _ => none
| k + 1, x4, x5 =>
 if x5 < a1 then
  (eI (x4 ++ [(⟨(-1), 0⟩ : Ref05_Chan)])).bind fun z2 =>
  (chk (x5 + 1)).bind fun z3 =>
  mK a1 k z2 z3
 else
  some x4
def qQ (fuel : Nat) (a0 : List Ref05_Chan) (a1 : Int) : Option (List Ref05_Chan) :=
 (eI (([] : List Ref05_Chan) ++ a0)).bind fun z1 =>
 (mK a1 fuel z1 0).bind fun x1 =>
 some x1
theorem aAp (fuel : Nat)  (a0 : List Ref05_Chan) (a1 : Int) (r : List Ref05_Chan) (H : qQ fuel a0 a1 = some r) : FnS Tryz.prog 71 [fSl cO a0, aA .i64 a1] [] (fSl cO r) (fun _ => []) := by
 unfold qQ at H
 refine bJ Tryz.func71 rfl Tryz.ntmps71 rfl (fun β => ?_)
 refine Z4 ?_
 refine Tn (cH (t := cO) (xs := ([] : List Ref05_Chan)) rfl (et rfl) aQ.nil rfl rfl rfl) fun b1 => ?_
 generalize (Value.slice (some ⟨b1, 0, none⟩) _ _) = v1
 refine aN 0 rfl (fun hc_v1 => ?_)
 revert H; refine B1 fun z1 h1 H => ?_
 refine uW (ys := a0) trivial rfl rfl rfl (has rfl) (has rfl) (et rfl) rfl h1 (fun v2 => ?_)
 refine aN 0 rfl (fun hc_v2 => ?_)
 revert H; refine B2 fun o1 H Hr1 => ?_
 refine aR (ι := List Ref05_Chan × Value) (fun i => o1 = i.1) (fun i => [(5, fEq i.2)]) (fun i => [aD i.2 126 cO i.1]) ?_ ?_
 refine Z4 ?_
 refine Tl (ι := Nat × List Ref05_Chan × Int × Value) (fun i => mK a1 i.1 i.2.1 i.2.2.1 = _) (fun i => i.1) (fun i => [(1, aA .i64 a1), (5, fEq i.2.2.2), (6, aA .i64 i.2.2.1)]) (fun i => [aD i.2.2.2 126 cO i.2.1]) (fuel, z1, 0, v2) H ?_
 clear H; rintro ⟨k1, x4, x5, v5⟩ H
 replace H : mK a1 k1 x4 x5 = _ := H
 try dsimp only
 obtain _ | k1 := k1
 rw [mK] at H; cases H
 rw [mK] at H
 refine aN 0 rfl (fun hc_v5 => ?_)
 refine aG ?_
 revert H; refine I5 (fun c1 H => ?_) fun c1 H => ?_
 refine Z3 ?_
 refine aG ?_
 refine Z3 ?_
 refine Yy (dN (ψs := [aA .i64 (-1), aA .i64 0]) rfl aCj rfl (aW.cons (has rfl) (aS (aE trivial)) aW.nil) rfl) ?_
 refine Tn (cH (t := cO) (xs := [(⟨(-1), 0⟩ : Ref05_Chan)]) rfl (et rfl) (aQ.cons rfl (has rfl) bO aQ.nil) rfl rfl rfl) fun b2 => ?_
 generalize (Value.slice (some ⟨b2, 0, none⟩) _ _) = v6
 refine aN 0 rfl (fun hc_v6 => ?_)
 revert H; refine bs fun z2 h2 H => ?_
 refine pQ trivial rfl rfl rfl (has rfl) (has rfl) (et rfl) rfl h2 (fun v7 => ?_)
 refine aN 0 rfl (fun hc_v7 => ?_)
 revert H; refine B6 fun z3 h3 H => ?_
 refine Z3 ?_
 exact Tm ((k1, z2, z3, v7)) ⟨H, ls⟩
 refine Z6 ?_
 exact Tm ((x4, v5)) (ij H)
 clear H; intro i hi; obtain ⟨x1, v3⟩ := i; subst o1; have H := Hr1; clear Hr1; try dsimp only at H
 try dsimp only
 refine aN 0 rfl (fun hc_v3 => ?_)
 refine Z5 ?_
 refine cR (φ := fSl cO x1) (v := v3) [5, 19, 4] cL fz ?_
 refine cT ?_
 cases H
 exact To
end Go.Proofs.YtmnbfgeljmhekaaGreat
set_option maxRecDepth 100000
set_option maxHeartbeats 2000000
namespace Go.Proofs.YtmnbfgeljmhekaaGreat
open Go.SX Go.SW Go.Dt
attribute [local irreducible] Code.wpIn wpListIn Exit.then Exit.inBlock
def nR (rec_r05_Look_fill : Ref05_Look → Int → (List Ref05_Chan) → Option (Ref05_Look)) (a2 : List Ref05_Chan) (y2 : ScopeNode) : Nat → Int → (List ByteArray) → (List ScopeNode) → (List ScopeDef) → Int → (List (List Ref05_Chan)) → (List Int) → (List Int) → Option (List ByteArray × List ScopeNode × List ScopeDef × Int × List (List Ref05_Chan) × List Int × List Int)
| 0, _, _, _, _, _, _, _, _ => none
| k + 1, x16, x17, x18, x19, x20, x21, x22, x23 =>
 if x16 < (y2.Kids.length : Int) then
  (idx y2.Kids x16).bind fun y3 =>
  (rec_r05_Look_fill (⟨(⟨x17, x18, x19, x20⟩ : ScopeProg), x21, x22, x23⟩ : Ref05_Look) y3 a2).bind fun y4 =>
  (chk (x16 + 1)).bind fun z1 =>
  nR rec_r05_Look_fill a2 y2 k z1 y4.p.Free y4.p.Nodes y4.p.Defs y4.p.Main y4.Envs y4.Sizes y4.Heads
 else
  some (x17, x18, x19, x20, x21, x22, x23)
def lO (y2 : ScopeNode) (y6 : ScopeDef) : Nat → (List Ref05_Chan) → Int → Option (List Ref05_Chan)
| 0, _, _ => none
| k + 1, x27, x28 =>
 if x28 < (y6.Chans.length : Int) then
  (eI (x27 ++ [(⟨y2.N, x28⟩ : Ref05_Chan)])).bind fun z3 =>
  (chk (x28 + 1)).bind fun z4 =>
  lO y2 y6 k z3 z4
 else
  some x27
def mS (y6 : ScopeDef) (x44 : Int) : Nat → Int → Int → Option (Int)
| 0, _, _ => none
| k + 1, x62, x63 =>
 (idx y6.Rules x44).bind fun y8 =>
 if x63 < (y8.Joins.length : Int) then
  (idx y6.Rules x44).bind fun y9 =>
  (idx y9.Joins x63).bind fun y10 =>
  (idx y6.Chans y10).bind fun y11 =>
  (chk (x62 + y11.Many)).bind fun z5 =>
  (chk (x63 + 1)).bind fun z6 =>
  mS y6 x44 k z5 z6
 else
  some x62
def lQ (fuel : Nat) (rec_r05_Look_fill : Ref05_Look → Int → (List Ref05_Chan) → Option (Ref05_Look)) (y6 : ScopeDef) (y7 : List Ref05_Chan) : Nat → Int → (List ByteArray) → (List ScopeNode) → (List ScopeDef) → Int → (List (List Ref05_Chan)) → (List Int) → (List Int) → Option (List ByteArray × List ScopeNode × List ScopeDef × Int × List (List Ref05_Chan) × List Int × List Int)
| 0, _, _, _, _, _, _, _, _ => none
| k + 1, x44, x45, x46, x47, x48, x49, x50, x51 =>
 if x44 < (y6.Rules.length : Int) then
  ((mS y6 x44 fuel 0 0).bind fun x59 =>
  (idx y6.Rules x44).bind fun y12 =>
  (qQ fuel y7 x59).bind fun y13 =>
  (rec_r05_Look_fill (⟨(⟨x45, x46, x47, x48⟩ : ScopeProg), x49, x50, x51⟩ : Ref05_Look) y12.Node y13).bind fun y14 =>
  some (y14.p.Free, y14.p.Nodes, y14.p.Defs, y14.p.Main, y14.Envs, y14.Sizes, y14.Heads)).bind fun (x52, x53, x54, x55, x56, x57, x58) =>
  (chk (x44 + 1)).bind fun z7 =>
  lQ fuel rec_r05_Look_fill y6 y7 k z7 x52 x53 x54 x55 x56 x57 x58
 else
  some (x45, x46, x47, x48, x49, x50, x51)
def nS (rec_r05_Look_fill : Ref05_Look → Int → (List Ref05_Chan) → Option (Ref05_Look)) (y6 : ScopeDef) (y7 : List Ref05_Chan) : Nat → Int → (List ByteArray) → (List ScopeNode) → (List ScopeDef) → Int → (List (List Ref05_Chan)) → (List Int) → (List Int) → Option (List ByteArray × List ScopeNode × List ScopeDef × Int × List (List Ref05_Chan) × List Int × List Int)
| 0, _, _, _, _, _, _, _, _ => none
| k + 1, x79, x80, x81, x82, x83, x84, x85, x86 =>
 if x79 < (y6.Spots.length : Int) then
  (idx y6.Spots x79).bind fun y15 =>
  (rec_r05_Look_fill (⟨(⟨x80, x81, x82, x83⟩ : ScopeProg), x84, x85, x86⟩ : Ref05_Look) y15.Node y7).bind fun y16 =>
  (chk (x79 + 1)).bind fun z8 =>
  nS rec_r05_Look_fill y6 y7 k z8 y16.p.Free y16.p.Nodes y16.p.Defs y16.p.Main y16.Envs y16.Sizes y16.Heads
 else
  some (x80, x81, x82, x83, x84, x85, x86)
def fI : Nat → Ref05_Look → Int → (List Ref05_Chan) → Option (Ref05_Look)
| 0, _, _, _ => none
| fuel + 1, a0, a1, a2 =>
 (idx a0.Envs a1).bind fun y1 =>
 (idx a0.p.Nodes a1).bind fun y2 =>
 (if y2.Op ≠ 4 then
  (nR (fI fuel) a2 y2 fuel 0 a0.p.Free a0.p.Nodes a0.p.Defs a0.p.Main (a0.Envs.set a1.toNat a2) a0.Sizes a0.Heads).bind fun (x1, x2, x3, x4, x5, x6, x7) =>
  (some (⟨(⟨x1, x2, x3, x4⟩ : ScopeProg), x5, x6, x7⟩ : Ref05_Look)).bind fun r => some (Sum.inr r)
 else
  some (Sum.inl ())).bind fun o => match o with
 | Sum.inr r => some r
 | Sum.inl _ =>
 (idx a0.Heads y2.N).bind fun y5 =>
 (idx a0.p.Defs y2.N).bind fun y6 =>
 (eI (([] : List Ref05_Chan) ++ a2)).bind fun z2 =>
 (lO y2 y6 fuel z2 0).bind fun x24 =>
 (qQ fuel x24 (y6.Spots.length : Int)).bind fun y7 =>
 (lQ fuel (fI fuel) y6 y7 fuel 0 a0.p.Free a0.p.Nodes a0.p.Defs a0.p.Main (a0.Envs.set a1.toNat a2) a0.Sizes (a0.Heads.set y2.N.toNat a1)).bind fun (x29, x30, x31, x32, x33, x34, x35) =>
 (nS (fI fuel) y6 y7 fuel 0 x29 x30 x31 x32 x33 x34 x35).bind fun (x64, x65, x66, x67, x68, x69, x70) =>
 (idx y2.Kids 0).bind fun y17 =>
 ((fI fuel) (⟨(⟨x64, x65, x66, x67⟩ : ScopeProg), x68, x69, x70⟩ : Ref05_Look) y17 y7).bind fun y18 =>
 some (⟨(⟨y18.p.Free, y18.p.Nodes, y18.p.Defs, y18.p.Main⟩ : ScopeProg), y18.Envs, y18.Sizes, y18.Heads⟩ : Ref05_Look)
theorem aFN : ∀ (fuel : Nat), (∀ (p0 : Nat) (a0 : Ref05_Look) (a1 : Int) (a2 : List Ref05_Chan) (r : Ref05_Look) (H : fI fuel a0 a1 a2 = some r), FnS Tryz.prog 70 [fEq (.pointer (some ⟨p0, 0, none⟩)), aA .i64 a1, fSl cO a2] [zA p0 a0] (dC []) (fun _ => [zA p0 r])) := by
 intro fuel
 induction fuel with
 | zero => exact fun p0 a0 a1 a2 r H => (by rw [fI] at H; cases H)
 | succ fuel ih =>
 have ih_r05_Look_fill := ih
 refine ?_
 intro p0 a0 a1 a2 r H
 rw [fI] at H
 refine bJ Tryz.func70 rfl Tryz.ntmps70 rfl (fun β => ?_)
 refine sH (fun v1 v2 => ?_)
 refine aN 1 rfl (fun hc_v1 => ?_)
 refine aN 2 rfl (fun hc_v2 => ?_)
 revert H; refine B7 fun y1 h1 H => ?_
 refine Z1 ?_
 refine cI ?_
 refine qP (z' := a2) trivial rfl rfl rfl (has rfl) (has rfl) (bA) (sz rfl) (cB h1) rfl rfl ?_
 revert H; refine B8 fun y2 h2 H => ?_
 refine Z2 ?_
 refine Tn (bZ rfl hZ rfl) fun b1 => ?_
 refine cS (φs' := [aA .i64 y2.Op, aA .i64 y2.N, fSl bD y2.Args, fSl (aB .i64) y2.Kids]) trivial rfl rfl (has rfl) (has rfl) (aJ (aE trivial) (aJ (aE trivial) (aJ (bA) (aJ (bA) bP)))) (sz rfl) rfl rfl rfl ?_
 revert H; refine B1 fun o1 H Hr1 => ?_
 refine aR (ι := Unit) (fun i => o1 = Sum.inl ()) (fun i => [(0, fEq (ptr p0)), (1, aA .i64 a1), (2, fSl cO a2), (6, fEq (ptr b1))]) (fun i => [aC b1 51 [aA .i64 y2.Op, aA .i64 y2.N, fSl bD y2.Args, fSl (aB .i64) y2.Kids], aC p0 74 [fSl aM a0.p.Free, fSl aK a0.p.Nodes, fSl aI a0.p.Defs, aA .i64 a0.p.Main, fEq v1, fSl (aB .i64) a0.Sizes, fEq v2], aD v1 118 (tSl cO) (a0.Envs.set a1.toNat a2), aD v2 3 (aB .i64) a0.Heads]) ?_ ?_
 revert H; refine I5 (fun c1 H => ?_) fun c1 H => ?_
 revert H; refine B1 fun o2 H Hr2 => ?_
 refine aR (ι := List ByteArray × List ScopeNode × List ScopeDef × Int × List (List Ref05_Chan) × List Int × List Int × Value × Value) (fun i => o2 = (i.1, i.2.1, i.2.2.1, i.2.2.2.1, i.2.2.2.2.1, i.2.2.2.2.2.1, i.2.2.2.2.2.2.1)) (fun i => [(0, fEq (ptr p0))]) (fun i => [aC b1 51 [aA .i64 y2.Op, aA .i64 y2.N, fSl bD y2.Args, fSl (aB .i64) y2.Kids], aC p0 74 [fSl aM i.1, fSl aK i.2.1, fSl aI i.2.2.1, aA .i64 i.2.2.2.1, fEq i.2.2.2.2.2.2.2.1, fSl (aB .i64) i.2.2.2.2.2.1, fEq i.2.2.2.2.2.2.2.2], aD i.2.2.2.2.2.2.2.1 118 (tSl cO) i.2.2.2.2.1, aD i.2.2.2.2.2.2.2.2 3 (aB .i64) i.2.2.2.2.2.2.1]) ?_ ?_
 refine Z4 ?_
 refine aH [0, 2, 1, 3] (by decide) ?_
 refine Tl (ι := Nat × Int × List ByteArray × List ScopeNode × List ScopeDef × Int × List (List Ref05_Chan) × List Int × List Int × Value × Value) (fun i => nR (fI fuel) a2 y2 i.1 i.2.1 i.2.2.1 i.2.2.2.1 i.2.2.2.2.1 i.2.2.2.2.2.1 i.2.2.2.2.2.2.1 i.2.2.2.2.2.2.2.1 i.2.2.2.2.2.2.2.2.1 = _) (fun i => i.1) (fun i => [(0, fEq (ptr p0)), (2, fSl cO a2), (6, fEq (ptr b1)), (7, aA .i64 i.2.1)]) (fun i => [aC b1 51 [aA .i64 y2.Op, aA .i64 y2.N, fSl bD y2.Args, fSl (aB .i64) y2.Kids], aC p0 74 [fSl aM i.2.2.1, fSl aK i.2.2.2.1, fSl aI i.2.2.2.2.1, aA .i64 i.2.2.2.2.2.1, fEq i.2.2.2.2.2.2.2.2.2.1, fSl (aB .i64) i.2.2.2.2.2.2.2.1, fEq i.2.2.2.2.2.2.2.2.2.2], aD i.2.2.2.2.2.2.2.2.2.1 118 (tSl cO) i.2.2.2.2.2.2.1, aD i.2.2.2.2.2.2.2.2.2.2 3 (aB .i64) i.2.2.2.2.2.2.2.2.1]) (fuel, 0, a0.p.Free, a0.p.Nodes, a0.p.Defs, a0.p.Main, a0.Envs.set a1.toNat a2, a0.Sizes, a0.Heads, v1, v2) H ?_
 clear H; rintro ⟨k1, x16, x17, x18, x19, x20, x21, x22, x23, v7, v8⟩ H
 replace H : nR (fI fuel) a2 y2 k1 x16 x17 x18 x19 x20 x21 x22 x23 = _ := H
 try dsimp only
 obtain _ | k1 := k1
 rw [nR] at H; cases H
 rw [nR] at H
 refine aN 2 rfl (fun hc_v7 => ?_)
 refine aN 3 rfl (fun hc_v8 => ?_)
 refine aG ?_
 revert H; refine I7 (fun c2 H => ?_) fun c2 H => ?_
 refine Z3 ?_
 refine aG ?_
 revert H; refine B6 fun y3 h3 H => ?_
 refine Z3 ?_
 refine cX ?_
 refine cX ?_
 refine cX ?_
 refine rC (x := (⟨(⟨x17, x18, x19, x20⟩ : ScopeProg), x21, x22, x23⟩ : Ref05_Look)) ?_
 revert H; refine bs fun y4 h4 H => ?_
 refine Tc (ih_r05_Look_fill _ _ _ _ _ h4) ?_
 refine sH (fun v9 v10 => ?_)
 refine aN 1 rfl (fun hc_v9 => ?_)
 refine aN 2 rfl (fun hc_v10 => ?_)
 revert H; refine B5 fun z1 h5 H => ?_
 refine Z3 ?_
 refine aH [3, 0, 1, 2] (by decide) ?_
 exact Tm ((k1, z1, y4.p.Free, y4.p.Nodes, y4.p.Defs, y4.p.Main, y4.Envs, y4.Sizes, y4.Heads, v9, v10)) ⟨H, ls⟩
 refine Z6 ?_
 exact Tm ((x17, x18, x19, x20, x21, x22, x23, v7, v8)) (ij H)
 clear H; intro i hi; obtain ⟨x1, x2, x3, x4, x5, x6, x7, v3, v4⟩ := i; subst o2; have H := Hr2; clear Hr2; try dsimp only at H
 try dsimp only
 refine aN 2 rfl (fun hc_v3 => ?_)
 refine aN 3 rfl (fun hc_v4 => ?_)
 revert H; refine B1 fun r1 H e1 => ?_
 cases e1; cases Hr1
 refine cX ?_
 refine cX ?_
 refine cX ?_
 refine rC (x := (⟨(⟨x1, x2, x3, x4⟩ : ScopeProg), x5, x6, x7⟩ : Ref05_Look)) ?_
 cases H
 refine aH [0] (by decide) ?_
 exact eZ (.inl rfl) rfl rfl
 refine Z3 ?_
 refine aH [0, 2, 1, 3] (by decide) ?_
 exact Tm (()) (ij H)
 clear H; intro i hi; subst o1; have H := Hr1; clear Hr1; try dsimp only at H
 try dsimp only
 refine aG ?_
 revert H; refine bs fun y5 h6 H => ?_
 apply bC (ods := [_, _, _, _, _, _, _, _, _]) 9 0 4 bB rfl rfl rfl
 refine ND ?_
 refine M8 ?_
 intros
 refine qB (od := odC [3] true (fAny) [aD v2 3 (aB .i64) (a0.Heads.set y2.N.toNat a1)]) (p := 3) (z' := a1) rfl (fun _ => rfl) (fun _ => rfl) trivial rfl rfl rfl rfl (has rfl) (has rfl) (aE trivial) (sz rfl) (cB h6) rfl rfl (fun _ => ?_)
 refine Z2 ?_
 refine aG ?_
 revert H; refine bs fun y6 h7 H => ?_
 apply bC (ods := [_, _, _, _, _, _, _, _, _, _, _]) 11 1 5 bB rfl rfl rfl
 refine ND ?_
 refine M8 ?_
 intros
 refine M1 ?_
 intros
 refine Mn 4 (fun b2 => ptr b2) (fun b2 => aC b2 99 [fEq (.slice none 0 0), fEq (.slice none 0 0), fEq (.slice none 0 0)]) rfl (bZ rfl jD rfl) (fun b2 u1 => ?_)
 refine oT (od := od1 9 [4] true (fun b2 _ => fAny) (fun b2 _ => [aC b2 99 [fSl aU y6.Chans, fSl bH y6.Spots, fSl aZ y6.Rules]])) (p := 4) (φs' := [fSl aU y6.Chans, fSl bH y6.Spots, fSl aZ y6.Rules]) rfl (fun _ => rfl) (fun _ => rfl) trivial rfl rfl rfl (has rfl) (has rfl) (aJ (bA) (aJ (bA) (aJ (bA) bP))) (sz rfl) rfl rfl rfl (fun _ => ?_)
 refine Z3 ?_
 refine Tn (cH (t := cO) (xs := ([] : List Ref05_Chan)) rfl (et rfl) aQ.nil rfl rfl rfl) fun b3 => ?_
 generalize (Value.slice (some ⟨b3, 0, none⟩) _ _) = v11
 refine aN 0 rfl (fun hc_v11 => ?_)
 revert H; refine B1 fun z2 h8 H => ?_
 refine uW (ys := a2) trivial rfl rfl rfl (has rfl) (has rfl) (et rfl) rfl h8 (fun v12 => ?_)
 refine aN 0 rfl (fun hc_v12 => ?_)
 revert H; refine B2 fun o3 H Hr3 => ?_
 refine aR (ι := List Ref05_Chan × Value) (fun i => o3 = i.1) (fun i => [(0, fEq (ptr p0)), (6, fEq (ptr b1)), (8, fEq (ptr b2)), (9, fEq i.2)]) (fun i => [aC b1 51 [aA .i64 y2.Op, aA .i64 y2.N, fSl bD y2.Args, fSl (aB .i64) y2.Kids], aC p0 74 [fSl aM a0.p.Free, fSl aK a0.p.Nodes, fSl aI a0.p.Defs, aA .i64 a0.p.Main, fEq v1, fSl (aB .i64) a0.Sizes, fEq v2], aC b2 99 [fSl aU y6.Chans, fSl bH y6.Spots, fSl aZ y6.Rules], aD i.2 126 cO i.1, aD v1 118 (tSl cO) (a0.Envs.set a1.toNat a2), aD v2 3 (aB .i64) (a0.Heads.set y2.N.toNat a1)]) ?_ ?_
 refine Z4 ?_
 refine aH [1, 2, 5, 0, 3, 4] (by decide) ?_
 refine Tl (ι := Nat × List Ref05_Chan × Int × Value) (fun i => lO y2 y6 i.1 i.2.1 i.2.2.1 = _) (fun i => i.1) (fun i => [(0, fEq (ptr p0)), (6, fEq (ptr b1)), (8, fEq (ptr b2)), (9, fEq i.2.2.2), (10, aA .i64 i.2.2.1)]) (fun i => [aC b1 51 [aA .i64 y2.Op, aA .i64 y2.N, fSl bD y2.Args, fSl (aB .i64) y2.Kids], aC p0 74 [fSl aM a0.p.Free, fSl aK a0.p.Nodes, fSl aI a0.p.Defs, aA .i64 a0.p.Main, fEq v1, fSl (aB .i64) a0.Sizes, fEq v2], aC b2 99 [fSl aU y6.Chans, fSl bH y6.Spots, fSl aZ y6.Rules], aD i.2.2.2 126 cO i.2.1, aD v1 118 (tSl cO) (a0.Envs.set a1.toNat a2), aD v2 3 (aB .i64) (a0.Heads.set y2.N.toNat a1)]) (fuel, z2, 0, v12) H ?_
 clear H; rintro ⟨k2, x27, x28, v15⟩ H
 replace H : lO y2 y6 k2 x27 x28 = _ := H
 try dsimp only
 obtain _ | k2 := k2
 rw [lO] at H; cases H
 rw [lO] at H
 refine aN 3 rfl (fun hc_v15 => ?_)
 refine aG ?_
 revert H; refine I7 (fun c3 H => ?_) fun c3 H => ?_
 refine Z3 ?_
 refine aG ?_
 refine Z6 ?_
 refine Yy (dN (ψs := [aA .i64 y2.N, aA .i64 x28]) rfl aCj rfl (aW.cons (has rfl) (aS (aE trivial)) (aW.cons (has rfl) (aS (aE trivial)) aW.nil)) rfl) ?_
 refine Tn (cH (t := cO) (xs := [(⟨y2.N, x28⟩ : Ref05_Chan)]) rfl (et rfl) (aQ.cons rfl (has rfl) bO aQ.nil) rfl rfl rfl) fun b4 => ?_
 generalize (Value.slice (some ⟨b4, 0, none⟩) _ _) = v16
 refine aN 0 rfl (fun hc_v16 => ?_)
 revert H; refine bs fun z3 h9 H => ?_
 refine bK ?_
 refine cI ?_
 refine pQ trivial rfl rfl rfl (has rfl) (has rfl) (et rfl) rfl h9 (fun v17 => ?_)
 refine aN 0 rfl (fun hc_v17 => ?_)
 revert H; refine B6 fun z4 h10 H => ?_
 refine Z3 ?_
 refine aH [1, 2, 3, 0, 4, 5] (by decide) ?_
 exact Tm ((k2, z3, z4, v17)) ⟨H, ls⟩
 refine Z6 ?_
 exact Tm ((x27, v15)) (ij H)
 clear H; intro i hi; obtain ⟨x24, v13⟩ := i; subst o3; have H := Hr3; clear Hr3; try dsimp only at H
 try dsimp only
 refine aN 3 rfl (fun hc_v13 => ?_)
 refine Z5 ?_
 refine cX ?_
 refine cR (φ := fSl cO x24) (v := v13) [9, 82] cL fz ?_
 refine cT ?_
 revert H; refine bs fun y7 h11 H => ?_
 refine Tc (aAp _ _ _ _ h11) ?_
 revert H; refine B2 fun o4 H Hr4 => ?_
 refine aR (ι := List ByteArray × List ScopeNode × List ScopeDef × Int × List (List Ref05_Chan) × List Int × List Int × Value × Value) (fun i => o4 = (i.1, i.2.1, i.2.2.1, i.2.2.2.1, i.2.2.2.2.1, i.2.2.2.2.2.1, i.2.2.2.2.2.2.1)) (fun i => [(0, fEq (ptr p0)), (6, fEq (ptr b1)), (8, fEq (ptr b2)), (9, fSl cO y7)]) (fun i => [aC b1 51 [aA .i64 y2.Op, aA .i64 y2.N, fSl bD y2.Args, fSl (aB .i64) y2.Kids], aC p0 74 [fSl aM i.1, fSl aK i.2.1, fSl aI i.2.2.1, aA .i64 i.2.2.2.1, fEq i.2.2.2.2.2.2.2.1, fSl (aB .i64) i.2.2.2.2.2.1, fEq i.2.2.2.2.2.2.2.2], aC b2 99 [fSl aU y6.Chans, fSl bH y6.Spots, fSl aZ y6.Rules], aD i.2.2.2.2.2.2.2.1 118 (tSl cO) i.2.2.2.2.1, aD i.2.2.2.2.2.2.2.2 3 (aB .i64) i.2.2.2.2.2.2.1]) ?_ ?_
 refine Z4 ?_
 refine Tl (ι := Nat × Int × List ByteArray × List ScopeNode × List ScopeDef × Int × List (List Ref05_Chan) × List Int × List Int × Value × Value) (fun i => lQ fuel (fI fuel) y6 y7 i.1 i.2.1 i.2.2.1 i.2.2.2.1 i.2.2.2.2.1 i.2.2.2.2.2.1 i.2.2.2.2.2.2.1 i.2.2.2.2.2.2.2.1 i.2.2.2.2.2.2.2.2.1 = _) (fun i => i.1) (fun i => [(0, fEq (ptr p0)), (6, fEq (ptr b1)), (8, fEq (ptr b2)), (9, fSl cO y7), (11, aA .i64 i.2.1)]) (fun i => [aC b1 51 [aA .i64 y2.Op, aA .i64 y2.N, fSl bD y2.Args, fSl (aB .i64) y2.Kids], aC p0 74 [fSl aM i.2.2.1, fSl aK i.2.2.2.1, fSl aI i.2.2.2.2.1, aA .i64 i.2.2.2.2.2.1, fEq i.2.2.2.2.2.2.2.2.2.1, fSl (aB .i64) i.2.2.2.2.2.2.2.1, fEq i.2.2.2.2.2.2.2.2.2.2], aC b2 99 [fSl aU y6.Chans, fSl bH y6.Spots, fSl aZ y6.Rules], aD i.2.2.2.2.2.2.2.2.2.1 118 (tSl cO) i.2.2.2.2.2.2.1, aD i.2.2.2.2.2.2.2.2.2.2 3 (aB .i64) i.2.2.2.2.2.2.2.2.1]) (fuel, 0, a0.p.Free, a0.p.Nodes, a0.p.Defs, a0.p.Main, a0.Envs.set a1.toNat a2, a0.Sizes, a0.Heads.set y2.N.toNat a1, v1, v2) H ?_
 clear H; rintro ⟨k3, x44, x45, x46, x47, x48, x49, x50, x51, v22, v23⟩ H
 replace H : lQ fuel (fI fuel) y6 y7 k3 x44 x45 x46 x47 x48 x49 x50 x51 = _ := H
 try dsimp only
 obtain _ | k3 := k3
 rw [lQ] at H; cases H
 rw [lQ] at H
 refine aN 3 rfl (fun hc_v22 => ?_)
 refine aN 4 rfl (fun hc_v23 => ?_)
 refine aG ?_
 revert H; refine I7 (fun c4 H => ?_) fun c4 H => ?_
 revert H; refine B3 fun o5 H Hr5 => ?_
 refine aR (ι := List ByteArray × List ScopeNode × List ScopeDef × Int × List (List Ref05_Chan) × List Int × List Int × Value × Value) (fun i => o5 = (i.1, i.2.1, i.2.2.1, i.2.2.2.1, i.2.2.2.2.1, i.2.2.2.2.2.1, i.2.2.2.2.2.2.1)) (fun i => [(0, fEq (ptr p0)), (6, fEq (ptr b1)), (8, fEq (ptr b2)), (9, fSl cO y7), (11, aA .i64 x44)]) (fun i => [aC p0 74 [fSl aM i.1, fSl aK i.2.1, fSl aI i.2.2.1, aA .i64 i.2.2.2.1, fEq i.2.2.2.2.2.2.2.1, fSl (aB .i64) i.2.2.2.2.2.1, fEq i.2.2.2.2.2.2.2.2], aC b1 51 [aA .i64 y2.Op, aA .i64 y2.N, fSl bD y2.Args, fSl (aB .i64) y2.Kids], aC b2 99 [fSl aU y6.Chans, fSl bH y6.Spots, fSl aZ y6.Rules], aD i.2.2.2.2.2.2.2.1 118 (tSl cO) i.2.2.2.2.1, aD i.2.2.2.2.2.2.2.2 3 (aB .i64) i.2.2.2.2.2.2.1]) ?_ ?_
 revert H; refine B4 fun o6 H Hr6 => ?_
 refine aR (ι := Int) (fun i => o6 = i) (fun i => [(0, fEq (ptr p0)), (6, fEq (ptr b1)), (8, fEq (ptr b2)), (9, fSl cO y7), (11, aA .i64 x44), (12, aA .i64 i)]) (fun i => [aC b1 51 [aA .i64 y2.Op, aA .i64 y2.N, fSl bD y2.Args, fSl (aB .i64) y2.Kids], aC p0 74 [fSl aM x45, fSl aK x46, fSl aI x47, aA .i64 x48, fEq v22, fSl (aB .i64) x50, fEq v23], aC b2 99 [fSl aU y6.Chans, fSl bH y6.Spots, fSl aZ y6.Rules], aD v22 118 (tSl cO) x49, aD v23 3 (aB .i64) x51]) ?_ ?_
 refine Z4 ?_
 refine Tl (ι := Nat × Int × Int) (fun i => mS y6 x44 i.1 i.2.1 i.2.2 = _) (fun i => i.1) (fun i => [(0, fEq (ptr p0)), (6, fEq (ptr b1)), (8, fEq (ptr b2)), (9, fSl cO y7), (11, aA .i64 x44), (12, aA .i64 i.2.1), (13, aA .i64 i.2.2)]) (fun i => [aC b1 51 [aA .i64 y2.Op, aA .i64 y2.N, fSl bD y2.Args, fSl (aB .i64) y2.Kids], aC p0 74 [fSl aM x45, fSl aK x46, fSl aI x47, aA .i64 x48, fEq v22, fSl (aB .i64) x50, fEq v23], aC b2 99 [fSl aU y6.Chans, fSl bH y6.Spots, fSl aZ y6.Rules], aD v22 118 (tSl cO) x49, aD v23 3 (aB .i64) x51]) (fuel, 0, 0) H ?_
 clear H; rintro ⟨k4, x62, x63⟩ H
 replace H : mS y6 x44 k4 x62 x63 = _ := H
 try dsimp only
 obtain _ | k4 := k4
 rw [mS] at H; cases H
 rw [mS] at H
 refine aG ?_
 revert H; refine B5 fun y8 h12 H => ?_
 revert H; refine I6 (fun c5 H => ?_) fun c5 H => ?_
 refine Z3 ?_
 refine aG ?_
 revert H; refine B1 fun y9 h13 H => ?_
 revert H; refine bs fun y10 h14 H => ?_
 revert H; refine bs fun y11 h15 H => ?_
 revert H; refine bs fun z5 h16 H => ?_
 apply bC (ods := [_, _, _, _, _, _, _, _, _, _, _, _, _, _, _, _, _]) 17 0 5 bB rfl rfl rfl
 refine ND ?_
 refine M8 ?_
 intros
 refine M8 ?_
 intros
 refine M1 ?_
 intros
 revert H; refine B6 fun z6 h17 H => ?_
 refine Z3 ?_
 exact Tm ((k4, z5, z6)) ⟨H, ls⟩
 exact fk
 kernel_rfl
 refine Z6 ?_
 exact Tm (x62) (ij H)
 clear H; intro x59 hi; subst o6; have H := Hr6; clear Hr6; try dsimp only at H
 try dsimp only
 revert H; refine bs fun y12 h18 H => ?_
 revert H; refine bs fun y13 h19 H => ?_
 apply bC (ods := [_, _, _, _, _, _, _, _, _, _]) 10 0 5 bB rfl rfl rfl
 refine ND ?_
 refine M8 ?_
 intros
 refine M1 ?_
 intros
 refine Nc (aAp _ _ _ _ h19) fun _ => ?_
 refine Z1 ?_
 refine bK ?_
 refine bK ?_
 refine cX ?_
 refine rC (x := (⟨(⟨x45, x46, x47, x48⟩ : ScopeProg), x49, x50, x51⟩ : Ref05_Look)) ?_
 revert H; refine bs fun y14 h20 H => ?_
 refine Tc (ih_r05_Look_fill _ _ _ _ _ h20) ?_
 refine sH (fun v26 v27 => ?_)
 refine aN 1 rfl (fun hc_v26 => ?_)
 refine aN 2 rfl (fun hc_v27 => ?_)
 refine Z3 ?_
 refine aH [0, 3, 4, 1, 2] (by decide) ?_
 exact Tm ((y14.p.Free, y14.p.Nodes, y14.p.Defs, y14.p.Main, y14.Envs, y14.Sizes, y14.Heads, v26, v27)) (ij H)
 exact fk
 kernel_rfl
 clear H; intro i hi; obtain ⟨x52, x53, x54, x55, x56, x57, x58, v24, v25⟩ := i; subst o5; have H := Hr5; clear Hr5; try dsimp only at H
 try dsimp only
 refine aN 3 rfl (fun hc_v24 => ?_)
 refine aN 4 rfl (fun hc_v25 => ?_)
 revert H; refine B2 fun z7 h21 H => ?_
 refine Z3 ?_
 refine aH [1, 0, 2, 3, 4] (by decide) ?_
 exact Tm ((k3, z7, x52, x53, x54, x55, x56, x57, x58, v24, v25)) ⟨H, ls⟩
 refine Z6 ?_
 exact Tm ((x45, x46, x47, x48, x49, x50, x51, v22, v23)) (ij H)
 clear H; intro i hi; obtain ⟨x29, x30, x31, x32, x33, x34, x35, v18, v19⟩ := i; subst o4; have H := Hr4; clear Hr4; try dsimp only at H
 try dsimp only
 refine aN 3 rfl (fun hc_v18 => ?_)
 refine aN 4 rfl (fun hc_v19 => ?_)
 revert H; refine bs fun o7 H Hr7 => ?_
 refine aR (ι := List ByteArray × List ScopeNode × List ScopeDef × Int × List (List Ref05_Chan) × List Int × List Int × Value × Value) (fun i => o7 = (i.1, i.2.1, i.2.2.1, i.2.2.2.1, i.2.2.2.2.1, i.2.2.2.2.2.1, i.2.2.2.2.2.2.1)) (fun i => [(0, fEq (ptr p0)), (6, fEq (ptr b1)), (9, fSl cO y7)]) (fun i => [aC b1 51 [aA .i64 y2.Op, aA .i64 y2.N, fSl bD y2.Args, fSl (aB .i64) y2.Kids], aC p0 74 [fSl aM i.1, fSl aK i.2.1, fSl aI i.2.2.1, aA .i64 i.2.2.2.1, fEq i.2.2.2.2.2.2.2.1, fSl (aB .i64) i.2.2.2.2.2.1, fEq i.2.2.2.2.2.2.2.2], aC b2 99 [fSl aU y6.Chans, fSl bH y6.Spots, fSl aZ y6.Rules], aD i.2.2.2.2.2.2.2.1 118 (tSl cO) i.2.2.2.2.1, aD i.2.2.2.2.2.2.2.2 3 (aB .i64) i.2.2.2.2.2.2.1]) ?_ ?_
 refine Z4 ?_
 refine Tl (ι := Nat × Int × List ByteArray × List ScopeNode × List ScopeDef × Int × List (List Ref05_Chan) × List Int × List Int × Value × Value) (fun i => nS (fI fuel) y6 y7 i.1 i.2.1 i.2.2.1 i.2.2.2.1 i.2.2.2.2.1 i.2.2.2.2.2.1 i.2.2.2.2.2.2.1 i.2.2.2.2.2.2.2.1 i.2.2.2.2.2.2.2.2.1 = _) (fun i => i.1) (fun i => [(0, fEq (ptr p0)), (6, fEq (ptr b1)), (8, fEq (ptr b2)), (9, fSl cO y7), (14, aA .i64 i.2.1)]) (fun i => [aC b1 51 [aA .i64 y2.Op, aA .i64 y2.N, fSl bD y2.Args, fSl (aB .i64) y2.Kids], aC p0 74 [fSl aM i.2.2.1, fSl aK i.2.2.2.1, fSl aI i.2.2.2.2.1, aA .i64 i.2.2.2.2.2.1, fEq i.2.2.2.2.2.2.2.2.2.1, fSl (aB .i64) i.2.2.2.2.2.2.2.1, fEq i.2.2.2.2.2.2.2.2.2.2], aC b2 99 [fSl aU y6.Chans, fSl bH y6.Spots, fSl aZ y6.Rules], aD i.2.2.2.2.2.2.2.2.2.1 118 (tSl cO) i.2.2.2.2.2.2.1, aD i.2.2.2.2.2.2.2.2.2.2 3 (aB .i64) i.2.2.2.2.2.2.2.2.1]) (fuel, 0, x29, x30, x31, x32, x33, x34, x35, v18, v19) H ?_
 clear H; rintro ⟨k5, x79, x80, x81, x82, x83, x84, x85, x86, v32, v33⟩ H
 replace H : nS (fI fuel) y6 y7 k5 x79 x80 x81 x82 x83 x84 x85 x86 = _ := H
 try dsimp only
 obtain _ | k5 := k5
 rw [nS] at H; cases H
 rw [nS] at H
 refine aN 3 rfl (fun hc_v32 => ?_)
 refine aN 4 rfl (fun hc_v33 => ?_)
 refine aG ?_
 revert H; refine I7 (fun c6 H => ?_) fun c6 H => ?_
 refine Z3 ?_
 refine aG ?_
 revert H; refine B6 fun y15 h22 H => ?_
 refine Z4 ?_
 refine bK ?_
 refine bK ?_
 refine cX ?_
 refine rC (x := (⟨(⟨x80, x81, x82, x83⟩ : ScopeProg), x84, x85, x86⟩ : Ref05_Look)) ?_
 revert H; refine bs fun y16 h23 H => ?_
 refine Tc (ih_r05_Look_fill _ _ _ _ _ h23) ?_
 refine sH (fun v34 v35 => ?_)
 refine aN 1 rfl (fun hc_v34 => ?_)
 refine aN 2 rfl (fun hc_v35 => ?_)
 revert H; refine B5 fun z8 h24 H => ?_
 refine Z3 ?_
 refine aH [3, 0, 4, 1, 2] (by decide) ?_
 exact Tm ((k5, z8, y16.p.Free, y16.p.Nodes, y16.p.Defs, y16.p.Main, y16.Envs, y16.Sizes, y16.Heads, v34, v35)) ⟨H, ls⟩
 refine Z6 ?_
 exact Tm ((x80, x81, x82, x83, x84, x85, x86, v32, v33)) (ij H)
 clear H; intro i hi; obtain ⟨x64, x65, x66, x67, x68, x69, x70, v28, v29⟩ := i; subst o7; have H := Hr7; clear Hr7; try dsimp only at H
 try dsimp only
 refine aN 3 rfl (fun hc_v28 => ?_)
 refine aN 4 rfl (fun hc_v29 => ?_)
 revert H; refine B4 fun y17 h25 H => ?_
 refine Z3 ?_
 refine bK ?_
 refine bK ?_
 refine cX ?_
 refine rC (x := (⟨(⟨x64, x65, x66, x67⟩ : ScopeProg), x68, x69, x70⟩ : Ref05_Look)) ?_
 revert H; refine bs fun y18 h26 H => ?_
 refine Tc (ih_r05_Look_fill _ _ _ _ _ h26) ?_
 refine sH (fun v36 v37 => ?_)
 refine aN 1 rfl (fun hc_v36 => ?_)
 refine aN 2 rfl (fun hc_v37 => ?_)
 refine Z1 ?_
 refine rC (x := (⟨(⟨y18.p.Free, y18.p.Nodes, y18.p.Defs, y18.p.Main⟩ : ScopeProg), y18.Envs, y18.Sizes, y18.Heads⟩ : Ref05_Look)) ?_
 cases H
 refine aH [0] (by decide) ?_
 exact eZ (.inr rfl) rfl rfl
 exact fk
 kernel_rfl
 exact fk
 kernel_rfl
def mO (a0 : ScopeProg) : Nat → Int → (List (List Ref05_Chan)) → Option (List (List Ref05_Chan))
| 0, _, _ => none
| k + 1, x4, x5 =>
 if x4 < (a0.Nodes.length : Int) then
  (eI (x5 ++ [[]])).bind fun z1 =>
  (chk (x4 + 1)).bind fun z2 =>
  mO a0 k z2 z1
 else
  some x5
def lZ (a0 : ScopeProg) : Nat → Int → (List Int) → Option (List Int)
| 0, _, _ => none
| k + 1, x9, x10 =>
 if x9 < (a0.Defs.length : Int) then
  (eI (x10 ++ [0])).bind fun z3 =>
  (chk (x9 + 1)).bind fun z4 =>
  lZ a0 k z4 z3
 else
  some x10
def tA (fuel : Nat) (a0 : ScopeProg) : Option (Ref05_Look) :=
 (tW fuel (⟨a0.Free, a0.Nodes, a0.Defs, a0.Main⟩ : ScopeProg)).bind fun y1 =>
 (mO a0 fuel 0 []).bind fun x1 =>
 (lZ a0 fuel 0 []).bind fun x6 =>
 (qQ fuel [] (a0.Free.length : Int)).bind fun y2 =>
 (fI fuel (⟨(⟨a0.Free, a0.Nodes, a0.Defs, a0.Main⟩ : ScopeProg), x1, y1, x6⟩ : Ref05_Look) a0.Main y2).bind fun y3 =>
 some (⟨(⟨y3.p.Free, y3.p.Nodes, y3.p.Defs, y3.p.Main⟩ : ScopeProg), y3.Envs, y3.Sizes, y3.Heads⟩ : Ref05_Look)
theorem aGm (fuel : Nat)  (a0 : ScopeProg) (r : Ref05_Look) (H : tA fuel a0 = some r) : FnS Tryz.prog 30 [fSt cY a0] [] (aF dX r) (fun _ => []) := by
 unfold tA at H
 refine bJ Tryz.func30 rfl Tryz.ntmps30 rfl (fun β => ?_)
 refine Z1 ?_
 refine Tn (cF rfl (has rfl) bO) fun b1 => ?_
 refine Z2 ?_
 refine aG ?_
 revert H; refine bs fun y1 h1 H => ?_
 apply bC (ods := [_, _, _, _, _, _]) 6 1 2 bB rfl rfl rfl
 refine ND ?_
 refine M2 ?_
 intros
 refine Nc (aHO _ _ _ h1) fun _ => ?_
 refine My (dN (ψs := [fSl aM a0.Free, fSl aK a0.Nodes, fSl aI a0.Defs, aA .i64 a0.Main, fEq (.slice none 0 0), fSl (aB .i64) y1, fEq (.slice none 0 0)]) rfl ty_bu_74 rfl (aW.cons (has rfl) bO (aW.cons (has rfl) (aS (bA)) aW.nil)) rfl) fun _ => ?_
 refine Mn 1 (fun b2 => ptr b2) (fun b2 => aC b2 74 [fSl aM a0.Free, fSl aK a0.Nodes, fSl aI a0.Defs, aA .i64 a0.Main, fEq (.slice none 0 0), fSl (aB .i64) y1, fEq (.slice none 0 0)]) rfl (cF rfl (has rfl) bO) (fun b2 u1 => ?_)
 refine D1 4 b2 _ (fun b2 _ => fEq (ptr b2)) rfl (vM rfl hh) (fun _ => ?_)
 revert H; refine B2 fun o1 H Hr1 => ?_
 refine aR (ι := List (List Ref05_Chan) × Value) (fun i => o1 = i.1) (fun i => [(1, fEq (ptr b1)), (3, fEq (ptr b2))]) (fun i => [aC b1 26 [fSl aM a0.Free, fSl aK a0.Nodes, fSl aI a0.Defs, aA .i64 a0.Main], aC b2 74 [fSl aM a0.Free, fSl aK a0.Nodes, fSl aI a0.Defs, aA .i64 a0.Main, fEq i.2, fSl (aB .i64) y1, fEq (.slice none 0 0)], aD i.2 118 (tSl cO) i.1]) ?_ ?_
 refine Z4 ?_
 refine oF (tSl cO) 118 ?_
 refine aH [1, 2, 0] (by decide) ?_
 refine Tl (ι := Nat × Int × List (List Ref05_Chan) × Value) (fun i => mO a0 i.1 i.2.1 i.2.2.1 = _) (fun i => i.1) (fun i => [(1, fEq (ptr b1)), (3, fEq (ptr b2)), (4, aA .i64 i.2.1)]) (fun i => [aC b1 26 [fSl aM a0.Free, fSl aK a0.Nodes, fSl aI a0.Defs, aA .i64 a0.Main], aC b2 74 [fSl aM a0.Free, fSl aK a0.Nodes, fSl aI a0.Defs, aA .i64 a0.Main, fEq i.2.2.2, fSl (aB .i64) y1, fEq (.slice none 0 0)], aD i.2.2.2 118 (tSl cO) i.2.2.1]) (fuel, 0, [], (.slice none 0 0)) H ?_
 clear H; rintro ⟨k1, x4, x5, v3⟩ H
 replace H : mO a0 k1 x4 x5 = _ := H
 try dsimp only
 obtain _ | k1 := k1
 rw [mO] at H; cases H
 rw [mO] at H
 refine aN 2 rfl (fun hc_v3 => ?_)
 refine aG ?_
 revert H; refine I7 (fun c1 H => ?_) fun c1 H => ?_
 refine Z3 ?_
 refine aG ?_
 refine Z7 ?_
 refine Tn (cH (t := (tSl cO)) (xs := [[]]) rfl (et rfl) (aQ.cons rfl (dM rfl eC) (aS (bA)) aQ.nil) rfl rfl rfl) fun b3 => ?_
 generalize (Value.slice (some ⟨b3, 0, none⟩) _ _) = v4
 refine aN 0 rfl (fun hc_v4 => ?_)
 revert H; refine bs fun z1 h2 H => ?_
 refine cX ?_
 refine cI ?_
 refine pQ trivial rfl rfl rfl (has rfl) (has rfl) (et rfl) rfl h2 (fun v5 => ?_)
 refine aN 0 rfl (fun hc_v5 => ?_)
 refine Z2 ?_
 refine eB ?_
 refine dA (φs' := [fSl aM a0.Free, fSl aK a0.Nodes, fSl aI a0.Defs, aA .i64 a0.Main, fEq v5, fSl (aB .i64) y1, fEq (.slice none 0 0)]) trivial rfl rfl (has rfl) (has rfl) (aE hc_v5) (sz rfl) rfl rfl ?_
 revert H; refine B5 fun z2 h3 H => ?_
 refine Z3 ?_
 refine aH [2, 0, 1] (by decide) ?_
 exact Tm ((k1, z2, z1, v5)) ⟨H, ls⟩
 refine Z6 ?_
 exact Tm ((x5, v3)) (ij H)
 clear H; intro i hi; obtain ⟨x1, v1⟩ := i; subst o1; have H := Hr1; clear Hr1; try dsimp only at H
 try dsimp only
 refine aN 2 rfl (fun hc_v1 => ?_)
 revert H; refine bs fun o2 H Hr2 => ?_
 refine aR (ι := List Int × Value) (fun i => o2 = i.1) (fun i => [(1, fEq (ptr b1)), (3, fEq (ptr b2))]) (fun i => [aC b1 26 [fSl aM a0.Free, fSl aK a0.Nodes, fSl aI a0.Defs, aA .i64 a0.Main], aC b2 74 [fSl aM a0.Free, fSl aK a0.Nodes, fSl aI a0.Defs, aA .i64 a0.Main, fEq v1, fSl (aB .i64) y1, fEq i.2], aD v1 118 (tSl cO) x1, aD i.2 3 (aB .i64) i.1]) ?_ ?_
 refine Z4 ?_
 refine oF (aB .i64) 3 ?_
 refine aH [1, 2, 3, 0] (by decide) ?_
 refine Tl (ι := Nat × Int × List Int × Value) (fun i => lZ a0 i.1 i.2.1 i.2.2.1 = _) (fun i => i.1) (fun i => [(1, fEq (ptr b1)), (3, fEq (ptr b2)), (5, aA .i64 i.2.1)]) (fun i => [aC b1 26 [fSl aM a0.Free, fSl aK a0.Nodes, fSl aI a0.Defs, aA .i64 a0.Main], aC b2 74 [fSl aM a0.Free, fSl aK a0.Nodes, fSl aI a0.Defs, aA .i64 a0.Main, fEq v1, fSl (aB .i64) y1, fEq i.2.2.2], aD v1 118 (tSl cO) x1, aD i.2.2.2 3 (aB .i64) i.2.2.1]) (fuel, 0, [], (.slice none 0 0)) H ?_
 clear H; rintro ⟨k2, x9, x10, v8⟩ H
 replace H : lZ a0 k2 x9 x10 = _ := H
 try dsimp only
 obtain _ | k2 := k2
 rw [lZ] at H; cases H
 rw [lZ] at H
 refine aN 3 rfl (fun hc_v8 => ?_)
 refine aG ?_
 revert H; refine I7 (fun c2 H => ?_) fun c2 H => ?_
 refine Z3 ?_
 refine aG ?_
 refine Z7 ?_
 refine Tn (cH (t := (aB .i64)) (xs := [0]) rfl (et rfl) (aQ.cons rfl (has rfl) (aS (aE trivial)) aQ.nil) rfl rfl rfl) fun b4 => ?_
 generalize (Value.slice (some ⟨b4, 0, none⟩) _ _) = v9
 refine aN 0 rfl (fun hc_v9 => ?_)
 revert H; refine bs fun z3 h4 H => ?_
 refine bK ?_
 refine cI ?_
 refine pQ trivial rfl rfl rfl (has rfl) (has rfl) (et rfl) rfl h4 (fun v10 => ?_)
 refine aN 0 rfl (fun hc_v10 => ?_)
 refine Z2 ?_
 refine eB ?_
 refine dA (φs' := [fSl aM a0.Free, fSl aK a0.Nodes, fSl aI a0.Defs, aA .i64 a0.Main, fEq v1, fSl (aB .i64) y1, fEq v10]) trivial rfl rfl (has rfl) (has rfl) (aE hc_v10) (sz rfl) rfl rfl ?_
 revert H; refine B5 fun z4 h5 H => ?_
 refine Z3 ?_
 refine aH [2, 0, 3, 1] (by decide) ?_
 exact Tm ((k2, z4, z3, v10)) ⟨H, ls⟩
 refine Z6 ?_
 exact Tm ((x10, v8)) (ij H)
 clear H; intro i hi; obtain ⟨x6, v6⟩ := i; subst o2; have H := Hr2; clear Hr2; try dsimp only at H
 try dsimp only
 refine aN 3 rfl (fun hc_v6 => ?_)
 refine aG ?_
 revert H; refine bs fun y2 h6 H => ?_
 apply bC (ods := [_, _, _, _, _, _, _]) 7 0 4 bB rfl rfl rfl
 refine ND ?_
 refine M6 ?_
 intros
 refine xM (od := odC [] true (fSl cO y2) []) (Φ := fSl cO y2) rfl (fun _ => rfl) trivial rfl rfl (has rfl) (aO.cons (dM rfl eC) (aO.cons (has rfl) aO.nil)) rfl (cb rfl) (aAp fuel [] (a0.Free.length : Int) y2 h6) (fun _ => ?_)
 refine Z1 ?_
 refine cX ?_
 refine cX ?_
 refine cX ?_
 refine rC (x := (⟨(⟨a0.Free, a0.Nodes, a0.Defs, a0.Main⟩ : ScopeProg), x1, y1, x6⟩ : Ref05_Look)) ?_
 revert H; refine bs fun y3 h7 H => ?_
 refine Tc (aFN _ _ _ _ _ _ h7) ?_
 refine sH (fun v11 v12 => ?_)
 refine aN 1 rfl (fun hc_v11 => ?_)
 refine aN 2 rfl (fun hc_v12 => ?_)
 refine Z6 ?_
 refine cI ?_
 refine cR (φ := fSl (tSl cO) y3.Envs) (v := v11) [] cL (fun _ h => nomatch h) ?_
 refine gN (φs' := [fSl aM y3.p.Free, fSl aK y3.p.Nodes, fSl aI y3.p.Defs, aA .i64 y3.p.Main, fSl (tSl cO) y3.Envs, fSl (aB .i64) y3.Sizes, fEq v12]) (i := 4) rfl rfl ?_
 refine cT ?_
 refine cI ?_
 refine cR (φ := fSl (aB .i64) y3.Heads) (v := v12) [] cL (fun _ h => nomatch h) ?_
 refine gN (φs' := [fSl aM y3.p.Free, fSl aK y3.p.Nodes, fSl aI y3.p.Defs, aA .i64 y3.p.Main, fSl (tSl cO) y3.Envs, fSl (aB .i64) y3.Sizes, fSl (aB .i64) y3.Heads]) (i := 6) rfl rfl ?_
 refine cT ?_
 refine cR (φ := aF dX (⟨(⟨y3.p.Free, y3.p.Nodes, y3.p.Defs, y3.p.Main⟩ : ScopeProg), y3.Envs, y3.Sizes, y3.Heads⟩ : Ref05_Look)) (v := ptr b2) [3, 43, 51, 2] (gI aP.rfl) fz ?_
 refine cT ?_
 cases H
 refine aH [] (by decide) ?_
 exact To
 exact fk
 kernel_rfl
 exact fk
 kernel_rfl
def rE (a0 : Int) : Option (Int) :=
 if a0 = 0 then
  some 1
 else
  if a0 = 1 then
   some 3
  else
   some 4
theorem aBB  (a0 : Int) (r : Int) (H : rE a0 = some r) : FnS Tryz.prog 31 [aA .i64 a0] [] (aA .i64 r) (fun _ => []) := by
 unfold rE at H
 refine bJ Tryz.func31 rfl Tryz.ntmps31 rfl (fun β => ?_)
 refine Z3 ?_
 refine aG ?_
 revert H; refine I8 (fun c1 H => ?_) fun c1 H => ?_
 refine Z7 ?_
 cases H
 exact To
 revert H; refine I5 (fun c2 H => ?_) fun c2 H => ?_
 refine Z7 ?_
 cases H
 exact To
 refine Z8 ?_
 cases H
 exact To
def qA (a0 : Int) (a1 : Int) : Option (Int) :=
 (chk (a0 + a1)).bind fun z1 =>
 some (min z1 2)
theorem zZ  (a0 : Int) (a1 : Int) (r : Int) (H : qA a0 a1 = some r) : FnS Tryz.prog 73 [aA .i64 a0, aA .i64 a1] [] (aA .i64 r) (fun _ => []) := by
 unfold qA at H
 refine bJ Tryz.func73 rfl Tryz.ntmps73 rfl (fun β => ?_)
 revert H; refine B6 fun z1 h1 H => ?_
 refine Z5 ?_
 cases H
 exact To
def nG (a0 : Int) : Option (Int) :=
 if a0 = 1 then
  some 0
 else
  if a0 = 4 then
   some 2
  else
   some 1
theorem uQ  (a0 : Int) (r : Int) (H : nG a0 = some r) : FnS Tryz.prog 86 [aA .i64 a0] [] (aA .i64 r) (fun _ => []) := by
 unfold nG at H
 refine bJ Tryz.func86 rfl Tryz.ntmps86 rfl (fun β => ?_)
 refine Z3 ?_
 refine aG ?_
 revert H; refine I8 (fun c1 H => ?_) fun c1 H => ?_
 refine Z7 ?_
 cases H
 exact To
 revert H; refine I5 (fun c2 H => ?_) fun c2 H => ?_
 refine Z7 ?_
 cases H
 exact To
 refine Z8 ?_
 cases H
 exact To
end Go.Proofs.YtmnbfgeljmhekaaGreat
set_option maxRecDepth 100000
set_option maxHeartbeats 2000000
namespace Go.Proofs.YtmnbfgeljmhekaaGreat
open Go.SX Go.SW Go.Dt
attribute [local irreducible] Code.wpIn wpListIn Exit.then Exit.inBlock
def kV (a1 : List UsageDef) (a3 : Int) (y1 : ScopeNode) (y3 : Ref05_Chan) : Nat → Int → Int → Option (Int)
| 0, _, _ => none
| k + 1, x5, x6 =>
 if x6 < (y1.Args.length : Int) then
  ((idx y1.Args x6).bind fun y6 =>
  if y6.Op ≠ 2 then
   some x5
  else
   (idx y1.Args x6).bind fun y7 =>
   if y7.N ≠ a3 then
    some x5
   else
    if y3.Def < 0 then
     some 2
    else
     (idx a1 y3.Def).bind fun y8 =>
     (idx y8.Args y3.Index).bind fun y9 =>
     (idx y9 x6).bind fun y10 =>
     (nG y10).bind fun y11 =>
     (qA x5 y11).bind fun y12 =>
     some y12).bind fun x7 =>
  (chk (x6 + 1)).bind fun z1 =>
  kV a1 a3 y1 y3 k x7 z1
 else
  some x5
def vJ (fuel : Nat) (a0 : Ref05_Look) (a1 : List UsageDef) (a2 : Int) (a3 : Int) : Option (Int) :=
 (idx a0.p.Nodes a2).bind fun y1 =>
 (idx a0.Envs a2).bind fun y2 =>
 (idx y2 y1.N).bind fun y3 =>
 (if 0 ≤ y3.Def then
  (idx a0.p.Defs y3.Def).bind fun y4 =>
  (idx y4.Chans y3.Index).bind fun y5 =>
  if y5.Many ≠ (y1.Args.length : Int) then
   (some 0).bind fun r => some (Sum.inr r)
  else
   some (Sum.inl ())
 else
  some (Sum.inl ())).bind fun o => match o with
 | Sum.inr r => some r
 | Sum.inl _ =>
 (if y1.N = a3 then
  some 1
 else
  some 0).bind fun x1 =>
 (kV a1 a3 y1 y3 fuel x1 0).bind fun x2 =>
 some x2
theorem aFS (fuel : Nat)  (a0 : Ref05_Look) (a1 : List UsageDef) (a2 : Int) (a3 : Int) (r : Int) (H : vJ fuel a0 a1 a2 a3 = some r) : FnS Tryz.prog 72 [aF dX a0, fSl aX a1, aA .i64 a2, aA .i64 a3] [] (aA .i64 r) (fun _ => []) := by
 unfold vJ at H
 refine bJ Tryz.func72 rfl Tryz.ntmps72 rfl (fun β => ?_)
 revert H; refine B10 fun y1 h1 H => ?_
 refine Z2 ?_
 refine Tn (bZ rfl hZ rfl) fun b1 => ?_
 refine cS (φs' := [aA .i64 y1.Op, aA .i64 y1.N, fSl bD y1.Args, fSl (aB .i64) y1.Kids]) trivial rfl rfl (has rfl) (has rfl) (aJ (aE trivial) (aJ (aE trivial) (aJ (bA) (aJ (bA) bP)))) (sz rfl) rfl rfl rfl ?_
 refine Z1 ?_
 refine aG ?_
 revert H; refine bs fun y2 h2 H => ?_
 revert H; refine bs fun y3 h3 H => ?_
 apply bC (ods := [_, _, _, _, _, _, _, _, _, _, _, _, _]) 13 1 2 bB rfl rfl rfl
 refine ND ?_
 refine M8 ?_
 intros
 refine M3 ?_
 intros
 refine Mn 1 (fun b2 => ptr b2) (fun b2 => aC b2 126 [aA .i64 0, aA .i64 0]) rfl (bZ rfl aCM rfl) (fun b2 u1 => ?_)
 refine oT (od := od1 11 [1] true (fun b2 _ => fAny) (fun b2 _ => [aC b2 126 [aA .i64 y3.Def, aA .i64 y3.Index]])) (p := 1) (φs' := [aA .i64 y3.Def, aA .i64 y3.Index]) rfl (fun _ => rfl) (fun _ => rfl) trivial rfl rfl rfl (has rfl) (has rfl) (aJ (aE trivial) (aJ (aE trivial) bP)) (sz rfl) rfl rfl rfl (fun _ => ?_)
 revert H; refine B2 fun o1 H Hr1 => ?_
 refine aR (ι := Unit) (fun i => o1 = Sum.inl ()) (fun i => [(1, fSl aX a1), (3, aA .i64 a3), (9, fEq (ptr b1)), (10, fEq (ptr b2))]) (fun i => [aC b1 51 [aA .i64 y1.Op, aA .i64 y1.N, fSl bD y1.Args, fSl (aB .i64) y1.Kids], aC b2 126 [aA .i64 y3.Def, aA .i64 y3.Index]]) ?_ ?_
 refine aG ?_
 revert H; refine is (fun c1 H => ?_) fun c1 H => ?_
 revert H; refine bs fun y4 h4 H => ?_
 revert H; refine bs fun y5 h5 H => ?_
 apply bC (ods := [_, _, _, _, _, _, _, _, _, _, _, _, _, _, _, _, _, _, _, _, _, _, _, _]) 24 0 2 bB rfl rfl rfl
 refine ND ?_
 refine M8 ?_
 intros
 refine M8 ?_
 intros
 refine M8 ?_
 intros
 revert H; refine I2 (fun c2 H => ?_) fun c2 H => ?_
 revert H; refine B5 fun r1 H e1 => ?_
 cases e1; cases Hr1
 cases H
 refine aH [] (by decide) ?_
 exact To
 refine Z3 ?_
 exact Tm (()) (ij H)
 exact fk
 kernel_rfl
 apply bC (ods := [_, _, _, _, _, _, _, _, _, _, _, _, _, _, _, _, _, _, _, _, _, _, _, _]) 24 0 2 bB rfl rfl rfl
 refine ND ?_
 refine M8 ?_
 intros
 refine M8 ?_
 intros
 refine M8 ?_
 intros
 refine Z5 ?_
 exact Tm (()) (ij H)
 exact fk
 kernel_rfl
 clear H; intro i hi; subst o1; have H := Hr1; clear Hr1; try dsimp only at H
 try dsimp only
 revert H; refine B3 fun o2 H Hr2 => ?_
 refine aR (ι := Int) (fun i => o2 = i) (fun i => [(1, fSl aX a1), (3, aA .i64 a3), (9, fEq (ptr b1)), (10, fEq (ptr b2)), (11, aA .i64 i)]) (fun i => [aC b1 51 [aA .i64 y1.Op, aA .i64 y1.N, fSl bD y1.Args, fSl (aB .i64) y1.Kids], aC b2 126 [aA .i64 y3.Def, aA .i64 y3.Index]]) ?_ ?_
 revert H; refine I6 (fun c3 H => ?_) fun c3 H => ?_
 refine Z4 ?_
 exact Tm (1) (ij H)
 refine Z3 ?_
 exact Tm (0) (ij H)
 clear H; intro x1 hi; subst o2; have H := Hr2; clear Hr2; try dsimp only at H
 try dsimp only
 revert H; refine bs fun o3 H Hr3 => ?_
 refine aR (ι := Int) (fun i => o3 = i) (fun i => [(11, aA .i64 i)]) (fun i => [aC b1 51 [aA .i64 y1.Op, aA .i64 y1.N, fSl bD y1.Args, fSl (aB .i64) y1.Kids], aC b2 126 [aA .i64 y3.Def, aA .i64 y3.Index]]) ?_ ?_
 refine Z4 ?_
 refine Tl (ι := Nat × Int × Int) (fun i => kV a1 a3 y1 y3 i.1 i.2.1 i.2.2 = _) (fun i => i.1) (fun i => [(1, fSl aX a1), (3, aA .i64 a3), (9, fEq (ptr b1)), (10, fEq (ptr b2)), (11, aA .i64 i.2.1), (12, aA .i64 i.2.2)]) (fun i => [aC b1 51 [aA .i64 y1.Op, aA .i64 y1.N, fSl bD y1.Args, fSl (aB .i64) y1.Kids], aC b2 126 [aA .i64 y3.Def, aA .i64 y3.Index]]) (fuel, x1, 0) H ?_
 clear H; rintro ⟨k1, x5, x6⟩ H
 replace H : kV a1 a3 y1 y3 k1 x5 x6 = _ := H
 try dsimp only
 obtain _ | k1 := k1
 rw [kV] at H; cases H
 rw [kV] at H
 refine aG ?_
 revert H; refine I7 (fun c4 H => ?_) fun c4 H => ?_
 revert H; refine B3 fun o4 H Hr4 => ?_
 refine aR (ι := Int) (fun i => o4 = i) (fun i => [(1, fSl aX a1), (3, aA .i64 a3), (9, fEq (ptr b1)), (10, fEq (ptr b2)), (11, aA .i64 i), (12, aA .i64 x6)]) (fun i => [aC b1 51 [aA .i64 y1.Op, aA .i64 y1.N, fSl bD y1.Args, fSl (aB .i64) y1.Kids], aC b2 126 [aA .i64 y3.Def, aA .i64 y3.Index]]) ?_ ?_
 refine Z1 ?_
 refine aG ?_
 revert H; refine B4 fun y6 h6 H => ?_
 revert H; refine I5 (fun c5 H => ?_) fun c5 H => ?_
 refine Z12 ?_
 refine Z3 ?_
 exact Tm (x5) (ij H)
 revert H; refine B3 fun y7 h7 H => ?_
 revert H; refine I7 (fun c6 H => ?_) fun c6 H => ?_
 refine Z5 ?_
 exact Tm (x5) (ij H)
 revert H; refine I8 (fun c7 H => ?_) fun c7 H => ?_
 refine Z6 ?_
 exact Tm (2) (ij H)
 revert H; refine B1 fun y8 h8 H => ?_
 revert H; refine bs fun y9 h9 H => ?_
 revert H; refine bs fun y10 h10 H => ?_
 revert H; refine bs fun y11 h11 H => ?_
 revert H; refine bs fun y12 h12 H => ?_
 apply bC (ods := [_, _, _, _, _, _, _, _, _, _, _, _, _, _, _, _, _]) 17 0 2 bB rfl rfl rfl
 refine ND ?_
 refine M8 ?_
 intros
 refine M6 ?_
 intros
 refine Nc (uQ _ _ h11) fun _ => ?_
 refine Nc (zZ _ _ _ h12) fun _ => ?_
 refine M1 ?_
 intros
 refine Z4 ?_
 exact Tm (y12) (ij H)
 exact fk
 kernel_rfl
 clear H; intro x7 hi; subst o4; have H := Hr4; clear Hr4; try dsimp only at H
 try dsimp only
 revert H; refine B2 fun z1 h13 H => ?_
 refine Z3 ?_
 exact Tm ((k1, x7, z1)) ⟨H, ls⟩
 refine Z6 ?_
 exact Tm (x5) (ij H)
 clear H; intro x2 hi; subst o3; have H := Hr3; clear Hr3; try dsimp only at H
 try dsimp only
 refine Z5 ?_
 cases H
 refine aH [] (by decide) ?_
 exact To
 exact fk
 kernel_rfl
def vI (a0 : Int) (a1 : Int) : Option (Int) :=
 (chk (a0 * a1)).bind fun z1 =>
 some (min z1 2)
theorem aHP  (a0 : Int) (a1 : Int) (r : Int) (H : vI a0 a1 = some r) : FnS Tryz.prog 94 [aA .i64 a0, aA .i64 a1] [] (aA .i64 r) (fun _ => []) := by
 unfold vI at H
 refine bJ Tryz.func94 rfl Tryz.ntmps94 rfl (fun β => ?_)
 revert H; refine B6 fun z1 h1 H => ?_
 refine Z5 ?_
 cases H
 exact To
def nP (rec_r05_Look_Sends : Ref05_Look → (List UsageDef) → Int → Int → Option (Int)) (a0 : Ref05_Look) (a1 : List UsageDef) (a3 : Int) (y2 : ScopeDef) : Nat → Int → Int → Option (Int)
| 0, _, _ => none
| k + 1, x4, x5 =>
 if x5 < (y2.Spots.length : Int) then
  (idx y2.Spots x5).bind fun y5 =>
  (rec_r05_Look_Sends a0 a1 y5.Node a3).bind fun y6 =>
  (qA x4 y6).bind fun y7 =>
  (chk (x5 + 1)).bind fun z1 =>
  nP rec_r05_Look_Sends a0 a1 a3 y2 k y7 z1
 else
  some x4
def oW (rec_r05_Look_Sends : Ref05_Look → (List UsageDef) → Int → Int → Option (Int)) (a0 : Ref05_Look) (a1 : List UsageDef) (a3 : Int) (y1 : ScopeNode) (y2 : ScopeDef) : Nat → Int → Int → Option (Int)
| 0, _, _ => none
| k + 1, x9, x10 =>
 if x10 < (y2.Rules.length : Int) then
  (idx a1 y1.N).bind fun y8 =>
  (idx y8.Rules x10).bind fun y9 =>
  (nG y9).bind fun y10 =>
  (idx y2.Rules x10).bind fun y11 =>
  (rec_r05_Look_Sends a0 a1 y11.Node a3).bind fun y12 =>
  (vI y10 y12).bind fun y13 =>
  (qA x9 y13).bind fun y14 =>
  (chk (x10 + 1)).bind fun z2 =>
  oW rec_r05_Look_Sends a0 a1 a3 y1 y2 k y14 z2
 else
  some x9
mutual
def fB : Nat → Ref05_Look → (List UsageDef) → Int → Int → Option (Int)
| 0, _, _, _, _ => none
| fuel + 1, a0, a1, a2, a3 =>
 (idx a0.p.Nodes a2).bind fun y1 =>
 if y1.Op = 2 then
  (vJ fuel a0 a1 a2 a3).bind fun y2 =>
  some y2
 else
  if y1.Op = 3 then
   (idx y1.Kids 0).bind fun y3 =>
   ((fB fuel) a0 a1 y3 a3).bind fun y4 =>
   (idx y1.Kids 1).bind fun y5 =>
   ((fB fuel) a0 a1 y5 a3).bind fun y6 =>
   (qA y4 y6).bind fun y7 =>
   some y7
  else
   if y1.Op = 5 then
    (idx y1.Kids 0).bind fun y8 =>
    ((fB fuel) a0 a1 y8 a3).bind fun y9 =>
    (idx y1.Kids 1).bind fun y10 =>
    ((fB fuel) a0 a1 y10 a3).bind fun y11 =>
    some (max y9 y11)
   else
    (if y1.Op = 6 then
     some (decide (y1.Op = 6))
    else
     some (decide (y1.Op = 8))).bind fun x1 =>
    bif x1 then
     (idx y1.Kids 0).bind fun y12 =>
     ((fB fuel) a0 a1 y12 a3).bind fun y13 =>
     some y13
    else
     if y1.Op = 4 then
      ((oK fuel) a0 a1 a2 a3).bind fun y14 =>
      some y14
     else
      some 0
def oK : Nat → Ref05_Look → (List UsageDef) → Int → Int → Option (Int)
| 0, _, _, _, _ => none
| fuel + 1, a0, a1, a2, a3 =>
 (idx a0.p.Nodes a2).bind fun y1 =>
 (idx a0.p.Defs y1.N).bind fun y2 =>
 (idx y1.Kids 0).bind fun y3 =>
 ((fB fuel) a0 a1 y3 a3).bind fun y4 =>
 (nP (fB fuel) a0 a1 a3 y2 fuel y4 0).bind fun x1 =>
 (oW (fB fuel) a0 a1 a3 y1 y2 fuel x1 0).bind fun x6 =>
 some x6
end
theorem aDd : ∀ (fuel : Nat), (∀  (a0 : Ref05_Look) (a1 : List UsageDef) (a2 : Int) (a3 : Int) (r : Int) (H : fB fuel a0 a1 a2 a3 = some r), FnS Tryz.prog 32 [aF dX a0, fSl aX a1, aA .i64 a2, aA .i64 a3] [] (aA .i64 r) (fun _ => [])) ∧ (∀  (a0 : Ref05_Look) (a1 : List UsageDef) (a2 : Int) (a3 : Int) (r : Int) (H : oK fuel a0 a1 a2 a3 = some r), FnS Tryz.prog 74 [aF dX a0, fSl aX a1, aA .i64 a2, aA .i64 a3] [] (aA .i64 r) (fun _ => [])) := by
 intro fuel
 induction fuel with
 | zero => exact ⟨fun a0 a1 a2 a3 r H => (by rw [fB] at H; cases H), fun a0 a1 a2 a3 r H => (by rw [oK] at H; cases H)⟩
 | succ fuel ih =>
 obtain ⟨ih_r05_Look_Sends, ih_r05_Look_Inner⟩ := ih
 refine ⟨?_, ?_⟩
 intro a0 a1 a2 a3 r H
 rw [fB] at H
 refine bJ Tryz.func32 rfl Tryz.ntmps32 rfl (fun β => ?_)
 revert H; refine B10 fun y1 h1 H => ?_
 refine Z2 ?_
 refine Tn (bZ rfl hZ rfl) fun b1 => ?_
 refine cS (φs' := [aA .i64 y1.Op, aA .i64 y1.N, fSl bD y1.Args, fSl (aB .i64) y1.Kids]) trivial rfl rfl (has rfl) (has rfl) (aJ (aE trivial) (aJ (aE trivial) (aJ (bA) (aJ (bA) bP)))) (sz rfl) rfl rfl rfl ?_
 refine Z1 ?_
 refine aG ?_
 revert H; refine I9 (fun c1 H => ?_) fun c1 H => ?_
 revert H; refine B6 fun y2 h2 H => ?_
 refine Tc (aFS _ _ _ _ _ _ h2) ?_
 refine Z5 ?_
 cases H
 refine aH [] (by decide) ?_
 exact To
 revert H; refine I5 (fun c2 H => ?_) fun c2 H => ?_
 refine Z1 ?_
 refine aG ?_
 revert H; refine bs fun y3 h3 H => ?_
 revert H; refine bs fun y4 h4 H => ?_
 revert H; refine bs fun y5 h5 H => ?_
 revert H; refine bs fun y6 h6 H => ?_
 revert H; refine bs fun y7 h7 H => ?_
 apply bC (ods := [_, _, _, _, _, _, _, _, _, _, _, _, _, _, _, _, _, _]) 18 0 1 bB rfl rfl rfl
 refine ND ?_
 refine M7 ?_
 intros
 refine Nc (ih_r05_Look_Sends _ _ _ _ _ h4) fun _ => ?_
 refine M7 ?_
 intros
 refine Nc (ih_r05_Look_Sends _ _ _ _ _ h6) fun _ => ?_
 refine Nc (zZ _ _ _ h7) fun _ => ?_
 refine M1 ?_
 intros
 refine Z5 ?_
 cases H
 refine aH [] (by decide) ?_
 exact To
 exact fk
 kernel_rfl
 revert H; refine I5 (fun c3 H => ?_) fun c3 H => ?_
 refine Z1 ?_
 refine aG ?_
 revert H; refine bs fun y8 h8 H => ?_
 revert H; refine bs fun y9 h9 H => ?_
 revert H; refine bs fun y10 h10 H => ?_
 revert H; refine bs fun y11 h11 H => ?_
 apply bC (ods := [_, _, _, _, _, _, _, _, _, _, _, _, _, _, _, _, _, _]) 18 0 1 bB rfl rfl rfl
 refine ND ?_
 refine M7 ?_
 intros
 refine Nc (ih_r05_Look_Sends _ _ _ _ _ h9) fun _ => ?_
 refine M7 ?_
 intros
 refine Nc (ih_r05_Look_Sends _ _ _ _ _ h11) fun _ => ?_
 refine My (o_max rfl hh hh) fun _ => ?_
 refine M1 ?_
 intros
 refine Z5 ?_
 cases H
 refine aH [] (by decide) ?_
 exact To
 exact fk
 kernel_rfl
 revert H; refine B1 fun o1 H Hr1 => ?_
 refine aR (ι := Bool) (fun i => o1 = i) (fun i => [(0, aF dX a0), (1, fSl aX a1), (2, aA .i64 a2), (3, aA .i64 a3), (9, fEq (ptr b1)), (19, aA .i64 y1.Op), (65, aL i)]) (fun i => [aC b1 51 [aA .i64 y1.Op, aA .i64 y1.N, fSl bD y1.Args, fSl (aB .i64) y1.Kids]]) ?_ ?_
 revert H; refine I4 (fun c4 H => ?_) fun c4 H => ?_
 refine Z3 ?_
 exact Tm (decide (y1.Op = 6)) (ij H)
 refine Z5 ?_
 exact Tm (decide (y1.Op = 8)) (ij H)
 clear H; intro x1 hi; subst o1; have H := Hr1; clear Hr1; try dsimp only at H
 try dsimp only
 revert H; refine cs (fun c5 H => ?_) fun c5 H => ?_
 revert H; refine B6 fun y12 h12 H => ?_
 revert H; refine B3 fun y13 h13 H => ?_
 refine Tc (ih_r05_Look_Sends _ _ _ _ _ h13) ?_
 refine Z5 ?_
 cases H
 refine aH [] (by decide) ?_
 exact To
 revert H; refine I5 (fun c6 H => ?_) fun c6 H => ?_
 revert H; refine B6 fun y14 h14 H => ?_
 refine Tc (ih_r05_Look_Inner _ _ _ _ _ h14) ?_
 refine Z5 ?_
 cases H
 refine aH [] (by decide) ?_
 exact To
 refine Z8 ?_
 cases H
 refine aH [] (by decide) ?_
 exact To
 intro a0 a1 a2 a3 r H
 rw [oK] at H
 refine bJ Tryz.func74 rfl Tryz.ntmps74 rfl (fun β => ?_)
 revert H; refine B10 fun y1 h1 H => ?_
 refine Z2 ?_
 refine Tn (bZ rfl hZ rfl) fun b1 => ?_
 refine cS (φs' := [aA .i64 y1.Op, aA .i64 y1.N, fSl bD y1.Args, fSl (aB .i64) y1.Kids]) trivial rfl rfl (has rfl) (has rfl) (aJ (aE trivial) (aJ (aE trivial) (aJ (bA) (aJ (bA) bP)))) (sz rfl) rfl rfl rfl ?_
 refine Z1 ?_
 refine aG ?_
 revert H; refine bs fun y2 h2 H => ?_
 apply bC (ods := [_, _, _, _, _, _, _, _, _, _, _]) 11 1 2 bB rfl rfl rfl
 refine ND ?_
 refine M8 ?_
 intros
 refine M1 ?_
 intros
 refine Mn 1 (fun b2 => ptr b2) (fun b2 => aC b2 99 [fEq (.slice none 0 0), fEq (.slice none 0 0), fEq (.slice none 0 0)]) rfl (bZ rfl jD rfl) (fun b2 u1 => ?_)
 refine oT (od := od1 9 [1] true (fun b2 _ => fAny) (fun b2 _ => [aC b2 99 [fSl aU y2.Chans, fSl bH y2.Spots, fSl aZ y2.Rules]])) (p := 1) (φs' := [fSl aU y2.Chans, fSl bH y2.Spots, fSl aZ y2.Rules]) rfl (fun _ => rfl) (fun _ => rfl) trivial rfl rfl rfl (has rfl) (has rfl) (aJ (bA) (aJ (bA) (aJ (bA) bP))) (sz rfl) rfl rfl rfl (fun _ => ?_)
 revert H; refine B7 fun y3 h3 H => ?_
 revert H; refine B3 fun y4 h4 H => ?_
 refine Tc (ih_r05_Look_Sends _ _ _ _ _ h4) ?_
 revert H; refine B2 fun o1 H Hr1 => ?_
 refine aR (ι := Int) (fun i => o1 = i) (fun i => [(0, aF dX a0), (1, fSl aX a1), (3, aA .i64 a3), (9, fEq (ptr b1)), (10, fEq (ptr b2)), (11, aA .i64 i)]) (fun i => [aC b1 51 [aA .i64 y1.Op, aA .i64 y1.N, fSl bD y1.Args, fSl (aB .i64) y1.Kids], aC b2 99 [fSl aU y2.Chans, fSl bH y2.Spots, fSl aZ y2.Rules]]) ?_ ?_
 refine Z4 ?_
 refine Tl (ι := Nat × Int × Int) (fun i => nP (fB fuel) a0 a1 a3 y2 i.1 i.2.1 i.2.2 = _) (fun i => i.1) (fun i => [(0, aF dX a0), (1, fSl aX a1), (3, aA .i64 a3), (9, fEq (ptr b1)), (10, fEq (ptr b2)), (11, aA .i64 i.2.1), (12, aA .i64 i.2.2)]) (fun i => [aC b1 51 [aA .i64 y1.Op, aA .i64 y1.N, fSl bD y1.Args, fSl (aB .i64) y1.Kids], aC b2 99 [fSl aU y2.Chans, fSl bH y2.Spots, fSl aZ y2.Rules]]) (fuel, y4, 0) H ?_
 clear H; rintro ⟨k1, x4, x5⟩ H
 replace H : nP (fB fuel) a0 a1 a3 y2 k1 x4 x5 = _ := H
 try dsimp only
 obtain _ | k1 := k1
 rw [nP] at H; cases H
 rw [nP] at H
 refine aG ?_
 revert H; refine I7 (fun c1 H => ?_) fun c1 H => ?_
 refine Z3 ?_
 refine aG ?_
 revert H; refine B8 fun y5 h5 H => ?_
 revert H; refine B4 fun y6 h6 H => ?_
 refine Tc (ih_r05_Look_Sends _ _ _ _ _ h6) ?_
 revert H; refine bs fun y7 h7 H => ?_
 refine Tc (zZ _ _ _ h7) ?_
 revert H; refine B6 fun z1 h8 H => ?_
 refine Z3 ?_
 exact Tm ((k1, y7, z1)) ⟨H, ls⟩
 refine Z6 ?_
 exact Tm (x4) (ij H)
 clear H; intro x1 hi; subst o1; have H := Hr1; clear Hr1; try dsimp only at H
 try dsimp only
 revert H; refine bs fun o2 H Hr2 => ?_
 refine aR (ι := Int) (fun i => o2 = i) (fun i => [(11, aA .i64 i)]) (fun i => [aC b1 51 [aA .i64 y1.Op, aA .i64 y1.N, fSl bD y1.Args, fSl (aB .i64) y1.Kids], aC b2 99 [fSl aU y2.Chans, fSl bH y2.Spots, fSl aZ y2.Rules]]) ?_ ?_
 refine Z4 ?_
 refine Tl (ι := Nat × Int × Int) (fun i => oW (fB fuel) a0 a1 a3 y1 y2 i.1 i.2.1 i.2.2 = _) (fun i => i.1) (fun i => [(0, aF dX a0), (1, fSl aX a1), (3, aA .i64 a3), (9, fEq (ptr b1)), (10, fEq (ptr b2)), (11, aA .i64 i.2.1), (13, aA .i64 i.2.2)]) (fun i => [aC b1 51 [aA .i64 y1.Op, aA .i64 y1.N, fSl bD y1.Args, fSl (aB .i64) y1.Kids], aC b2 99 [fSl aU y2.Chans, fSl bH y2.Spots, fSl aZ y2.Rules]]) (fuel, x1, 0) H ?_
 clear H; rintro ⟨k2, x9, x10⟩ H
 replace H : oW (fB fuel) a0 a1 a3 y1 y2 k2 x9 x10 = _ := H
 try dsimp only
 obtain _ | k2 := k2
 rw [oW] at H; cases H
 rw [oW] at H
 refine aG ?_
 revert H; refine I7 (fun c2 H => ?_) fun c2 H => ?_
 refine Z3 ?_
 refine aG ?_
 revert H; refine B1 fun y8 h9 H => ?_
 revert H; refine bs fun y9 h10 H => ?_
 revert H; refine bs fun y10 h11 H => ?_
 revert H; refine bs fun y11 h12 H => ?_
 revert H; refine bs fun y12 h13 H => ?_
 revert H; refine bs fun y13 h14 H => ?_
 revert H; refine bs fun y14 h15 H => ?_
 apply bC (ods := [_, _, _, _, _, _, _, _, _, _, _, _, _, _, _, _, _, _, _, _, _, _, _, _]) 24 0 2 bB rfl rfl rfl
 refine ND ?_
 refine M8 ?_
 intros
 refine M2 ?_
 intros
 refine Nc (uQ _ _ h11) fun _ => ?_
 refine M8 ?_
 intros
 refine M1 ?_
 intros
 refine Nc (ih_r05_Look_Sends _ _ _ _ _ h13) fun _ => ?_
 refine Nc (aHP _ _ _ h14) fun _ => ?_
 refine Nc (zZ _ _ _ h15) fun _ => ?_
 refine M1 ?_
 intros
 revert H; refine B6 fun z2 h16 H => ?_
 refine Z3 ?_
 exact Tm ((k2, y14, z2)) ⟨H, ls⟩
 exact fk
 kernel_rfl
 refine Z6 ?_
 exact Tm (x9) (ij H)
 clear H; intro x6 hi; subst o2; have H := Hr2; clear Hr2; try dsimp only at H
 try dsimp only
 refine Z5 ?_
 cases H
 refine aH [] (by decide) ?_
 exact To
 exact fk
 kernel_rfl
theorem aGH (fuel : Nat)  (a0 : Ref05_Look) (a1 : List UsageDef) (a2 : Int) (a3 : Int) (r : Int) (H : fB fuel a0 a1 a2 a3 = some r) : FnS Tryz.prog 32 [aF dX a0, fSl aX a1, aA .i64 a2, aA .i64 a3] [] (aA .i64 r) (fun _ => []) := (aDd fuel).1 a0 a1 a2 a3 r H
theorem aHm (fuel : Nat)  (a0 : Ref05_Look) (a1 : List UsageDef) (a2 : Int) (a3 : Int) (r : Int) (H : oK fuel a0 a1 a2 a3 = some r) : FnS Tryz.prog 74 [aF dX a0, fSl aX a1, aA .i64 a2, aA .i64 a3] [] (aA .i64 r) (fun _ => []) := (aDd fuel).2 a0 a1 a2 a3 r H
end Go.Proofs.YtmnbfgeljmhekaaGreat
