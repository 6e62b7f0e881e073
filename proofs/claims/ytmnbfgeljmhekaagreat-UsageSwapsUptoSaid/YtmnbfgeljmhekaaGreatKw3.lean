/- Parts of the proof: lemmas, and the steps through the program. -/
import Derived.Test.YtmnbfgeljmhekaaGreatKw2
set_option linter.unusedVariables false
set_option linter.unusedSimpArgs false
set_option maxRecDepth 100000
set_option maxHeartbeats 2000000
namespace Go.Proofs.YtmnbfgeljmhekaaGreat
open Go.SX Go.SW Go.Dt
attribute [local irreducible] Code.wpIn wpListIn Exit.then Exit.inBlock
def lY (fuel : Nat) (y2 : Usage_text) (x2 : Int) (y6 : UsageDef) : Nat → Int → Option ((Unit) ⊕ ((Unit) ⊕ (Bool × Int)))
| 0, _ => none
| k + 1, x4 =>
 if x4 < (y6.Chans.length : Int) then
  ((idx y6.Chans x4).bind fun y7 =>
  if y7 = 2 then
   (idx y2.heads x2).bind fun y8 =>
   (qU y2 x2 x4).bind fun y9 =>
   (lM fuel y2 y8 y9).bind fun y10 =>
   if y10 ≠ 1 then
    (((some (false, 0)).bind fun r => some (Sum.inr r)).bind fun r => some (Sum.inr r)).bind fun r => some (Sum.inr r)
   else
    some (Sum.inl ())
  else
   some (Sum.inl ())).bind fun o => match o with
  | Sum.inr r => some r
  | Sum.inl _ =>
  (chk (x4 + 1)).bind fun z1 =>
  lY fuel y2 x2 y6 k z1
 else
  some (Sum.inl ())
def lB (fuel : Nat) (a1 : List UsageDef) (y2 : Usage_text) : Nat → Int → Option ((Unit) ⊕ (Bool × Int))
| 0, _ => none
| k + 1, x2 =>
 if x2 < (a1.length : Int) then
  ((idx a1 x2).bind fun y6 =>
  lY fuel y2 x2 y6 fuel 0).bind fun o => match o with
  | Sum.inr r => some r
  | Sum.inl _ =>
  (chk (x2 + 1)).bind fun z2 =>
  lB fuel a1 y2 k z2
 else
  some (Sum.inl ())
def qY (fuel : Nat) (a0 : ScopeProg) (a1 : List UsageDef) : Option (Bool × Int) :=
 (sJ fuel (⟨a0.Free, a0.Nodes, a0.Defs, a0.Main⟩ : ScopeProg)).bind fun y1 =>
 if y1 ≠ 0 then
  some (false, 2)
 else
  (oF fuel (⟨a0.Free, a0.Nodes, a0.Defs, a0.Main⟩ : ScopeProg)).bind fun y2 =>
  (uH fuel y2 a1).bind fun y3 =>
  bif y3 then
   (sS fuel y2 a1).bind fun y4 =>
   (pU fuel a1 y4 (fun x => sR x.1 x.2.1 x.2.2)).bind fun y5 =>
   bif y5 then
    (lB fuel a1 y2 fuel 0).bind fun o => match o with
    | Sum.inr r => some r
    | Sum.inl _ =>
    some (true, 0)
   else
    some (false, 0)
  else
   some (false, 2)
theorem aA7 (fuel : Nat)  (a0 : ScopeProg) (a1 : List UsageDef) (r : Bool × Int) (H : qY fuel a0 a1 = some r) : FnS Tryz.prog 17 [fSt dO a0, fSl bC a1] [] (dG [aI r.1, aA .i64 r.2]) (fun _ => []) := by
 unfold qY at H
 refine bD Tryz.func17 rfl Tryz.ntmps17 rfl (fun β => ?_)
 refine Z1 ?_
 refine Tn (cF rfl (has rfl) bQ) fun b1 => ?_
 refine Z3 ?_
 refine aH ?_
 revert H; refine B2 fun y1 h1 H => ?_
 refine Tc (aB7 _ _ _ h1) ?_
 revert H; refine I2 (fun c1 H => ?_) fun c1 H => ?_
 refine Z6 ?_
 cases H
 refine aG [] (by decide) ?_
 exact gM rfl (bO rfl) (bO rfl) rfl
 revert H; refine B5 fun y2 h2 H => ?_
 refine Tc (aB5 _ _ _ h2) ?_
 refine Z2 ?_
 refine aH ?_
 revert H; refine B3 fun y3 h3 H => ?_
 refine Tc (aFn _ _ _ _ h3) ?_
 refine Z2 ?_
 revert H; refine cs (fun c2 H => ?_) fun c2 H => ?_
 refine Z3 ?_
 refine aH ?_
 revert H; refine B4 fun y4 h4 H => ?_
 refine gS trivial rfl rfl rfl (has rfl) (aK.cons (has rfl) (aK.cons (has rfl) aK.nil)) rfl (cb rfl) (aIn fuel y2 a1 y4 h4) rfl ?_
 revert H; refine bs fun y5 h5 H => ?_
 refine gS trivial rfl rfl rfl (has rfl) (aK.cons (has rfl) (aK.cons (has rfl) (aK.cons (dA rfl (oI (cb rfl) (fun x r hx => aIo x.1 x.2.1 x.2.2 r hx))) aK.nil))) rfl (cb rfl) (aCN fuel a1 y4 (fun x => sR x.1 x.2.1 x.2.2) y5 h5) rfl ?_
 refine Z2 ?_
 revert H; refine cs (fun c3 H => ?_) fun c3 H => ?_
 revert H; refine B3 fun o1 H Hr1 => ?_
 refine aW (ι := Unit) (fun i => o1 = Sum.inl ()) (fun i => []) (fun i => [aC b1 26 [fSl aM a0.Free, fSl aL a0.Nodes, fSl aJ a0.Defs, aA .i64 a0.Main]]) ?_ ?_
 refine Z6 ?_
 refine Tl (ι := Nat × Int) (fun i => lB fuel a1 y2 i.1 i.2 = _) (fun i => i.1) (fun i => [(1, fSl bC a1), (6, aF bJ y2), (26, aA .i64 (a1.length : Int)), (27, aA .i64 i.2)]) (fun i => [aC b1 26 [fSl aM a0.Free, fSl aL a0.Nodes, fSl aJ a0.Defs, aA .i64 a0.Main]]) (fuel, 0) H ?_
 clear H; rintro ⟨k1, x2⟩ H
 replace H : lB fuel a1 y2 k1 x2 = _ := H
 try dsimp only
 obtain _ | k1 := k1
 rw [lB] at H; cases H
 rw [lB] at H
 refine Z3 ?_
 refine aH ?_
 revert H; refine is (fun c4 H => ?_) fun c4 H => ?_
 revert H; refine B3 fun o2 H Hr2 => ?_
 refine aW (ι := Unit) (fun i => o2 = Sum.inl ()) (fun i => [(1, fSl bC a1), (6, aF bJ y2), (26, aA .i64 (a1.length : Int)), (27, aA .i64 x2)]) (fun i => [aC b1 26 [fSl aM a0.Free, fSl aL a0.Nodes, fSl aJ a0.Defs, aA .i64 a0.Main]]) ?_ ?_
 revert H; refine B8 fun y6 h6 H => ?_
 refine Z7 ?_
 refine Tl (ι := Nat × Int) (fun i => lY fuel y2 x2 y6 i.1 i.2 = _) (fun i => i.1) (fun i => [(1, fSl bC a1), (6, aF bJ y2), (26, aA .i64 (a1.length : Int)), (27, aA .i64 x2), (7, aA .i64 x2), (34, fSl (aB .i64) y6.Chans), (35, aA .i64 (y6.Chans.length : Int)), (36, aA .i64 i.2)]) (fun i => [aC b1 26 [fSl aM a0.Free, fSl aL a0.Nodes, fSl aJ a0.Defs, aA .i64 a0.Main]]) (fuel, 0) H ?_
 clear H; rintro ⟨k2, x4⟩ H
 replace H : lY fuel y2 x2 y6 k2 x4 = _ := H
 try dsimp only
 obtain _ | k2 := k2
 rw [lY] at H; cases H
 rw [lY] at H
 refine Z3 ?_
 refine aH ?_
 revert H; refine is (fun c5 H => ?_) fun c5 H => ?_
 revert H; refine B3 fun o3 H Hr3 => ?_
 refine aW (ι := Unit) (fun i => o3 = Sum.inl ()) (fun i => [(1, fSl bC a1), (6, aF bJ y2), (26, aA .i64 (a1.length : Int)), (27, aA .i64 x2), (7, aA .i64 x2), (34, fSl (aB .i64) y6.Chans), (35, aA .i64 (y6.Chans.length : Int)), (36, aA .i64 x4)]) (fun i => [aC b1 26 [fSl aM a0.Free, fSl aL a0.Nodes, fSl aJ a0.Defs, aA .i64 a0.Main]]) ?_ ?_
 revert H; refine B3 fun y7 h7 H => ?_
 refine Z5 ?_
 refine aH ?_
 revert H; refine is (fun c6 H => ?_) fun c6 H => ?_
 revert H; refine bs fun y8 h8 H => ?_
 revert H; refine bs fun y9 h9 H => ?_
 revert H; refine bs fun y10 h10 H => ?_
 apply bH (ods := [_, _, _, _, _, _, _, _, _, _, _, _, _, _, _, _, _, _]) 18 0 1 bG rfl rfl rfl
 refine ND ?_
 refine M8 ?_
 intros
 refine M6 ?_
 intros
 refine Nc (aAq _ _ _ _ h9) fun _ => ?_
 refine Nc (aD3 _ _ _ _ _ h10) fun _ => ?_
 refine M2 ?_
 intros
 revert H; refine I2 (fun c7 H => ?_) fun c7 H => ?_
 revert H; refine B8 fun r1 H e1 => ?_
 cases e1; cases Hr3
 revert H; refine B4 fun r2 H e2 => ?_
 cases e2; cases Hr2
 revert H; refine B3 fun r3 H e3 => ?_
 cases e3; cases Hr1
 cases H
 refine aG [] (by decide) ?_
 exact gM rfl (bO rfl) (bO rfl) rfl
 refine Z4 ?_
 exact Tm (()) (ij H)
 exact fk
 kernel_rfl
 apply bH (ods := [_, _, _, _, _, _, _, _, _, _, _, _, _, _, _, _, _, _]) 18 0 1 bG rfl rfl rfl
 refine ND ?_
 refine M8 ?_
 intros
 refine M8 ?_
 intros
 refine M2 ?_
 intros
 refine Z6 ?_
 exact Tm (()) (ij H)
 exact fk
 kernel_rfl
 clear H; intro i hi; subst o3; have H := Hr3; clear Hr3; try dsimp only at H
 try dsimp only
 revert H; refine B1 fun z1 h11 H => ?_
 refine Z3 ?_
 exact Tm ((k2, z1)) ⟨H, ls⟩
 refine Z7 ?_
 exact Tm (()) (ij H)
 clear H; intro i hi; subst o2; have H := Hr2; clear Hr2; try dsimp only at H
 try dsimp only
 revert H; refine B1 fun z2 h12 H => ?_
 refine Z3 ?_
 exact Tm ((k1, z2)) ⟨H, ls⟩
 refine Z6 ?_
 exact Tm (()) (ij H)
 clear H; intro i hi; subst o1; have H := Hr1; clear Hr1; try dsimp only at H
 try dsimp only
 refine Z5 ?_
 cases H
 refine aG [] (by decide) ?_
 exact gM rfl (bO rfl) (bO rfl) rfl
 refine Z6 ?_
 cases H
 refine aG [] (by decide) ?_
 exact gM rfl (bO rfl) (bO rfl) rfl
 refine Z6 ?_
 cases H
 refine aG [] (by decide) ?_
 exact gM rfl (bO rfl) (bO rfl) rfl
def zF (a0 : Int) : Option (List ScopeExp) :=
 some [(⟨1, a0, []⟩ : ScopeExp)]
theorem aFk  (a0 : Int) (r : List ScopeExp) (H : zF a0 = some r) : FnS Tryz.prog 61 [aA .i64 a0] [] (fSl bA r) (fun _ => []) := by
 unfold zF at H
 refine bD Tryz.func61 rfl Tryz.ntmps61 rfl (fun β => ?_)
 refine Z5 ?_
 refine Yy (dV (ψs := [aA .i64 1, aA .i64 a0, fEq (.slice none 0 0)]) rfl aFw rfl (aV.cons (has rfl) (aT (aD trivial)) (aV.cons (has rfl) (aT (aD trivial)) aV.nil)) rfl) ?_
 refine Tn (cM (t := bA) (xs := [(⟨1, a0, []⟩ : ScopeExp)]) rfl (et rfl) (aS.cons rfl (dA rfl (hE (aN.cons Ent.rfl (aN.cons Ent.rfl (aN.cons (aGg eG) aN.nil))))) bQ aS.nil) rfl rfl rfl) fun b1 => ?_
 generalize (Value.slice (some ⟨b1, 0, none⟩) _ _) = v1
 refine aR 0 rfl (fun hc_v1 => ?_)
 refine Z3 ?_
 refine cR (φ := fSl bA [(⟨1, a0, []⟩ : ScopeExp)]) (v := v1) [2, 5] cO fz ?_
 refine cS ?_
 cases H
 exact To
def uR (a0 : List Int) : Nat → (List ScopeExp) → Int → Option (List ScopeExp)
| 0, _, _ => none
| k + 1, x4, x5 =>
 if x5 < (a0.length : Int) then
  (idx a0 x5).bind fun y1 =>
  (dN (x4 ++ [(⟨2, y1, []⟩ : ScopeExp)])).bind fun z1 =>
  (chk (x5 + 1)).bind fun z2 =>
  uR a0 k z1 z2
 else
  some x4
def tT (fuel : Nat) (a0 : List Int) : Option (List ScopeExp) :=
 (uR a0 fuel [] 0).bind fun x1 =>
 some x1
theorem aA2 (fuel : Nat)  (a0 : List Int) (r : List ScopeExp) (H : tT fuel a0 = some r) : FnS Tryz.prog 62 [fSl (aB .i64) a0] [] (fSl bA r) (fun _ => []) := by
 unfold tT at H
 refine bD Tryz.func62 rfl Tryz.ntmps62 rfl (fun β => ?_)
 revert H; refine B6 fun o1 H Hr1 => ?_
 refine aW (ι := List ScopeExp × Value) (fun i => o1 = i.1) (fun i => [(3, fEq i.2)]) (fun i => [aE i.2 56 bA i.1]) ?_ ?_
 refine Z4 ?_
 refine qL bA 56 ?_
 refine Tl (ι := Nat × List ScopeExp × Int × Value) (fun i => uR a0 i.1 i.2.1 i.2.2.1 = _) (fun i => i.1) (fun i => [(0, fSl (aB .i64) a0), (3, fEq i.2.2.2), (4, aA .i64 i.2.2.1)]) (fun i => [aE i.2.2.2 56 bA i.2.1]) (fuel, [], 0, (.slice none 0 0)) H ?_
 clear H; rintro ⟨k1, x4, x5, v3⟩ H
 replace H : uR a0 k1 x4 x5 = _ := H
 try dsimp only
 obtain _ | k1 := k1
 rw [uR] at H; cases H
 rw [uR] at H
 refine aR 0 rfl (fun hc_v3 => ?_)
 refine aH ?_
 revert H; refine I6 (fun c1 H => ?_) fun c1 H => ?_
 refine Z3 ?_
 refine aH ?_
 revert H; refine B5 fun y1 h1 H => ?_
 refine Z2 ?_
 refine Yy (dV (ψs := [aA .i64 2, aA .i64 y1, fEq (.slice none 0 0)]) rfl aFw rfl (aV.cons (has rfl) (aT (aD trivial)) (aV.cons (has rfl) (aT (aD trivial)) aV.nil)) rfl) ?_
 refine Tn (cM (t := bA) (xs := [(⟨2, y1, []⟩ : ScopeExp)]) rfl (et rfl) (aS.cons rfl (dA rfl (hE (aN.cons Ent.rfl (aN.cons Ent.rfl (aN.cons (aGg eG) aN.nil))))) bQ aS.nil) rfl rfl rfl) fun b1 => ?_
 generalize (Value.slice (some ⟨b1, 0, none⟩) _ _) = v4
 refine aR 0 rfl (fun hc_v4 => ?_)
 revert H; refine bs fun z1 h2 H => ?_
 refine aBD trivial rfl rfl rfl (has rfl) (has rfl) (et rfl) rfl h2 (fun v5 => ?_)
 refine aR 0 rfl (fun hc_v5 => ?_)
 revert H; refine B6 fun z2 h3 H => ?_
 refine Z3 ?_
 exact Tm ((k1, z1, z2, v5)) ⟨H, ls⟩
 refine Z6 ?_
 exact Tm ((x4, v3)) (ij H)
 clear H; intro i hi; obtain ⟨x1, v1⟩ := i; subst o1; have H := Hr1; clear Hr1; try dsimp only at H
 try dsimp only
 refine aR 0 rfl (fun hc_v1 => ?_)
 refine Z5 ?_
 refine cR (φ := fSl bA x1) (v := v1) [3, 19, 2] cO fz ?_
 refine cS ?_
 cases H
 exact To
def aBE (fuel : Nat)  : Option (ScopeProg) :=
 (zF 1).bind fun y1 =>
 (zF 2).bind fun y2 =>
 (tT fuel [5]).bind fun y3 =>
 (tT fuel [0]).bind fun y4 =>
 (tT fuel [1]).bind fun y5 =>
 (tT fuel [0]).bind fun y6 =>
 some (⟨[{ data := #[111, 117, 116] }], [(⟨4, 0, [], [5]⟩ : ScopeNode), (⟨3, 0, [], [2, 3]⟩ : ScopeNode), (⟨2, 4, y1, []⟩ : ScopeNode), (⟨2, 4, y2, []⟩ : ScopeNode), (⟨2, 4, y3, []⟩ : ScopeNode), (⟨3, 0, [], [6, 7]⟩ : ScopeNode), (⟨2, 2, y4, []⟩ : ScopeNode), (⟨3, 0, [], [8, 9]⟩ : ScopeNode), (⟨2, 3, y5, []⟩ : ScopeNode), (⟨4, 1, [], [11]⟩ : ScopeNode), (⟨2, 1, y6, []⟩ : ScopeNode), (⟨2, 4, [], []⟩ : ScopeNode)], [(⟨[(⟨0, 1⟩ : ScopeChan), (⟨0, 1⟩ : ScopeChan), (⟨0, 1⟩ : ScopeChan)], [], [(⟨0, [0], 1⟩ : ScopeRule), (⟨0, [1, 2], 4⟩ : ScopeRule)]⟩ : ScopeDef), (⟨[(⟨0, 0⟩ : ScopeChan)], [], [(⟨0, [0], 10⟩ : ScopeRule)]⟩ : ScopeDef)], 0⟩ : ScopeProg)
theorem aH3 (fuel : Nat)   (r : ScopeProg) (H : aBE fuel = some r) : FnS Tryz.prog 23 [] [] (fSt dO r) (fun _ => []) := by
 unfold aBE at H
 refine bD Tryz.func23 rfl Tryz.ntmps23 rfl (fun β => ?_)
 refine Z1 ?_
 refine Tn (cK rfl aAE rfl) fun b1 => ?_
 refine Z2 ?_
 refine Yy (dV (ψs := [aA .i64 0, aA .i64 1]) rfl aAt rfl (aV.cons (has rfl) (aT (aD trivial)) aV.nil) rfl) ?_
 refine Yy (dV (ψs := [aA .i64 0, aA .i64 1]) rfl aAt rfl (aV.cons (has rfl) (aT (aD trivial)) aV.nil) rfl) ?_
 refine Yy (dV (ψs := [aA .i64 0, aA .i64 1]) rfl aAt rfl (aV.cons (has rfl) (aT (aD trivial)) aV.nil) rfl) ?_
 refine Tn (cM (t := bF) (xs := [(⟨0, 1⟩ : ScopeChan), (⟨0, 1⟩ : ScopeChan), (⟨0, 1⟩ : ScopeChan)]) rfl (et rfl) (aS.cons rfl (has rfl) bQ (aS.cons rfl (has rfl) bQ (aS.cons rfl (has rfl) bQ aS.nil))) rfl rfl rfl) fun b2 => ?_
 generalize (Value.slice (some ⟨b2, 0, none⟩) _ _) = v1
 refine aR 0 rfl (fun hc_v1 => ?_)
 refine Tn (cM (t := (aB .i64)) (xs := [0]) rfl (et rfl) (aS.cons rfl (has rfl) (aT (aD trivial)) aS.nil) rfl rfl rfl) fun b3 => ?_
 generalize (Value.slice (some ⟨b3, 0, none⟩) _ _) = v2
 refine aR 0 rfl (fun hc_v2 => ?_)
 refine Yy (dV (ψs := [aA .i64 0, fEq v2, aA .i64 1]) rfl aCI rfl (aV.cons (has rfl) (aT (aD hc_v2)) (aV.cons (has rfl) (aT (aD trivial)) aV.nil)) rfl) ?_
 refine Tn (cM (t := (aB .i64)) (xs := [1, 2]) rfl (et rfl) (aS.cons rfl (has rfl) (aT (aD trivial)) (aS.cons rfl (has rfl) (aT (aD trivial)) aS.nil)) rfl rfl rfl) fun b4 => ?_
 generalize (Value.slice (some ⟨b4, 0, none⟩) _ _) = v3
 refine aR 0 rfl (fun hc_v3 => ?_)
 refine Yy (dV (ψs := [aA .i64 0, fEq v3, aA .i64 4]) rfl aCI rfl (aV.cons (has rfl) (aT (aD hc_v3)) (aV.cons (has rfl) (aT (aD trivial)) aV.nil)) rfl) ?_
 refine dH ?_
 refine cR (φ := fSl (aB .i64) [0]) (v := v2) [7] cO fz ?_
 refine sN 8 (ψ := eY [aA .i64 0, fEq v2, aA .i64 1]) rfl (rY (i := 1) (φs := [aA .i64 0, fEq v2, aA .i64 1]) (φs' := [aA .i64 0, fSl (aB .i64) [0], aA .i64 1]) rfl rfl) ?_
 refine cS ?_
 refine cR (φ := fSl (aB .i64) [1, 2]) (v := v3) [9] cO fz ?_
 refine sN 10 (ψ := eY [aA .i64 0, fEq v3, aA .i64 4]) rfl (rY (i := 1) (φs := [aA .i64 0, fEq v3, aA .i64 4]) (φs' := [aA .i64 0, fSl (aB .i64) [1, 2], aA .i64 4]) rfl rfl) ?_
 refine cS ?_
 refine Tn (cM (t := bK) (xs := [(⟨0, [0], 1⟩ : ScopeRule), (⟨0, [1, 2], 4⟩ : ScopeRule)]) rfl (et rfl) (aS.cons rfl (has rfl) bQ (aS.cons rfl (has rfl) bQ aS.nil)) rfl rfl rfl) fun b5 => ?_
 generalize (Value.slice (some ⟨b5, 0, none⟩) _ _) = v4
 refine aR 0 rfl (fun hc_v4 => ?_)
 refine Yy (dV (ψs := [fEq v1, fEq (.slice none 0 0), fEq v4]) rfl aE8 rfl (aV.cons (has rfl) (aT (aD hc_v1)) (aV.cons (has rfl) (aT (aD hc_v4)) aV.nil)) rfl) ?_
 refine Tn (cK rfl tB rfl) fun b6 => ?_
 refine dM (φs' := [fEq v1, fEq (.slice none 0 0), fEq v4]) trivial rfl rfl (has rfl) (has rfl) (aO (aD hc_v1) (aO (aD trivial) (aO (aD hc_v4) bX))) (sz rfl) rfl rfl rfl ?_
 refine Z2 ?_
 refine Yy (dV (ψs := [aA .i64 0, aA .i64 0]) rfl aAt rfl aV.nil rfl) ?_
 refine Tn (cM (t := bF) (xs := [(⟨0, 0⟩ : ScopeChan)]) rfl (et rfl) (aS.cons rfl (has rfl) bQ aS.nil) rfl rfl rfl) fun b7 => ?_
 generalize (Value.slice (some ⟨b7, 0, none⟩) _ _) = v5
 refine aR 0 rfl (fun hc_v5 => ?_)
 refine Tn (cM (t := (aB .i64)) (xs := [0]) rfl (et rfl) (aS.cons rfl (has rfl) (aT (aD trivial)) aS.nil) rfl rfl rfl) fun b8 => ?_
 generalize (Value.slice (some ⟨b8, 0, none⟩) _ _) = v6
 refine aR 0 rfl (fun hc_v6 => ?_)
 refine Yy (dV (ψs := [aA .i64 0, fEq v6, aA .i64 10]) rfl aCI rfl (aV.cons (has rfl) (aT (aD hc_v6)) (aV.cons (has rfl) (aT (aD trivial)) aV.nil)) rfl) ?_
 refine cR (φ := fSl (aB .i64) [0]) (v := v6) [15] cO fz ?_
 refine sN 16 (ψ := eY [aA .i64 0, fEq v6, aA .i64 10]) rfl (rY (i := 1) (φs := [aA .i64 0, fEq v6, aA .i64 10]) (φs' := [aA .i64 0, fSl (aB .i64) [0], aA .i64 10]) rfl rfl) ?_
 refine cS ?_
 refine Tn (cM (t := bK) (xs := [(⟨0, [0], 10⟩ : ScopeRule)]) rfl (et rfl) (aS.cons rfl (has rfl) bQ aS.nil) rfl rfl rfl) fun b9 => ?_
 generalize (Value.slice (some ⟨b9, 0, none⟩) _ _) = v7
 refine aR 0 rfl (fun hc_v7 => ?_)
 refine Yy (dV (ψs := [fEq v5, fEq (.slice none 0 0), fEq v7]) rfl aE8 rfl (aV.cons (has rfl) (aT (aD hc_v5)) (aV.cons (has rfl) (aT (aD hc_v7)) aV.nil)) rfl) ?_
 refine Tn (cK rfl tB rfl) fun b10 => ?_
 refine dM (φs' := [fEq v5, fEq (.slice none 0 0), fEq v7]) trivial rfl rfl (has rfl) (has rfl) (aO (aD hc_v5) (aO (aD trivial) (aO (aD hc_v7) bX))) (sz rfl) rfl rfl rfl ?_
 refine Z1 ?_
 refine aH ?_
 refine nG ?_
 refine cR (φ := fSl bF [(⟨0, 1⟩ : ScopeChan), (⟨0, 1⟩ : ScopeChan), (⟨0, 1⟩ : ScopeChan)]) (v := v1) [6] cO fz ?_
 refine bM ?_
 refine dH ?_
 refine hC (φs' := [fSl bF [(⟨0, 1⟩ : ScopeChan), (⟨0, 1⟩ : ScopeChan), (⟨0, 1⟩ : ScopeChan)], fEq (.slice none 0 0), fEq v4]) (i := 0) rfl rfl ?_
 refine sN 12 (ψ := eY [fEq v1, fEq (.slice none 0 0), fEq v4]) rfl (rY (i := 0) (φs := [fEq v1, fEq (.slice none 0 0), fEq v4]) (φs' := [fSl bF [(⟨0, 1⟩ : ScopeChan), (⟨0, 1⟩ : ScopeChan), (⟨0, 1⟩ : ScopeChan)], fEq (.slice none 0 0), fEq v4]) rfl rfl) ?_
 refine cS ?_
 refine bM ?_
 refine cR (φ := fSl bK [(⟨0, [0], 1⟩ : ScopeRule), (⟨0, [1, 2], 4⟩ : ScopeRule)]) (v := v4) [11] cO fz ?_
 refine hC (φs' := [fSl bF [(⟨0, 1⟩ : ScopeChan), (⟨0, 1⟩ : ScopeChan), (⟨0, 1⟩ : ScopeChan)], fEq (.slice none 0 0), fSl bK [(⟨0, [0], 1⟩ : ScopeRule), (⟨0, [1, 2], 4⟩ : ScopeRule)]]) (i := 2) rfl rfl ?_
 refine sN 12 (ψ := eY [fSl bF [(⟨0, 1⟩ : ScopeChan), (⟨0, 1⟩ : ScopeChan), (⟨0, 1⟩ : ScopeChan)], fEq (.slice none 0 0), fEq v4]) rfl (rY (i := 2) (φs := [fSl bF [(⟨0, 1⟩ : ScopeChan), (⟨0, 1⟩ : ScopeChan), (⟨0, 1⟩ : ScopeChan)], fEq (.slice none 0 0), fEq v4]) (φs' := [fSl bF [(⟨0, 1⟩ : ScopeChan), (⟨0, 1⟩ : ScopeChan), (⟨0, 1⟩ : ScopeChan)], fEq (.slice none 0 0), fSl bK [(⟨0, [0], 1⟩ : ScopeRule), (⟨0, [1, 2], 4⟩ : ScopeRule)]]) rfl rfl) ?_
 refine cS ?_
 refine eF ?_
 refine cR (φ := fSl bF [(⟨0, 0⟩ : ScopeChan)]) (v := v5) [14] cO fz ?_
 refine eH ?_
 refine dH ?_
 refine hC (φs' := [fSl bF [(⟨0, 0⟩ : ScopeChan)], fEq (.slice none 0 0), fEq v7]) (i := 0) rfl rfl ?_
 refine sN 18 (ψ := eY [fEq v5, fEq (.slice none 0 0), fEq v7]) rfl (rY (i := 0) (φs := [fEq v5, fEq (.slice none 0 0), fEq v7]) (φs' := [fSl bF [(⟨0, 0⟩ : ScopeChan)], fEq (.slice none 0 0), fEq v7]) rfl rfl) ?_
 refine cS ?_
 refine eH ?_
 refine cR (φ := fSl bK [(⟨0, [0], 10⟩ : ScopeRule)]) (v := v7) [17] cO fz ?_
 refine hC (φs' := [fSl bF [(⟨0, 0⟩ : ScopeChan)], fEq (.slice none 0 0), fSl bK [(⟨0, [0], 10⟩ : ScopeRule)]]) (i := 2) rfl rfl ?_
 refine sN 18 (ψ := eY [fSl bF [(⟨0, 0⟩ : ScopeChan)], fEq (.slice none 0 0), fEq v7]) rfl (rY (i := 2) (φs := [fSl bF [(⟨0, 0⟩ : ScopeChan)], fEq (.slice none 0 0), fEq v7]) (φs' := [fSl bF [(⟨0, 0⟩ : ScopeChan)], fEq (.slice none 0 0), fSl bK [(⟨0, [0], 10⟩ : ScopeRule)]]) rfl rfl) ?_
 refine cS ?_
 revert H; refine bs fun y1 h1 H => ?_
 revert H; refine bs fun y2 h2 H => ?_
 revert H; refine bs fun y3 h3 H => ?_
 revert H; refine bs fun y4 h4 H => ?_
 revert H; refine bs fun y5 h5 H => ?_
 revert H; refine bs fun y6 h6 H => ?_
 apply bH (ods := [_, _, _, _, _, _, _, _, _, _, _, _, _, _, _, _, _, _, _, _, _, _, _, _, _, _, _, _, _, _, _, _, _, _]) 34 0 3 bG rfl rfl rfl
 refine ND ?_
 refine Mf (φ := fSl aM [{ data := #[111, 117, 116] }]) (cM (t := aM) (xs := [{ data := #[111, 117, 116] }]) rfl (et rfl) (aS.cons rfl (has rfl) (aT (aD trivial)) aS.nil) rfl rfl rfl) (fun b => cO) fun _ => ?_
 refine M2 ?_
 intros
 refine Mf (φ := fSl aJ [(⟨[(⟨0, 1⟩ : ScopeChan), (⟨0, 1⟩ : ScopeChan), (⟨0, 1⟩ : ScopeChan)], [], [(⟨0, [0], 1⟩ : ScopeRule), (⟨0, [1, 2], 4⟩ : ScopeRule)]⟩ : ScopeDef), (⟨[(⟨0, 0⟩ : ScopeChan)], [], [(⟨0, [0], 10⟩ : ScopeRule)]⟩ : ScopeDef)]) (cM (t := aJ) (xs := [(⟨[(⟨0, 1⟩ : ScopeChan), (⟨0, 1⟩ : ScopeChan), (⟨0, 1⟩ : ScopeChan)], [], [(⟨0, [0], 1⟩ : ScopeRule), (⟨0, [1, 2], 4⟩ : ScopeRule)]⟩ : ScopeDef), (⟨[(⟨0, 0⟩ : ScopeChan)], [], [(⟨0, [0], 10⟩ : ScopeRule)]⟩ : ScopeDef)]) rfl (et rfl) (aS.cons rfl (dA rfl (hE (aN.cons Ent.rfl (aN.cons eG (aN.cons Ent.rfl aN.nil))))) bQ (aS.cons rfl (dA rfl (hE (aN.cons Ent.rfl (aN.cons eG (aN.cons Ent.rfl aN.nil))))) bQ aS.nil)) rfl rfl rfl) (fun b => cO) fun _ => ?_
 refine Mf (φ := fSl (aB .i64) [5]) (cM (t := (aB .i64)) (xs := [5]) rfl (et rfl) (aS.cons rfl (has rfl) (aT (aD trivial)) aS.nil) rfl rfl rfl) (fun b => cO) fun _ => ?_
 refine My (dV (ψs := [aA .i64 4, aA .i64 0, fEq (.slice none 0 0), fSl (aB .i64) [5]]) rfl kQ rfl (aV.cons (has rfl) (aT (aD trivial)) (aV.cons (has rfl) (aT (aZ)) aV.nil)) rfl) fun _ => ?_
 refine Mf (φ := fSl (aB .i64) [2, 3]) (cM (t := (aB .i64)) (xs := [2, 3]) rfl (et rfl) (aS.cons rfl (has rfl) (aT (aD trivial)) (aS.cons rfl (has rfl) (aT (aD trivial)) aS.nil)) rfl rfl rfl) (fun b => cO) fun _ => ?_
 refine My (dV (ψs := [aA .i64 3, aA .i64 0, fEq (.slice none 0 0), fSl (aB .i64) [2, 3]]) rfl kQ rfl (aV.cons (has rfl) (aT (aD trivial)) (aV.cons (has rfl) (aT (aZ)) aV.nil)) rfl) fun _ => ?_
 refine Nc (aFk _ _ h1) fun _ => ?_
 refine My (dV (ψs := [aA .i64 2, aA .i64 4, fSl bA y1, fEq (.slice none 0 0)]) rfl kQ rfl (aV.cons (has rfl) (aT (aD trivial)) (aV.cons (has rfl) (aT (aD trivial)) (aV.cons (has rfl) (aT (aZ)) aV.nil))) rfl) fun _ => ?_
 refine Nc (aFk _ _ h2) fun _ => ?_
 refine My (dV (ψs := [aA .i64 2, aA .i64 4, fSl bA y2, fEq (.slice none 0 0)]) rfl kQ rfl (aV.cons (has rfl) (aT (aD trivial)) (aV.cons (has rfl) (aT (aD trivial)) (aV.cons (has rfl) (aT (aZ)) aV.nil))) rfl) fun _ => ?_
 refine Mf (φ := fSl (aB .i64) [5]) (cM (t := (aB .i64)) (xs := [5]) rfl (et rfl) (aS.cons rfl (has rfl) (aT (aD trivial)) aS.nil) rfl rfl rfl) (fun b => cO) fun _ => ?_
 refine Nc (aA2 _ _ _ h3) fun _ => ?_
 refine My (dV (ψs := [aA .i64 2, aA .i64 4, fSl bA y3, fEq (.slice none 0 0)]) rfl kQ rfl (aV.cons (has rfl) (aT (aD trivial)) (aV.cons (has rfl) (aT (aD trivial)) (aV.cons (has rfl) (aT (aZ)) aV.nil))) rfl) fun _ => ?_
 refine Mf (φ := fSl (aB .i64) [6, 7]) (cM (t := (aB .i64)) (xs := [6, 7]) rfl (et rfl) (aS.cons rfl (has rfl) (aT (aD trivial)) (aS.cons rfl (has rfl) (aT (aD trivial)) aS.nil)) rfl rfl rfl) (fun b => cO) fun _ => ?_
 refine My (dV (ψs := [aA .i64 3, aA .i64 0, fEq (.slice none 0 0), fSl (aB .i64) [6, 7]]) rfl kQ rfl (aV.cons (has rfl) (aT (aD trivial)) (aV.cons (has rfl) (aT (aZ)) aV.nil)) rfl) fun _ => ?_
 refine Mf (φ := fSl (aB .i64) [0]) (cM (t := (aB .i64)) (xs := [0]) rfl (et rfl) (aS.cons rfl (has rfl) (aT (aD trivial)) aS.nil) rfl rfl rfl) (fun b => cO) fun _ => ?_
 refine Nc (aA2 _ _ _ h4) fun _ => ?_
 refine My (dV (ψs := [aA .i64 2, aA .i64 2, fSl bA y4, fEq (.slice none 0 0)]) rfl kQ rfl (aV.cons (has rfl) (aT (aD trivial)) (aV.cons (has rfl) (aT (aD trivial)) (aV.cons (has rfl) (aT (aZ)) aV.nil))) rfl) fun _ => ?_
 refine Mf (φ := fSl (aB .i64) [8, 9]) (cM (t := (aB .i64)) (xs := [8, 9]) rfl (et rfl) (aS.cons rfl (has rfl) (aT (aD trivial)) (aS.cons rfl (has rfl) (aT (aD trivial)) aS.nil)) rfl rfl rfl) (fun b => cO) fun _ => ?_
 refine My (dV (ψs := [aA .i64 3, aA .i64 0, fEq (.slice none 0 0), fSl (aB .i64) [8, 9]]) rfl kQ rfl (aV.cons (has rfl) (aT (aD trivial)) (aV.cons (has rfl) (aT (aZ)) aV.nil)) rfl) fun _ => ?_
 refine Mf (φ := fSl (aB .i64) [1]) (cM (t := (aB .i64)) (xs := [1]) rfl (et rfl) (aS.cons rfl (has rfl) (aT (aD trivial)) aS.nil) rfl rfl rfl) (fun b => cO) fun _ => ?_
 refine Nc (aA2 _ _ _ h5) fun _ => ?_
 refine My (dV (ψs := [aA .i64 2, aA .i64 3, fSl bA y5, fEq (.slice none 0 0)]) rfl kQ rfl (aV.cons (has rfl) (aT (aD trivial)) (aV.cons (has rfl) (aT (aD trivial)) (aV.cons (has rfl) (aT (aZ)) aV.nil))) rfl) fun _ => ?_
 refine Mf (φ := fSl (aB .i64) [11]) (cM (t := (aB .i64)) (xs := [11]) rfl (et rfl) (aS.cons rfl (has rfl) (aT (aD trivial)) aS.nil) rfl rfl rfl) (fun b => cO) fun _ => ?_
 refine My (dV (ψs := [aA .i64 4, aA .i64 1, fEq (.slice none 0 0), fSl (aB .i64) [11]]) rfl kQ rfl (aV.cons (has rfl) (aT (aD trivial)) (aV.cons (has rfl) (aT (aD trivial)) (aV.cons (has rfl) (aT (aZ)) aV.nil))) rfl) fun _ => ?_
 refine Mf (φ := fSl (aB .i64) [0]) (cM (t := (aB .i64)) (xs := [0]) rfl (et rfl) (aS.cons rfl (has rfl) (aT (aD trivial)) aS.nil) rfl rfl rfl) (fun b => cO) fun _ => ?_
 refine Nc (aA2 _ _ _ h6) fun _ => ?_
 refine My (dV (ψs := [aA .i64 2, aA .i64 1, fSl bA y6, fEq (.slice none 0 0)]) rfl kQ rfl (aV.cons (has rfl) (aT (aD trivial)) (aV.cons (has rfl) (aT (aD trivial)) (aV.cons (has rfl) (aT (aZ)) aV.nil))) rfl) fun _ => ?_
 refine My (dV (ψs := [aA .i64 2, aA .i64 4, fEq (.slice none 0 0), fEq (.slice none 0 0)]) rfl kQ rfl (aV.cons (has rfl) (aT (aD trivial)) (aV.cons (has rfl) (aT (aD trivial)) aV.nil)) rfl) fun _ => ?_
 refine Mf (φ := fSl aL [(⟨4, 0, [], [5]⟩ : ScopeNode), (⟨3, 0, [], [2, 3]⟩ : ScopeNode), (⟨2, 4, y1, []⟩ : ScopeNode), (⟨2, 4, y2, []⟩ : ScopeNode), (⟨2, 4, y3, []⟩ : ScopeNode), (⟨3, 0, [], [6, 7]⟩ : ScopeNode), (⟨2, 2, y4, []⟩ : ScopeNode), (⟨3, 0, [], [8, 9]⟩ : ScopeNode), (⟨2, 3, y5, []⟩ : ScopeNode), (⟨4, 1, [], [11]⟩ : ScopeNode), (⟨2, 1, y6, []⟩ : ScopeNode), (⟨2, 4, [], []⟩ : ScopeNode)]) (cM (t := aL) (xs := [(⟨4, 0, [], [5]⟩ : ScopeNode), (⟨3, 0, [], [2, 3]⟩ : ScopeNode), (⟨2, 4, y1, []⟩ : ScopeNode), (⟨2, 4, y2, []⟩ : ScopeNode), (⟨2, 4, y3, []⟩ : ScopeNode), (⟨3, 0, [], [6, 7]⟩ : ScopeNode), (⟨2, 2, y4, []⟩ : ScopeNode), (⟨3, 0, [], [8, 9]⟩ : ScopeNode), (⟨2, 3, y5, []⟩ : ScopeNode), (⟨4, 1, [], [11]⟩ : ScopeNode), (⟨2, 1, y6, []⟩ : ScopeNode), (⟨2, 4, [], []⟩ : ScopeNode)]) rfl (et rfl) (aS.cons rfl (dA rfl (hE (aN.cons Ent.rfl (aN.cons Ent.rfl (aN.cons eG (aN.cons Ent.rfl aN.nil)))))) bQ (aS.cons rfl (dA rfl (hE (aN.cons Ent.rfl (aN.cons Ent.rfl (aN.cons eG (aN.cons Ent.rfl aN.nil)))))) bQ (aS.cons rfl (dA rfl (hE (aN.cons Ent.rfl (aN.cons Ent.rfl (aN.cons Ent.rfl (aN.cons eG aN.nil)))))) bQ (aS.cons rfl (dA rfl (hE (aN.cons Ent.rfl (aN.cons Ent.rfl (aN.cons Ent.rfl (aN.cons eG aN.nil)))))) bQ (aS.cons rfl (dA rfl (hE (aN.cons Ent.rfl (aN.cons Ent.rfl (aN.cons Ent.rfl (aN.cons eG aN.nil)))))) bQ (aS.cons rfl (dA rfl (hE (aN.cons Ent.rfl (aN.cons Ent.rfl (aN.cons eG (aN.cons Ent.rfl aN.nil)))))) bQ (aS.cons rfl (dA rfl (hE (aN.cons Ent.rfl (aN.cons Ent.rfl (aN.cons Ent.rfl (aN.cons eG aN.nil)))))) bQ (aS.cons rfl (dA rfl (hE (aN.cons Ent.rfl (aN.cons Ent.rfl (aN.cons eG (aN.cons Ent.rfl aN.nil)))))) bQ (aS.cons rfl (dA rfl (hE (aN.cons Ent.rfl (aN.cons Ent.rfl (aN.cons Ent.rfl (aN.cons eG aN.nil)))))) bQ (aS.cons rfl (dA rfl (hE (aN.cons Ent.rfl (aN.cons Ent.rfl (aN.cons eG (aN.cons Ent.rfl aN.nil)))))) bQ (aS.cons rfl (dA rfl (hE (aN.cons Ent.rfl (aN.cons Ent.rfl (aN.cons Ent.rfl (aN.cons eG aN.nil)))))) bQ (aS.cons rfl (dA rfl (hE (aN.cons Ent.rfl (aN.cons Ent.rfl (aN.cons eG (aN.cons eG aN.nil)))))) bQ aS.nil)))))))))))) rfl rfl rfl) (fun b => cO) fun _ => ?_
 refine My (dV (ψs := [fSl aM [{ data := #[111, 117, 116] }], fSl aL [(⟨4, 0, [], [5]⟩ : ScopeNode), (⟨3, 0, [], [2, 3]⟩ : ScopeNode), (⟨2, 4, y1, []⟩ : ScopeNode), (⟨2, 4, y2, []⟩ : ScopeNode), (⟨2, 4, y3, []⟩ : ScopeNode), (⟨3, 0, [], [6, 7]⟩ : ScopeNode), (⟨2, 2, y4, []⟩ : ScopeNode), (⟨3, 0, [], [8, 9]⟩ : ScopeNode), (⟨2, 3, y5, []⟩ : ScopeNode), (⟨4, 1, [], [11]⟩ : ScopeNode), (⟨2, 1, y6, []⟩ : ScopeNode), (⟨2, 4, [], []⟩ : ScopeNode)], fSl aJ [(⟨[(⟨0, 1⟩ : ScopeChan), (⟨0, 1⟩ : ScopeChan), (⟨0, 1⟩ : ScopeChan)], [], [(⟨0, [0], 1⟩ : ScopeRule), (⟨0, [1, 2], 4⟩ : ScopeRule)]⟩ : ScopeDef), (⟨[(⟨0, 0⟩ : ScopeChan)], [], [(⟨0, [0], 10⟩ : ScopeRule)]⟩ : ScopeDef)], aA .i64 0]) rfl ty_bu_26 rfl (aV.cons (has rfl) (aT (aZ)) (aV.cons (has rfl) (aT (aZ)) (aV.cons (has rfl) (aT (aZ)) aV.nil))) rfl) fun _ => ?_
 refine wF (od := odC [2] true (fAny) [aC b1 26 [fSl aM [{ data := #[111, 117, 116] }], fSl aL [(⟨4, 0, [], [5]⟩ : ScopeNode), (⟨3, 0, [], [2, 3]⟩ : ScopeNode), (⟨2, 4, y1, []⟩ : ScopeNode), (⟨2, 4, y2, []⟩ : ScopeNode), (⟨2, 4, y3, []⟩ : ScopeNode), (⟨3, 0, [], [6, 7]⟩ : ScopeNode), (⟨2, 2, y4, []⟩ : ScopeNode), (⟨3, 0, [], [8, 9]⟩ : ScopeNode), (⟨2, 3, y5, []⟩ : ScopeNode), (⟨4, 1, [], [11]⟩ : ScopeNode), (⟨2, 1, y6, []⟩ : ScopeNode), (⟨2, 4, [], []⟩ : ScopeNode)], fSl aJ [(⟨[(⟨0, 1⟩ : ScopeChan), (⟨0, 1⟩ : ScopeChan), (⟨0, 1⟩ : ScopeChan)], [], [(⟨0, [0], 1⟩ : ScopeRule), (⟨0, [1, 2], 4⟩ : ScopeRule)]⟩ : ScopeDef), (⟨[(⟨0, 0⟩ : ScopeChan)], [], [(⟨0, [0], 10⟩ : ScopeRule)]⟩ : ScopeDef)], aA .i64 0]]) (p := 2) (φs' := [fSl aM [{ data := #[111, 117, 116] }], fSl aL [(⟨4, 0, [], [5]⟩ : ScopeNode), (⟨3, 0, [], [2, 3]⟩ : ScopeNode), (⟨2, 4, y1, []⟩ : ScopeNode), (⟨2, 4, y2, []⟩ : ScopeNode), (⟨2, 4, y3, []⟩ : ScopeNode), (⟨3, 0, [], [6, 7]⟩ : ScopeNode), (⟨2, 2, y4, []⟩ : ScopeNode), (⟨3, 0, [], [8, 9]⟩ : ScopeNode), (⟨2, 3, y5, []⟩ : ScopeNode), (⟨4, 1, [], [11]⟩ : ScopeNode), (⟨2, 1, y6, []⟩ : ScopeNode), (⟨2, 4, [], []⟩ : ScopeNode)], fSl aJ [(⟨[(⟨0, 1⟩ : ScopeChan), (⟨0, 1⟩ : ScopeChan), (⟨0, 1⟩ : ScopeChan)], [], [(⟨0, [0], 1⟩ : ScopeRule), (⟨0, [1, 2], 4⟩ : ScopeRule)]⟩ : ScopeDef), (⟨[(⟨0, 0⟩ : ScopeChan)], [], [(⟨0, [0], 10⟩ : ScopeRule)]⟩ : ScopeDef)], aA .i64 0]) rfl (fun _ => rfl) (fun _ => rfl) trivial rfl rfl rfl (has rfl) (has rfl) (aO (aZ) (aO (aZ) (aO (aZ) (aO (aD trivial) bX)))) (sz rfl) rfl rfl rfl (fun _ => ?_)
 refine Z3 ?_
 cases H
 refine aG [2] (by decide) ?_
 exact T_outCS rfl (ag rfl) rfl (bO rfl) Ent.rfl rfl
 exact fk
 kernel_rfl
def sV  : Option (List UsageDef) :=
 some ([(⟨[4, 2, 2], [4, 3], ([[4], [3], [4]] : List (List Int))⟩ : UsageDef), (⟨[2], [3], ([([] : List Int)] : List (List Int))⟩ : UsageDef)] : List UsageDef)
theorem aBp   (r : List UsageDef) (H : sV = some r) : FnS Tryz.prog 24 [] [] fAny (fun v => [(fun v => bL v 61 dI r) v]) := by
 unfold sV at H
 refine bD Tryz.func24 rfl Tryz.ntmps24 rfl (fun β => ?_)
 refine Z12 ?_
 refine Z4 ?_
 refine Tn (cM (t := (aB .i64)) (xs := [4, 2, 2]) rfl (et rfl) (aS.cons rfl (has rfl) (aT (aD trivial)) (aS.cons rfl (has rfl) (aT (aD trivial)) (aS.cons rfl (has rfl) (aT (aD trivial)) aS.nil))) rfl rfl rfl) fun b1 => ?_
 generalize (Value.slice (some ⟨b1, 0, none⟩) _ _) = v1
 refine aR 0 rfl (fun hc_v1 => ?_)
 refine Z2 ?_
 refine Tn (cM (t := (aB .i64)) (xs := [4, 3]) rfl (et rfl) (aS.cons rfl (has rfl) (aT (aD trivial)) (aS.cons rfl (has rfl) (aT (aD trivial)) aS.nil)) rfl rfl rfl) fun b2 => ?_
 generalize (Value.slice (some ⟨b2, 0, none⟩) _ _) = v2
 refine aR 0 rfl (fun hc_v2 => ?_)
 refine Z1 ?_
 refine Tn (cM (t := (aB .i64)) (xs := [4]) rfl (et rfl) (aS.cons rfl (has rfl) (aT (aD trivial)) aS.nil) rfl rfl rfl) fun b3 => ?_
 generalize (Value.slice (some ⟨b3, 0, none⟩) _ _) = v3
 refine aR 0 rfl (fun hc_v3 => ?_)
 refine Z1 ?_
 refine Tn (cM (t := (aB .i64)) (xs := [3]) rfl (et rfl) (aS.cons rfl (has rfl) (aT (aD trivial)) aS.nil) rfl rfl rfl) fun b4 => ?_
 generalize (Value.slice (some ⟨b4, 0, none⟩) _ _) = v4
 refine aR 0 rfl (fun hc_v4 => ?_)
 refine Z1 ?_
 refine Tn (cM (t := (aB .i64)) (xs := [4]) rfl (et rfl) (aS.cons rfl (has rfl) (aT (aD trivial)) aS.nil) rfl rfl rfl) fun b5 => ?_
 generalize (Value.slice (some ⟨b5, 0, none⟩) _ _) = v5
 refine aR 0 rfl (fun hc_v5 => ?_)
 refine Tn (cM (t := tF 1) (xs := [[⟨fEq v3, aD hc_v3⟩], [⟨fEq v4, aD hc_v4⟩], [⟨fEq v5, aD hc_v5⟩]]) rfl (et rfl) (aS.cons rfl (has rfl) (aT (aD hc_v3)) (aS.cons rfl (has rfl) (aT (aD hc_v4)) (aS.cons rfl (has rfl) (aT (aD hc_v5)) aS.nil))) rfl rfl rfl) fun b6 => ?_
 generalize (Value.slice (some ⟨b6, 0, none⟩) _ _) = v6
 refine rD ?_
 refine eF ?_
 refine gR (p := 0) (f := (fun v => aE v 30 (aB .i64) [4])) (hf := (fun _ => dK)) rfl Ent.rfl ?_
 refine eH ?_
 refine gR (p := 1) (f := (fun v => aE v 30 (aB .i64) [3])) (hf := (fun _ => dK)) rfl Ent.rfl ?_
 refine dH ?_
 refine gR (p := 2) (f := (fun v => aE v 30 (aB .i64) [4])) (hf := (fun _ => dK)) rfl Ent.rfl ?_
 refine pQ (o := (cL 30 (aB .i64))) (xs := ([[4], [3], [4]] : List (List Int))) rfl rfl rfl ?_
 refine eB 0 rfl (fun hc_v6 => ?_)
 refine Yy (dV (ψs := [fEq v1, fEq v2, fEq v6]) rfl aCV rfl (aV.cons (has rfl) (aT (aD hc_v1)) (aV.cons (has rfl) (aT (aD hc_v2)) (aV.cons (has rfl) (aT (aD hc_v6)) aV.nil))) rfl) ?_
 refine Z1 ?_
 refine Tn (cM (t := (aB .i64)) (xs := [2]) rfl (et rfl) (aS.cons rfl (has rfl) (aT (aD trivial)) aS.nil) rfl rfl rfl) fun b7 => ?_
 generalize (Value.slice (some ⟨b7, 0, none⟩) _ _) = v7
 refine aR 0 rfl (fun hc_v7 => ?_)
 refine Z1 ?_
 refine Tn (cM (t := (aB .i64)) (xs := [3]) rfl (et rfl) (aS.cons rfl (has rfl) (aT (aD trivial)) aS.nil) rfl rfl rfl) fun b8 => ?_
 generalize (Value.slice (some ⟨b8, 0, none⟩) _ _) = v8
 refine aR 0 rfl (fun hc_v8 => ?_)
 refine Tn (cM (t := (aB .i64)) (xs := ([] : List Int)) rfl (et rfl) aS.nil rfl rfl rfl) fun b9 => ?_
 generalize (Value.slice (some ⟨b9, 0, none⟩) _ _) = v9
 refine aR 0 rfl (fun hc_v9 => ?_)
 refine Tn (cM (t := tF 1) (xs := [[⟨fEq v9, aD hc_v9⟩]]) rfl (et rfl) (aS.cons rfl (has rfl) (aT (aD hc_v9)) aS.nil) rfl rfl rfl) fun b10 => ?_
 generalize (Value.slice (some ⟨b10, 0, none⟩) _ _) = v10
 refine rD ?_
 refine dH ?_
 refine gR (p := 0) (f := (fun v => aE v 30 (aB .i64) ([] : List Int))) (hf := (fun _ => dK)) rfl Ent.rfl ?_
 refine pQ (o := (cL 30 (aB .i64))) (xs := ([([] : List Int)] : List (List Int))) rfl rfl rfl ?_
 refine eB 0 rfl (fun hc_v10 => ?_)
 refine Yy (dV (ψs := [fEq v7, fEq v8, fEq v10]) rfl aCV rfl (aV.cons (has rfl) (aT (aD hc_v7)) (aV.cons (has rfl) (aT (aD hc_v8)) (aV.cons (has rfl) (aT (aD hc_v10)) aV.nil))) rfl) ?_
 refine Tn (cM (t := tF 3) (xs := [[⟨fEq v1, aD hc_v1⟩, ⟨fEq v2, aD hc_v2⟩, ⟨fEq v6, aD hc_v6⟩], [⟨fEq v7, aD hc_v7⟩, ⟨fEq v8, aD hc_v8⟩, ⟨fEq v10, aD hc_v10⟩]]) rfl (et rfl) (aS.cons rfl (has rfl) bQ (aS.cons rfl (has rfl) bQ aS.nil)) rfl rfl rfl) fun b11 => ?_
 generalize (Value.slice (some ⟨b11, 0, none⟩) _ _) = v11
 refine rD ?_
 refine mU ?_
 refine gR (p := 0) (f := (fun v => aE v 30 (aB .i64) [4, 2, 2])) (hf := (fun _ => dK)) rfl Ent.rfl ?_
 refine nG ?_
 refine gR (p := 1) (f := (fun v => aE v 30 (aB .i64) [4, 3])) (hf := (fun _ => dK)) rfl Ent.rfl ?_
 refine bM ?_
 refine gR (p := 2) (f := (fun v => bL v 58 (cL 30 (aB .i64)) ([[4], [3], [4]] : List (List Int)))) (hf := (fun _ => jG)) rfl Ent.rfl ?_
 refine eF ?_
 refine gR (p := 3) (f := (fun v => aE v 30 (aB .i64) [2])) (hf := (fun _ => dK)) rfl Ent.rfl ?_
 refine eH ?_
 refine gR (p := 4) (f := (fun v => aE v 30 (aB .i64) [3])) (hf := (fun _ => dK)) rfl Ent.rfl ?_
 refine dH ?_
 refine gR (p := 5) (f := (fun v => bL v 58 (cL 30 (aB .i64)) ([([] : List Int)] : List (List Int)))) (hf := (fun _ => jG)) rfl Ent.rfl ?_
 refine pQ (o := dI) (xs := ([(⟨[4, 2, 2], [4, 3], ([[4], [3], [4]] : List (List Int))⟩ : UsageDef), (⟨[2], [3], ([([] : List Int)] : List (List Int))⟩ : UsageDef)] : List UsageDef)) rfl rfl rfl ?_
 refine eB 0 rfl (fun hc_v11 => ?_)
 refine Z3 ?_
 cases H
 exact nM rfl (bO rfl) (fun _ _ _ => trivial) rfl
theorem aFh   (r : List UsageDef) (H : sV = some r) : FnS Tryz.prog 24 [] [] (fSl bC r) (fun _ => []) := (aBp r H).frz (fun v => (lI rfl qA))
def uX (fuel : Nat)  : Option (Bool) :=
 (aBE fuel).bind fun y1 =>
 (qT fuel (⟨y1.Free, y1.Nodes, y1.Defs, y1.Main⟩ : ScopeProg)).bind fun y2 =>
 (sV).bind fun y3 =>
 (qY fuel (⟨y1.Free, y1.Nodes, y1.Defs, y1.Main⟩ : ScopeProg) y3).bind fun y4 =>
 (sV).bind fun y5 =>
 (aB3 fuel (⟨y1.Free, y1.Nodes, y1.Defs, y1.Main⟩ : ScopeProg) y5 7 1).bind fun y6 =>
 (aB0 fuel (⟨y1.Free, y1.Nodes, y1.Defs, y1.Main⟩ : ScopeProg) 5 3).bind fun y7 =>
 if y2.2 ≠ 0 then
  some false
 else
  if y4.2 ≠ 0 then
   some false
  else
   if y6.2 ≠ 0 then
    some false
   else
    if y7.2 ≠ 0 then
     some false
    else
     bif !y4.1 then
      some false
     else
      (sV).bind fun y8 =>
      (wG fuel y2.1 y8).bind fun y9 =>
      bif !y9 then
       some false
      else
       if y6.1 ≠ 4 then
        some false
       else
        if y7.1 ≠ 1 then
         some false
        else
         (sV).bind fun y10 =>
         (idx y10 0).bind fun y11 =>
         (idx y11.Args 2).bind fun y12 =>
         (idx y12 0).bind fun y13 =>
         (qY fuel (⟨y1.Free, y1.Nodes, y1.Defs, y1.Main⟩ : ScopeProg) (y10.set ((0 : Int).toNat) ({ y11 with Args := y11.Args.set ((2 : Int).toNat) (y12.set ((0 : Int).toNat) 3) }))).bind fun y14 =>
         (idx (y10.set ((0 : Int).toNat) ({ y11 with Args := y11.Args.set ((2 : Int).toNat) (y12.set ((0 : Int).toNat) 3) })) 0).bind fun y15 =>
         (idx y15.Args 2).bind fun y16 =>
         (idx y16 0).bind fun y17 =>
         (qY fuel (⟨y1.Free, y1.Nodes, y1.Defs, y1.Main⟩ : ScopeProg) ((y10.set ((0 : Int).toNat) ({ y11 with Args := y11.Args.set ((2 : Int).toNat) (y12.set ((0 : Int).toNat) 3) })).set ((0 : Int).toNat) ({ y15 with Args := y15.Args.set ((2 : Int).toNat) (y16.set ((0 : Int).toNat) 2) }))).bind fun y18 =>
         (if y14.2 = 0 then
          bif !y14.1 then
           some (decide (y18.2 = 2))
          else
           some false
         else
          some false).bind fun x1 =>
         some x1
theorem aDR (fuel : Nat)   (r : Bool) (H : uX fuel = some r) : FnS Tryz.prog 9 [] [] (aI r) (fun _ => []) := by
 unfold uX at H
 refine bD Tryz.func9 rfl Tryz.ntmps9 rfl (fun β => ?_)
 revert H; refine B4 fun y1 h1 H => ?_
 refine Tc (aH3 _ _ h1) ?_
 refine Tn (cK rfl aAE rfl) fun b1 => ?_
 refine dM (φs' := [fSl aM y1.Free, fSl aL y1.Nodes, fSl aJ y1.Defs, aA .i64 y1.Main]) trivial rfl rfl (has rfl) (has rfl) (aO (aZ) (aO (aZ) (aO (aZ) (aO (aD trivial) bX)))) (sz rfl) rfl rfl rfl ?_
 revert H; refine B3 fun y2 h2 H => ?_
 refine gS trivial rfl rfl rfl (has rfl) (aK.cons (has rfl) aK.nil) rfl (cb rfl) (aB2 fuel (⟨y1.Free, y1.Nodes, y1.Defs, y1.Main⟩ : ScopeProg) y2 h2) rfl ?_
 refine Z6 ?_
 refine aH ?_
 revert H; refine bs fun y3 h3 H => ?_
 revert H; refine bs fun y4 h4 H => ?_
 apply bH (ods := [_, _, _, _, _, _, _, _]) 8 0 1 bG rfl rfl rfl
 refine ND ?_
 refine M1 ?_
 intros
 refine aBQ (od := odC [] true (fSl bC y3) []) (Φ := fSl bC y3) rfl (fun _ => rfl) trivial rfl rfl (has rfl) aK.nil rfl (cb rfl) (aFh y3 h3) (fun _ => ?_)
 refine Nc (aA7 _ _ _ _ h4) fun _ => ?_
 refine M5 ?_
 intros
 refine Z2 ?_
 refine aH ?_
 revert H; refine bs fun y5 h5 H => ?_
 revert H; refine bs fun y6 h6 H => ?_
 apply bH (ods := [_, _, _, _, _, _, _, _]) 8 0 1 bG rfl rfl rfl
 refine ND ?_
 refine M1 ?_
 intros
 refine aBQ (od := odC [] true (fSl bC y5) []) (Φ := fSl bC y5) rfl (fun _ => rfl) trivial rfl rfl (has rfl) aK.nil rfl (cb rfl) (aFh y5 h5) (fun _ => ?_)
 refine Nc (aIA _ _ _ _ _ _ h6) fun _ => ?_
 refine M5 ?_
 intros
 revert H; refine B4 fun y7 h7 H => ?_
 refine Tc (aHe _ _ _ _ _ h7) ?_
 refine Z6 ?_
 refine aH ?_
 revert H; refine I4 (fun c1 H => ?_) fun c1 H => ?_
 refine Z12 ?_
 refine Z12 ?_
 refine Z11 ?_
 cases H
 refine aG [] (by decide) ?_
 exact To
 revert H; refine I4 (fun c2 H => ?_) fun c2 H => ?_
 refine Z12 ?_
 refine Z12 ?_
 refine Z7 ?_
 cases H
 refine aG [] (by decide) ?_
 exact To
 revert H; refine I4 (fun c3 H => ?_) fun c3 H => ?_
 refine Z12 ?_
 refine Z12 ?_
 refine Z3 ?_
 cases H
 refine aG [] (by decide) ?_
 exact To
 revert H; refine I4 (fun c4 H => ?_) fun c4 H => ?_
 refine Z12 ?_
 refine Z11 ?_
 cases H
 refine aG [] (by decide) ?_
 exact To
 refine Z4 ?_
 revert H; refine cs (fun c5 H => ?_) fun c5 H => ?_
 refine Z12 ?_
 refine Z7 ?_
 cases H
 refine aG [] (by decide) ?_
 exact To
 revert H; refine B1 fun y8 h8 H => ?_
 refine sG ⟨_, _, rfl, rfl, c5⟩ rfl rfl rfl (has rfl) aK.nil rfl (cb rfl) (aBp y8 h8) (Δi := []) rfl (fun v1 => ?_)
 dsimp only [List.append, List.cons_append, List.nil_append]
 refine eB 0 rfl (fun hc_v1 => ?_)
 revert H; refine bs fun y9 h9 H => ?_
 refine zL (Δl := [bL v1 61 dI y8]) (Δi := []) (Δo := []) [(v1, fSl bC y8)] ⟨_, _, rfl, rfl, c5⟩ rfl rfl rfl (has rfl) (eM.cons rfl (yC Ent.rfl) (eM.cons rfl (tJ 0 rfl) eM.nil)) (cb rfl) (aIx fuel y2.1 y8 y9 h9) wX (fun _ h => nomatch h) (gJ.cons (lI rfl qA) gJ.nil) rfl ?_
 dsimp only [List.append, List.cons_append, List.nil_append]
 refine Z3 ?_
 revert H; refine cs (fun c6 H => ?_) fun c6 H => ?_
 refine Z12 ?_
 refine Z1 ?_
 cases H
 refine aG [] (by decide) ?_
 exact To
 revert H; refine I4 (fun c7 H => ?_) fun c7 H => ?_
 refine Z9 ?_
 cases H
 refine aG [] (by decide) ?_
 exact To
 revert H; refine I4 (fun c8 H => ?_) fun c8 H => ?_
 refine Z5 ?_
 cases H
 refine aG [] (by decide) ?_
 exact To
 revert H; refine B4 fun y10 h10 H => ?_
 refine sG trivial rfl rfl rfl (has rfl) aK.nil rfl (cb rfl) (aBp y10 h10) (Δi := []) rfl (fun v2 => ?_)
 dsimp only [List.append, List.cons_append, List.nil_append]
 refine eB 0 rfl (fun hc_v2 => ?_)
 revert H; refine B4 fun y11 h11 H => ?_
 refine Yo 0 rfl (iY rfl hh hh (el rfl) h11) ?_
 refine Yy (mS 2 rfl hh (fa rfl) rfl) ?_
 refine rB (i := ((0 : Int).toNat)) (k := 2) (y := y11) (f := (fun v => bL v 58 (cL 30 (aB .i64)) y11.Args)) (bB h11) rfl (fun v3 => ?_)
 refine eB 0 rfl (fun hc_v3 => ?_)
 refine Yo 1 rfl (mJ rfl rfl hh (sc rfl) (bB h11) rfl) ?_
 revert H; refine bs fun y12 h12 H => ?_
 refine Yo 0 rfl (iY rfl hh hh (el rfl) h12) ?_
 refine rB (i := ((2 : Int).toNat)) (k := 0) (y := y12) (f := (fun v => aE v 30 (aB .i64) y12)) (bB h12) rfl (fun v4 => ?_)
 refine aR 0 rfl (fun hc_v4 => ?_)
 refine Yo 1 rfl (mJ rfl rfl hh (sc rfl) (bB h12) rfl) ?_
 revert H; refine bs fun y13 h13 H => ?_
 refine Z1 ?_
 refine vC (z' := 3) trivial rfl rfl rfl (has rfl) (has rfl) (aD trivial) (sz rfl) (bB h13) rfl rfl ?_
 refine Z4 ?_
 refine lO (o := (cL 30 (aB .i64))) (i := ((2 : Int).toNat)) (k := 0) (y := y12) (y' := y12.set ((0 : Int).toNat) 3) (f := (fun v => aE v 30 (aB .i64) (y12.set ((0 : Int).toNat) 3))) (hf := (fun _ => dK)) (bB h12) rfl rfl ?_
 refine lO (o := dI) (i := ((0 : Int).toNat)) (k := 2) (y := y11) (y' := { y11 with Args := y11.Args.set ((2 : Int).toNat) (y12.set ((0 : Int).toNat) 3) }) (f := (fun v => bL v 58 (cL 30 (aB .i64)) (y11.Args.set ((2 : Int).toNat) (y12.set ((0 : Int).toNat) 3)))) (hf := (fun _ => jG)) (bB h11) rfl rfl ?_
 revert H; refine bs fun y14 h14 H => ?_
 refine zL (Δl := [bL v2 61 dI (y10.set ((0 : Int).toNat) ({ y11 with Args := y11.Args.set ((2 : Int).toNat) (y12.set ((0 : Int).toNat) 3) }))]) (Δi := []) (Δo := []) [(v2, fSl bC (y10.set ((0 : Int).toNat) ({ y11 with Args := y11.Args.set ((2 : Int).toNat) (y12.set ((0 : Int).toNat) 3) })))] trivial rfl rfl rfl (has rfl) (eM.cons rfl (yC Ent.rfl) (eM.cons rfl (tJ 0 rfl) eM.nil)) (cb rfl) (aA7 fuel (⟨y1.Free, y1.Nodes, y1.Defs, y1.Main⟩ : ScopeProg) (y10.set ((0 : Int).toNat) ({ y11 with Args := y11.Args.set ((2 : Int).toNat) (y12.set ((0 : Int).toNat) 3) })) y14 h14) (aEm (by intro φ h; simp only [List.mem_cons, List.not_mem_nil, or_false] at h; rcases h with rfl | rfl <;> exact wX)) (fun _ h => nomatch h) (gJ.cons (lI rfl qA) gJ.nil) rfl ?_
 dsimp only [List.append, List.cons_append, List.nil_append]
 revert H; refine B8 fun y15 h15 H => ?_
 refine Yo 0 rfl (iY rfl hh hh (el rfl) h15) ?_
 refine Yy (mS 2 rfl hh (fa rfl) rfl) ?_
 refine rB (i := ((0 : Int).toNat)) (k := 2) (y := y15) (f := (fun v => bL v 58 (cL 30 (aB .i64)) y15.Args)) (bB h15) rfl (fun v5 => ?_)
 refine eB 0 rfl (fun hc_v5 => ?_)
 refine Yo 1 rfl (mJ rfl rfl hh (sc rfl) (bB h15) rfl) ?_
 revert H; refine bs fun y16 h16 H => ?_
 refine Yo 0 rfl (iY rfl hh hh (el rfl) h16) ?_
 refine rB (i := ((2 : Int).toNat)) (k := 0) (y := y16) (f := (fun v => aE v 30 (aB .i64) y16)) (bB h16) rfl (fun v6 => ?_)
 refine aR 0 rfl (fun hc_v6 => ?_)
 refine Yo 1 rfl (mJ rfl rfl hh (sc rfl) (bB h16) rfl) ?_
 revert H; refine bs fun y17 h17 H => ?_
 refine Z1 ?_
 refine vC (z' := 2) trivial rfl rfl rfl (has rfl) (has rfl) (aD trivial) (sz rfl) (bB h17) rfl rfl ?_
 refine Z4 ?_
 refine lO (o := (cL 30 (aB .i64))) (i := ((2 : Int).toNat)) (k := 0) (y := y16) (y' := y16.set ((0 : Int).toNat) 2) (f := (fun v => aE v 30 (aB .i64) (y16.set ((0 : Int).toNat) 2))) (hf := (fun _ => dK)) (bB h16) rfl rfl ?_
 refine lO (o := dI) (i := ((0 : Int).toNat)) (k := 2) (y := y15) (y' := { y15 with Args := y15.Args.set ((2 : Int).toNat) (y16.set ((0 : Int).toNat) 2) }) (f := (fun v => bL v 58 (cL 30 (aB .i64)) (y15.Args.set ((2 : Int).toNat) (y16.set ((0 : Int).toNat) 2)))) (hf := (fun _ => jG)) (bB h15) rfl rfl ?_
 revert H; refine bs fun y18 h18 H => ?_
 refine zL (Δl := [bL v2 61 dI ((y10.set ((0 : Int).toNat) ({ y11 with Args := y11.Args.set ((2 : Int).toNat) (y12.set ((0 : Int).toNat) 3) })).set ((0 : Int).toNat) ({ y15 with Args := y15.Args.set ((2 : Int).toNat) (y16.set ((0 : Int).toNat) 2) }))]) (Δi := []) (Δo := []) [(v2, fSl bC ((y10.set ((0 : Int).toNat) ({ y11 with Args := y11.Args.set ((2 : Int).toNat) (y12.set ((0 : Int).toNat) 3) })).set ((0 : Int).toNat) ({ y15 with Args := y15.Args.set ((2 : Int).toNat) (y16.set ((0 : Int).toNat) 2) })))] trivial rfl rfl rfl (has rfl) (eM.cons rfl (yC Ent.rfl) (eM.cons rfl (tJ 0 rfl) eM.nil)) (cb rfl) (aA7 fuel (⟨y1.Free, y1.Nodes, y1.Defs, y1.Main⟩ : ScopeProg) ((y10.set ((0 : Int).toNat) ({ y11 with Args := y11.Args.set ((2 : Int).toNat) (y12.set ((0 : Int).toNat) 3) })).set ((0 : Int).toNat) ({ y15 with Args := y15.Args.set ((2 : Int).toNat) (y16.set ((0 : Int).toNat) 2) })) y18 h18) (aEm (by intro φ h; simp only [List.mem_cons, List.not_mem_nil, or_false] at h; rcases h with rfl | rfl <;> exact wX)) (fun _ h => nomatch h) (gJ.cons (lI rfl qA) gJ.nil) rfl ?_
 dsimp only [List.append, List.cons_append, List.nil_append]
 revert H; refine B5 fun o1 H Hr1 => ?_
 refine aW (ι := Bool) (fun i => o1 = i) (fun i => [(0, aI i)]) (fun i => [aC b1 26 [fSl aM y1.Free, fSl aL y1.Nodes, fSl aJ y1.Defs, aA .i64 y1.Main]]) ?_ ?_
 revert H; refine I4 (fun c9 H => ?_) fun c9 H => ?_
 refine Z4 ?_
 revert H; refine cs (fun c10 H => ?_) fun c10 H => ?_
 refine Z5 ?_
 refine aG [2] (by decide) ?_
 exact Tm (decide (y18.2 = 2)) (ij H)
 refine Z5 ?_
 refine aG [2] (by decide) ?_
 exact Tm (false) (ij H)
 refine Z9 ?_
 refine aG [2] (by decide) ?_
 exact Tm (false) (ij H)
 clear H; intro x1 hi; subst o1; have H := Hr1; clear Hr1; try dsimp only at H
 try dsimp only
 refine Z1 ?_
 cases H
 refine aG [] (by decide) ?_
 exact To
 exact fk
 kernel_rfl
 exact fk
 kernel_rfl
def pY (a0 : List ByteArray) (a1 : ByteArray) : Nat → Int → Option ((Unit) ⊕ (Bool))
| 0, _ => none
| k + 1, x2 =>
 if x2 < (a0.length : Int) then
  (idx a0 x2).bind fun y1 =>
  if y1 = a1 then
   (some true).bind fun r => some (Sum.inr r)
  else
   (chk (x2 + 1)).bind fun z1 =>
   pY a0 a1 k z1
 else
  some (Sum.inl ())
def yP (fuel : Nat) (a0 : List ByteArray) (a1 : ByteArray) : Option (Bool) :=
 (pY a0 a1 fuel 0).bind fun o => match o with
 | Sum.inr r => some r
 | Sum.inl _ =>
 some false
theorem aIF (fuel : Nat)  (a0 : List ByteArray) (a1 : ByteArray) (r : Bool) (H : yP fuel a0 a1 = some r) : FnS Tryz.prog 103 [fSl aM a0, gU a1] [] (aI r) (fun _ => []) := by
 unfold yP at H
 refine bD Tryz.func103 rfl Tryz.ntmps103 rfl (fun β => ?_)
 revert H; refine B3 fun o1 H Hr1 => ?_
 refine aW (ι := Unit) (fun i => o1 = Sum.inl ()) (fun i => []) (fun i => []) ?_ ?_
 refine Z4 ?_
 refine Tl (ι := Nat × Int) (fun i => pY a0 a1 i.1 i.2 = _) (fun i => i.1) (fun i => [(0, fSl aM a0), (1, gU a1), (5, aA .i64 i.2)]) (fun i => []) (fuel, 0) H ?_
 clear H; rintro ⟨k1, x2⟩ H
 replace H : pY a0 a1 k1 x2 = _ := H
 try dsimp only
 obtain _ | k1 := k1
 rw [pY] at H; cases H
 rw [pY] at H
 refine aH ?_
 revert H; refine I6 (fun c1 H => ?_) fun c1 H => ?_
 refine Z3 ?_
 refine aH ?_
 revert H; refine B4 fun y1 h1 H => ?_
 refine Z3 ?_
 refine Yy (o_eqlS rfl hh hh) ?_
 revert H; refine I1 (fun c2 H => ?_) fun c2 H => ?_
 revert H; refine B10 fun r1 H e1 => ?_
 cases e1; cases Hr1
 cases H
 exact To
 revert H; refine B6 fun z1 h2 H => ?_
 refine Z3 ?_
 exact Tm ((k1, z1)) ⟨H, ls⟩
 refine Z6 ?_
 exact Tm (()) (ij H)
 clear H; intro i hi; subst o1; have H := Hr1; clear Hr1; try dsimp only at H
 try dsimp only
 refine Z4 ?_
 cases H
 exact To
end Go.Proofs.YtmnbfgeljmhekaaGreat
set_option maxRecDepth 100000
set_option maxHeartbeats 2000000
namespace Go.Proofs.YtmnbfgeljmhekaaGreat
open Go.SX Go.SW Go.Dt
attribute [local irreducible] Code.wpIn wpListIn Exit.then Exit.inBlock
def rG (a0 : ByteArray) : Nat → Int → Option ((Unit) ⊕ (Bool))
| 0, _ => none
| k + 1, x2 =>
 if x2 < (a0.size : Int) then
  (sidx a0 x2).bind fun z1 =>
  if z1 < 97 then
   (some false).bind fun r => some (Sum.inr r)
  else
   (sidx a0 x2).bind fun z2 =>
   if 122 < z2 then
    (some false).bind fun r => some (Sum.inr r)
   else
    (chk (x2 + 1)).bind fun z3 =>
    rG a0 k z3
 else
  some (Sum.inl ())
def wH (fuel : Nat) (a0 : ByteArray) : Option (Bool) :=
 if (a0.size : Int) < 1 then
  some false
 else
  if 8 < (a0.size : Int) then
   some false
  else
   (rG a0 fuel 0).bind fun o => match o with
   | Sum.inr r => some r
   | Sum.inl _ =>
   (yP fuel [{ data := #[97, 110, 100] }, { data := #[100, 101, 102] }, { data := #[101, 108, 115, 101] }, { data := #[103, 111] }, { data := #[105, 102] }, { data := #[105, 110] }, { data := #[112, 108, 97, 99, 101] }, { data := #[115, 116, 111, 112] }, { data := #[116, 104, 101, 110] }, { data := #[119, 97, 116, 99, 104] }] a0).bind fun y1 =>
   some (!y1)
theorem aCz (fuel : Nat)  (a0 : ByteArray) (r : Bool) (H : wH fuel a0 = some r) : FnS Tryz.prog 87 [gU a0] [] (aI r) (fun _ => []) := by
 unfold wH at H
 refine bD Tryz.func87 rfl Tryz.ntmps87 rfl (fun β => ?_)
 refine Z3 ?_
 refine aH ?_
 refine Z2 ?_
 refine Yy (vD rfl hh mV) ?_
 revert H; refine I2 (fun c1 H => ?_) fun c1 H => ?_
 refine Z10 ?_
 cases H
 exact To
 refine Z1 ?_
 refine Yg c1 (vD rfl hh mV) ?_
 revert H; refine I3 (fun c2 H => ?_) fun c2 H => ?_
 refine Z5 ?_
 cases H
 exact To
 revert H; refine B3 fun o1 H Hr1 => ?_
 refine aW (ι := Unit) (fun i => o1 = Sum.inl ()) (fun i => [(0, gU a0)]) (fun i => []) ?_ ?_
 refine Z4 ?_
 refine Tl (ι := Nat × Int) (fun i => rG a0 i.1 i.2 = _) (fun i => i.1) (fun i => [(0, gU a0), (3, aA .i64 i.2)]) (fun i => []) (fuel, 0) H ?_
 clear H; rintro ⟨k1, x2⟩ H
 replace H : rG a0 k1 x2 = _ := H
 try dsimp only
 obtain _ | k1 := k1
 rw [rG] at H; cases H
 rw [rG] at H
 refine aH ?_
 refine Z3 ?_
 refine Yy (vD rfl hh mV) ?_
 revert H; refine I2 (fun c3 H => ?_) fun c3 H => ?_
 refine Z3 ?_
 refine aH ?_
 revert H; refine B4 fun z1 h1 H => ?_
 refine Yy (aBg rfl hh hh mV h1) ?_
 revert H; refine I2 (fun c4 H => ?_) fun c4 H => ?_
 refine Z12 ?_
 revert H; refine B4 fun r1 H e1 => ?_
 cases e1; cases Hr1
 cases H
 exact To
 revert H; refine B2 fun z2 h2 H => ?_
 refine Yg c4 (aBg rfl hh hh mV h2) ?_
 revert H; refine I3 (fun c5 H => ?_) fun c5 H => ?_
 revert H; refine B10 fun r2 H e2 => ?_
 cases e2; cases Hr1
 cases H
 exact To
 revert H; refine B6 fun z3 h3 H => ?_
 refine Z3 ?_
 exact Tm ((k1, z3)) ⟨H, ls⟩
 refine Z6 ?_
 exact Tm (()) (ij H)
 clear H; intro i hi; subst o1; have H := Hr1; clear Hr1; try dsimp only at H
 try dsimp only
 refine Z1 ?_
 refine Tn (cM (t := aM) (xs := [{ data := #[97, 110, 100] }, { data := #[100, 101, 102] }, { data := #[101, 108, 115, 101] }, { data := #[103, 111] }, { data := #[105, 102] }, { data := #[105, 110] }, { data := #[112, 108, 97, 99, 101] }, { data := #[115, 116, 111, 112] }, { data := #[116, 104, 101, 110] }, { data := #[119, 97, 116, 99, 104] }]) rfl (et rfl) (aS.cons rfl (has rfl) (aT (aD trivial)) (aS.cons rfl (has rfl) (aT (aD trivial)) (aS.cons rfl (has rfl) (aT (aD trivial)) (aS.cons rfl (has rfl) (aT (aD trivial)) (aS.cons rfl (has rfl) (aT (aD trivial)) (aS.cons rfl (has rfl) (aT (aD trivial)) (aS.cons rfl (has rfl) (aT (aD trivial)) (aS.cons rfl (has rfl) (aT (aD trivial)) (aS.cons rfl (has rfl) (aT (aD trivial)) (aS.cons rfl (has rfl) (aT (aD trivial)) aS.nil)))))))))) rfl rfl rfl) fun b1 => ?_
 generalize (Value.slice (some ⟨b1, 0, none⟩) _ _) = v1
 refine aR 0 rfl (fun hc_v1 => ?_)
 refine Z1 ?_
 refine cR (φ := fSl aM [{ data := #[97, 110, 100] }, { data := #[100, 101, 102] }, { data := #[101, 108, 115, 101] }, { data := #[103, 111] }, { data := #[105, 102] }, { data := #[105, 110] }, { data := #[112, 108, 97, 99, 101] }, { data := #[115, 116, 111, 112] }, { data := #[116, 104, 101, 110] }, { data := #[119, 97, 116, 99, 104] }]) (v := v1) [28] cO fz ?_
 refine cS ?_
 revert H; refine bs fun y1 h4 H => ?_
 refine Tc (aIF _ _ _ _ h4) ?_
 refine Z4 ?_
 cases H
 exact To
end Go.Proofs.YtmnbfgeljmhekaaGreat
set_option maxRecDepth 100000
set_option maxHeartbeats 2000000
namespace Go.Proofs.YtmnbfgeljmhekaaGreat
open Go.SX Go.SW Go.Dt
attribute [local irreducible] Code.wpIn wpListIn Exit.then Exit.inBlock
def pB (a0 : ScopeDef) : Nat → Int → Option ((Unit) ⊕ (Bool))
| 0, _ => none
| k + 1, x2 =>
 if x2 < (a0.Chans.length : Int) then
  (idx a0.Chans x2).bind fun y1 =>
  if y1.At < 0 then
   (some false).bind fun r => some (Sum.inr r)
  else
   (idx a0.Chans x2).bind fun y2 =>
   if (a0.Spots.length : Int) < y2.At then
    (some false).bind fun r => some (Sum.inr r)
   else
    (idx a0.Chans x2).bind fun y3 =>
    if y3.Many < 0 then
     (some false).bind fun r => some (Sum.inr r)
    else
     (idx a0.Chans x2).bind fun y4 =>
     if 3 < y4.Many then
      (some false).bind fun r => some (Sum.inr r)
     else
      (chk (x2 + 1)).bind fun z1 =>
      pB a0 k z1
 else
  some (Sum.inl ())
def pM (a0 : ScopeDef) : Nat → Int → Option ((Unit) ⊕ (Bool))
| 0, _ => none
| k + 1, x4 =>
 if x4 < (a0.Spots.length : Int) then
  (idx a0.Spots x4).bind fun y5 =>
  if y5.In < 0 then
   (some false).bind fun r => some (Sum.inr r)
  else
   (idx a0.Spots x4).bind fun y6 =>
   if x4 < y6.In then
    (some false).bind fun r => some (Sum.inr r)
   else
    (chk (x4 + 1)).bind fun z2 =>
    pM a0 k z2
 else
  some (Sum.inl ())
def pJ (y8 : ScopeRule) (x14 : Int) (y9 : Int) : Nat → Int → Option ((Unit) ⊕ ((List Bool) ⊕ ((List Bool) ⊕ ((List Bool) ⊕ (Bool)))))
| 0, _ => none
| k + 1, x17 =>
 if x17 < x14 then
  (idx y8.Joins x17).bind fun y11 =>
  if y11 = y9 then
   ((((some false).bind fun r => some (Sum.inr r)).bind fun r => some (Sum.inr r)).bind fun r => some (Sum.inr r)).bind fun r => some (Sum.inr r)
  else
   (chk (x17 + 1)).bind fun z3 =>
   pJ y8 x14 y9 k z3
 else
  some (Sum.inl ())
def kH (fuel : Nat) (a0 : ScopeDef) (y8 : ScopeRule) : Nat → (List Bool) → Int → Option ((List Bool) ⊕ ((List Bool) ⊕ (Bool)))
| 0, _, _ => none
| k + 1, x13, x14 =>
 if x14 < (y8.Joins.length : Int) then
  ((idx y8.Joins x14).bind fun y9 =>
  if y9 < 0 then
   (((some false).bind fun r => some (Sum.inr r)).bind fun r => some (Sum.inr r)).bind fun r => some (Sum.inr r)
  else
   if (a0.Chans.length : Int) ≤ y9 then
    (((some false).bind fun r => some (Sum.inr r)).bind fun r => some (Sum.inr r)).bind fun r => some (Sum.inr r)
   else
    (idx a0.Chans y9).bind fun y10 =>
    if y10.At ≠ y8.At then
     (((some false).bind fun r => some (Sum.inr r)).bind fun r => some (Sum.inr r)).bind fun r => some (Sum.inr r)
    else
     (pJ y8 x14 y9 fuel 0).bind fun o => match o with
     | Sum.inr r => some r
     | Sum.inl _ =>
     (idx x13 y9).bind fun y12 =>
     some (Sum.inl (x13.set y9.toNat true))).bind fun o => match o with
  | Sum.inr r => some r
  | Sum.inl x15 =>
  (chk (x14 + 1)).bind fun z4 =>
  kH fuel a0 y8 k x15 z4
 else
  some (Sum.inl x13)
def oJ (fuel : Nat) (a0 : ScopeDef) : Nat → (List Bool) → Int → Option ((List Bool) ⊕ (Bool))
| 0, _, _ => none
| k + 1, x8, x9 =>
 if x9 < (a0.Rules.length : Int) then
  ((idx a0.Rules x9).bind fun y8 =>
  if y8.At < 0 then
   ((some false).bind fun r => some (Sum.inr r)).bind fun r => some (Sum.inr r)
  else
   if (a0.Spots.length : Int) < y8.At then
    ((some false).bind fun r => some (Sum.inr r)).bind fun r => some (Sum.inr r)
   else
    if (y8.Joins.length : Int) < 1 then
     ((some false).bind fun r => some (Sum.inr r)).bind fun r => some (Sum.inr r)
    else
     if 3 < (y8.Joins.length : Int) then
      ((some false).bind fun r => some (Sum.inr r)).bind fun r => some (Sum.inr r)
     else
      kH fuel a0 y8 fuel x8 0).bind fun o => match o with
  | Sum.inr r => some r
  | Sum.inl x10 =>
  (chk (x9 + 1)).bind fun z5 =>
  oJ fuel a0 k x10 z5
 else
  some (Sum.inl x8)
def oW (x5 : List Bool) : Nat → Int → Option ((Unit) ⊕ (Bool))
| 0, _ => none
| k + 1, x19 =>
 if x19 < (x5.length : Int) then
  (idx x5 x19).bind fun y13 =>
  bif y13 then
   (chk (x19 + 1)).bind fun z6 =>
   oW x5 k z6
  else
   (some false).bind fun r => some (Sum.inr r)
 else
  some (Sum.inl ())
def xV (fuel : Nat) (a0 : ScopeDef) : Option (Bool) :=
 if 30 < (a0.Chans.length : Int) then
  some false
 else
  if 30 < (a0.Spots.length : Int) then
   some false
  else
   if 30 < (a0.Rules.length : Int) then
    some false
   else
    (pB a0 fuel 0).bind fun o => match o with
    | Sum.inr r => some r
    | Sum.inl _ =>
    (pM a0 fuel 0).bind fun o => match o with
    | Sum.inr r => some r
    | Sum.inl _ =>
    (mk false (a0.Chans.length : Int)).bind fun y7 =>
    (oJ fuel a0 fuel y7 0).bind fun o => match o with
    | Sum.inr r => some r
    | Sum.inl x5 =>
    (oW x5 fuel 0).bind fun o => match o with
    | Sum.inr r => some r
    | Sum.inl _ =>
    some true
theorem aHb (fuel : Nat)  (a0 : ScopeDef) (r : Bool) (H : xV fuel a0 = some r) : FnS Tryz.prog 88 [fSt aJ a0] [] (aI r) (fun _ => []) := by
 unfold xV at H
 refine bD Tryz.func88 rfl Tryz.ntmps88 rfl (fun β => ?_)
 refine Z1 ?_
 refine Tn (cF rfl (has rfl) bQ) fun b1 => ?_
 refine Z2 ?_
 refine aH ?_
 revert H; refine I6 (fun c1 H => ?_) fun c1 H => ?_
 refine Yt c1 ?_
 refine Yt c1 ?_
 refine Yt c1 ?_
 refine Yt c1 ?_
 refine Yy (dF rfl hh c1 hh) ?_
 refine Z12 ?_
 cases H
 refine aG [] (by decide) ?_
 exact To
 refine Yg c1 (cG 1 rfl hh (fa rfl) rfl) ?_
 refine Yh 0 rfl c1 (bY rfl hh (sc rfl) rfl Ent.rfl) ?_
 refine Yg c1 (fW rfl hh (us rfl)) ?_
 refine Yg c1 (gY rfl hh hh) ?_
 refine Yy (cI rfl hh c1 hh) ?_
 revert H; refine I1 (fun c2 H => ?_) fun c2 H => ?_
 refine Yt c2 ?_
 refine Yt c2 ?_
 refine Yt c2 ?_
 refine Yt c2 ?_
 refine Yy (dF rfl hh c2 hh) ?_
 refine Z6 ?_
 cases H
 refine aG [] (by decide) ?_
 exact To
 refine Yg c2 (cG 2 rfl hh (fa rfl) rfl) ?_
 refine Yh 0 rfl c2 (bY rfl hh (sc rfl) rfl Ent.rfl) ?_
 refine Yg c2 (fW rfl hh (us rfl)) ?_
 refine Yg c2 (gY rfl hh hh) ?_
 refine Yy (cI rfl hh c2 hh) ?_
 revert H; refine I1 (fun c3 H => ?_) fun c3 H => ?_
 refine cY (has rfl) c3 ?_
 refine Z4 ?_
 cases H
 refine aG [] (by decide) ?_
 exact To
 refine dD (has rfl) c3 ?_
 revert H; refine B2 fun o1 H Hr1 => ?_
 refine aW (ι := Unit) (fun i => o1 = Sum.inl ()) (fun i => [(1, fEq (ptr b1))]) (fun i => [aC b1 99 [fSl bF a0.Chans, fSl bW a0.Spots, fSl bK a0.Rules]]) ?_ ?_
 refine Z4 ?_
 refine Tl (ι := Nat × Int) (fun i => pB a0 i.1 i.2 = _) (fun i => i.1) (fun i => [(1, fEq (ptr b1)), (3, aA .i64 i.2)]) (fun i => [aC b1 99 [fSl bF a0.Chans, fSl bW a0.Spots, fSl bK a0.Rules]]) (fuel, 0) H ?_
 clear H; rintro ⟨k1, x2⟩ H
 replace H : pB a0 k1 x2 = _ := H
 try dsimp only
 obtain _ | k1 := k1
 rw [pB] at H; cases H
 rw [pB] at H
 refine aH ?_
 revert H; refine I7 (fun c4 H => ?_) fun c4 H => ?_
 refine cY (has rfl) c4 ?_
 refine Z2 ?_
 refine aH ?_
 refine Z1 ?_
 refine aH ?_
 revert H; refine bs fun y1 h1 H => ?_
 revert H; refine is (fun c5 H => ?_) fun c5 H => ?_
 apply bH (ods := [_, _, _, _, _, _, _, _, _, _, _, _, _, _, _, _, _, _, _, _, _, _, _, _, _, _, _, _, _, _, _, _, _, _, _, _, _]) 37 0 1 bG rfl rfl rfl
 refine ND ?_
 refine M3 ?_
 intros
 refine My (cC rfl hh hh (el rfl) h1) fun _ => ?_
 refine M4 ?_
 intros
 refine Mt c5 fun _ => ?_
 refine Mt c5 fun _ => ?_
 refine Mt c5 fun _ => ?_
 refine Mt c5 fun _ => ?_
 refine Mt c5 fun _ => ?_
 refine Mt c5 fun _ => ?_
 refine Mt c5 fun _ => ?_
 refine Mt c5 fun _ => ?_
 refine Mt c5 fun _ => ?_
 refine Mt c5 fun _ => ?_
 refine My (dF rfl hh c5 hh) fun _ => ?_
 refine M8 ?_
 intros
 refine M8 ?_
 intros
 refine M2 ?_
 intros
 revert H; refine B12 fun r1 H e1 => ?_
 cases e1; cases Hr1
 cases H
 refine aG [] (by decide) ?_
 exact To
 exact fk
 kernel_rfl
 revert H; refine bs fun y2 h2 H => ?_
 revert H; refine is (fun c6 H => ?_) fun c6 H => ?_
 apply bH (ods := [_, _, _, _, _, _, _, _, _, _, _, _, _, _, _, _, _, _, _, _, _, _, _, _, _, _, _, _, _, _, _, _, _, _, _, _, _]) 37 0 1 bG rfl rfl rfl
 refine ND ?_
 refine M3 ?_
 intros
 refine My (cC rfl hh hh (el rfl) h1) fun _ => ?_
 refine M4 ?_
 intros
 refine Mg c5 (cG 0 rfl hh (fa rfl) rfl) fun _ => ?_
 refine eD (od := odC [0] false (fSl bF a0.Chans) [cZ]) (ps := [0]) (φ := fSl bF a0.Chans) rfl (fun _ => rfl) ⟨_, _, rfl, rfl, c5⟩ rfl rfl (bY rfl (has rfl) (sc rfl) rfl Ent.rfl) (fun _ => ?_)
 refine Mg c5 (bV rfl hh) fun _ => ?_
 refine Mg c5 (cC rfl hh hh (el rfl) h2) fun _ => ?_
 refine Mg c5 (fT (t' := (aB .i64)) (z := y2.At) rfl hh (fa rfl) rfl) fun _ => ?_
 refine Mg c5 (fP rfl hh (sc rfl) rfl) fun _ => ?_
 refine Mg c5 (cG 1 rfl hh (fa rfl) rfl) fun _ => ?_
 refine eD (od := odC [0] false (fSl bW a0.Spots) [cZ]) (ps := [0]) (φ := fSl bW a0.Spots) rfl (fun _ => rfl) ⟨_, _, rfl, rfl, c5⟩ rfl rfl (bY rfl (has rfl) (sc rfl) rfl Ent.rfl) (fun _ => ?_)
 refine Mg c5 (fW rfl hh (us rfl)) fun _ => ?_
 refine Mg c5 (gY rfl hh hh) fun _ => ?_
 refine My (cI rfl hh c5 hh) fun _ => ?_
 refine M1 ?_
 intros
 refine Mt c6 fun _ => ?_
 refine Mt c6 fun _ => ?_
 refine Mt c6 fun _ => ?_
 refine Mt c6 fun _ => ?_
 refine Mt c6 fun _ => ?_
 refine Mt c6 fun _ => ?_
 refine Mt c6 fun _ => ?_
 refine My (dF rfl hh c6 hh) fun _ => ?_
 refine M8 ?_
 intros
 refine M1 ?_
 intros
 revert H; refine B12 fun r2 H e2 => ?_
 cases e2; cases Hr1
 cases H
 refine aG [] (by decide) ?_
 exact To
 exact fk
 kernel_rfl
 revert H; refine bs fun y3 h3 H => ?_
 revert H; refine is (fun c7 H => ?_) fun c7 H => ?_
 apply bH (ods := [_, _, _, _, _, _, _, _, _, _, _, _, _, _, _, _, _, _, _, _, _, _, _, _, _, _, _, _, _, _, _, _, _, _, _, _, _]) 37 0 1 bG rfl rfl rfl
 refine ND ?_
 refine M3 ?_
 intros
 refine My (cC rfl hh hh (el rfl) h1) fun _ => ?_
 refine M4 ?_
 intros
 refine Mg c5 (cG 0 rfl hh (fa rfl) rfl) fun _ => ?_
 refine eD (od := odC [0] false (fSl bF a0.Chans) [cZ]) (ps := [0]) (φ := fSl bF a0.Chans) rfl (fun _ => rfl) ⟨_, _, rfl, rfl, c5⟩ rfl rfl (bY rfl (has rfl) (sc rfl) rfl Ent.rfl) (fun _ => ?_)
 refine Mg c5 (bV rfl hh) fun _ => ?_
 refine Mg c5 (cC rfl hh hh (el rfl) h2) fun _ => ?_
 refine Mg c5 (fT (t' := (aB .i64)) (z := y2.At) rfl hh (fa rfl) rfl) fun _ => ?_
 refine Mg c5 (fP rfl hh (sc rfl) rfl) fun _ => ?_
 refine Mg c5 (cG 1 rfl hh (fa rfl) rfl) fun _ => ?_
 refine eD (od := odC [0] false (fSl bW a0.Spots) [cZ]) (ps := [0]) (φ := fSl bW a0.Spots) rfl (fun _ => rfl) ⟨_, _, rfl, rfl, c5⟩ rfl rfl (bY rfl (has rfl) (sc rfl) rfl Ent.rfl) (fun _ => ?_)
 refine Mg c5 (fW rfl hh (us rfl)) fun _ => ?_
 refine Mg c5 (gY rfl hh hh) fun _ => ?_
 refine My (cI rfl hh c5 hh) fun _ => ?_
 refine M1 ?_
 intros
 refine Mg c6 (cG 0 rfl hh (fa rfl) rfl) fun _ => ?_
 refine eD (od := odC [0] false (fSl bF a0.Chans) [cZ]) (ps := [0]) (φ := fSl bF a0.Chans) rfl (fun _ => rfl) ⟨_, _, rfl, rfl, c6⟩ rfl rfl (bY rfl (has rfl) (sc rfl) rfl Ent.rfl) (fun _ => ?_)
 refine Mg c6 (bV rfl hh) fun _ => ?_
 refine Mg c6 (cC rfl hh hh (el rfl) h3) fun _ => ?_
 refine Mg c6 (fT (t' := (aB .i64)) (z := y3.Many) rfl hh (fa rfl) rfl) fun _ => ?_
 refine Mg c6 (fP rfl hh (sc rfl) rfl) fun _ => ?_
 refine Mg c6 (vJ rfl hh hh) fun _ => ?_
 refine My (cI rfl hh c6 hh) fun _ => ?_
 refine M1 ?_
 intros
 refine Mt c7 fun _ => ?_
 refine Mt c7 fun _ => ?_
 refine Mt c7 fun _ => ?_
 refine Mt c7 fun _ => ?_
 refine Mt c7 fun _ => ?_
 refine Mt c7 fun _ => ?_
 refine Mt c7 fun _ => ?_
 refine My (dF rfl hh c7 hh) fun _ => ?_
 revert H; refine B12 fun r3 H e3 => ?_
 cases e3; cases Hr1
 cases H
 refine aG [] (by decide) ?_
 exact To
 exact fk
 kernel_rfl
 revert H; refine bs fun y4 h4 H => ?_
 apply bH (ods := [_, _, _, _, _, _, _, _, _, _, _, _, _, _, _, _, _, _, _, _, _, _, _, _, _, _, _, _, _, _, _, _, _, _, _, _, _]) 37 0 1 bG rfl rfl rfl
 refine ND ?_
 refine M3 ?_
 intros
 refine My (cC rfl hh hh (el rfl) h1) fun _ => ?_
 refine M4 ?_
 intros
 refine Mg c5 (cG 0 rfl hh (fa rfl) rfl) fun _ => ?_
 refine eD (od := odC [0] false (fSl bF a0.Chans) [cZ]) (ps := [0]) (φ := fSl bF a0.Chans) rfl (fun _ => rfl) ⟨_, _, rfl, rfl, c5⟩ rfl rfl (bY rfl (has rfl) (sc rfl) rfl Ent.rfl) (fun _ => ?_)
 refine Mg c5 (bV rfl hh) fun _ => ?_
 refine Mg c5 (cC rfl hh hh (el rfl) h2) fun _ => ?_
 refine Mg c5 (fT (t' := (aB .i64)) (z := y2.At) rfl hh (fa rfl) rfl) fun _ => ?_
 refine Mg c5 (fP rfl hh (sc rfl) rfl) fun _ => ?_
 refine Mg c5 (cG 1 rfl hh (fa rfl) rfl) fun _ => ?_
 refine eD (od := odC [0] false (fSl bW a0.Spots) [cZ]) (ps := [0]) (φ := fSl bW a0.Spots) rfl (fun _ => rfl) ⟨_, _, rfl, rfl, c5⟩ rfl rfl (bY rfl (has rfl) (sc rfl) rfl Ent.rfl) (fun _ => ?_)
 refine Mg c5 (fW rfl hh (us rfl)) fun _ => ?_
 refine Mg c5 (gY rfl hh hh) fun _ => ?_
 refine My (cI rfl hh c5 hh) fun _ => ?_
 refine M1 ?_
 intros
 refine Mg c6 (cG 0 rfl hh (fa rfl) rfl) fun _ => ?_
 refine eD (od := odC [0] false (fSl bF a0.Chans) [cZ]) (ps := [0]) (φ := fSl bF a0.Chans) rfl (fun _ => rfl) ⟨_, _, rfl, rfl, c6⟩ rfl rfl (bY rfl (has rfl) (sc rfl) rfl Ent.rfl) (fun _ => ?_)
 refine Mg c6 (bV rfl hh) fun _ => ?_
 refine Mg c6 (cC rfl hh hh (el rfl) h3) fun _ => ?_
 refine Mg c6 (fT (t' := (aB .i64)) (z := y3.Many) rfl hh (fa rfl) rfl) fun _ => ?_
 refine Mg c6 (fP rfl hh (sc rfl) rfl) fun _ => ?_
 refine Mg c6 (vJ rfl hh hh) fun _ => ?_
 refine My (cI rfl hh c6 hh) fun _ => ?_
 refine M1 ?_
 intros
 refine Mg c7 (cG 0 rfl hh (fa rfl) rfl) fun _ => ?_
 refine eD (od := odC [0] false (fSl bF a0.Chans) [cZ]) (ps := [0]) (φ := fSl bF a0.Chans) rfl (fun _ => rfl) ⟨_, _, rfl, rfl, c7⟩ rfl rfl (bY rfl (has rfl) (sc rfl) rfl Ent.rfl) (fun _ => ?_)
 refine Mg c7 (bV rfl hh) fun _ => ?_
 refine Mg c7 (cC rfl hh hh (el rfl) h4) fun _ => ?_
 refine Mg c7 (fT (t' := (aB .i64)) (z := y4.Many) rfl hh (fa rfl) rfl) fun _ => ?_
 refine Mg c7 (fP rfl hh (sc rfl) rfl) fun _ => ?_
 refine Mg c7 (gY rfl hh hh) fun _ => ?_
 refine My (cI rfl hh c7 hh) fun _ => ?_
 revert H; refine I2 (fun c8 H => ?_) fun c8 H => ?_
 refine cY (has rfl) c8 ?_
 revert H; refine B9 fun r4 H e4 => ?_
 cases e4; cases Hr1
 cases H
 refine aG [] (by decide) ?_
 exact To
 refine dD (has rfl) c8 ?_
 revert H; refine B5 fun z1 h5 H => ?_
 refine Yy (fI rfl hh hh h5) ?_
 refine Z2 ?_
 exact Tm ((k1, z1)) ⟨H, ls⟩
 exact fk
 kernel_rfl
 refine dD (has rfl) c4 ?_
 refine Z5 ?_
 exact Tm (()) (ij H)
 clear H; intro i hi; subst o1; have H := Hr1; clear Hr1; try dsimp only at H
 try dsimp only
 revert H; refine bs fun o2 H Hr2 => ?_
 refine aW (ι := Unit) (fun i => o2 = Sum.inl ()) (fun i => [(1, fEq (ptr b1))]) (fun i => [aC b1 99 [fSl bF a0.Chans, fSl bW a0.Spots, fSl bK a0.Rules]]) ?_ ?_
 refine Z4 ?_
 refine Tl (ι := Nat × Int) (fun i => pM a0 i.1 i.2 = _) (fun i => i.1) (fun i => [(1, fEq (ptr b1)), (4, aA .i64 i.2)]) (fun i => [aC b1 99 [fSl bF a0.Chans, fSl bW a0.Spots, fSl bK a0.Rules]]) (fuel, 0) H ?_
 clear H; rintro ⟨k2, x4⟩ H
 replace H : pM a0 k2 x4 = _ := H
 try dsimp only
 obtain _ | k2 := k2
 rw [pM] at H; cases H
 rw [pM] at H
 refine aH ?_
 revert H; refine I7 (fun c9 H => ?_) fun c9 H => ?_
 refine cY (has rfl) c9 ?_
 refine Z2 ?_
 refine aH ?_
 revert H; refine B5 fun y5 h6 H => ?_
 refine Yy (cC rfl hh hh (el rfl) h6) ?_
 revert H; refine I4 (fun c10 H => ?_) fun c10 H => ?_
 refine Yt c10 ?_
 refine Yt c10 ?_
 refine Yt c10 ?_
 refine Yt c10 ?_
 refine Yt c10 ?_
 refine Yt c10 ?_
 refine Yt c10 ?_
 refine Yt c10 ?_
 refine Yy (dF rfl hh c10 hh) ?_
 revert H; refine B11 fun r5 H e5 => ?_
 cases e5; cases Hr2
 cases H
 refine aG [] (by decide) ?_
 exact To
 refine Yg c10 (cG 1 rfl hh (fa rfl) rfl) ?_
 refine Yh 0 rfl c10 (bY rfl hh (sc rfl) rfl Ent.rfl) ?_
 refine Yg c10 (bV rfl hh) ?_
 revert H; refine bs fun y6 h7 H => ?_
 refine Yg c10 (cC rfl hh hh (el rfl) h7) ?_
 refine Yg c10 (fT (t' := (aB .i64)) (z := y6.In) rfl hh (fa rfl) rfl) ?_
 refine Yg c10 (fP rfl hh (sc rfl) rfl) ?_
 refine Yg c10 (bV rfl hh) ?_
 refine Yg c10 (gY rfl hh hh) ?_
 refine Yy (cI rfl hh c10 hh) ?_
 revert H; refine I1 (fun c11 H => ?_) fun c11 H => ?_
 refine cY (has rfl) c11 ?_
 revert H; refine B9 fun r6 H e6 => ?_
 cases e6; cases Hr2
 cases H
 refine aG [] (by decide) ?_
 exact To
 refine dD (has rfl) c11 ?_
 revert H; refine B5 fun z2 h8 H => ?_
 refine Yy (fI rfl hh hh h8) ?_
 refine Z2 ?_
 exact Tm ((k2, z2)) ⟨H, ls⟩
 refine dD (has rfl) c9 ?_
 refine Z5 ?_
 exact Tm (()) (ij H)
 clear H; intro i hi; subst o2; have H := Hr2; clear Hr2; try dsimp only at H
 try dsimp only
 revert H; refine B4 fun y7 h9 H => ?_
 refine Tn (lZ (t := cD) (z := false) rfl (has rfl) (et rfl) rfl aCs rfl h9) fun b2 => ?_
 generalize (Value.slice (some ⟨b2, 0, none⟩) _ _) = v1
 refine aR 0 rfl (fun hc_v1 => ?_)
 revert H; refine B2 fun o3 H Hr3 => ?_
 refine aW (ι := List Bool) (fun i => o3 = Sum.inl i) (fun i => [(5, fEq v1)]) (fun i => [aC b1 99 [fSl bF a0.Chans, fSl bW a0.Spots, fSl bK a0.Rules], aE v1 4 cD i]) ?_ ?_
 refine Z4 ?_
 refine aG [1, 0] (by decide) ?_
 refine Tl (ι := Nat × List Bool × Int) (fun i => oJ fuel a0 i.1 i.2.1 i.2.2 = _) (fun i => i.1) (fun i => [(1, fEq (ptr b1)), (5, fEq v1), (6, aA .i64 i.2.2)]) (fun i => [aC b1 99 [fSl bF a0.Chans, fSl bW a0.Spots, fSl bK a0.Rules], aE v1 4 cD i.2.1]) (fuel, y7, 0) H ?_
 clear H; rintro ⟨k3, x8, x9⟩ H
 replace H : oJ fuel a0 k3 x8 x9 = _ := H
 try dsimp only
 obtain _ | k3 := k3
 rw [oJ] at H; cases H
 rw [oJ] at H
 refine aH ?_
 revert H; refine I7 (fun c12 H => ?_) fun c12 H => ?_
 refine cY (has rfl) c12 ?_
 revert H; refine B2 fun o4 H Hr4 => ?_
 refine aW (ι := List Bool) (fun i => o4 = Sum.inl i) (fun i => [(1, fEq (ptr b1)), (5, fEq v1), (6, aA .i64 x9)]) (fun i => [aC b1 99 [fSl bF a0.Chans, fSl bW a0.Spots, fSl bK a0.Rules], aE v1 4 cD i]) ?_ ?_
 revert H; refine B5 fun y8 h10 H => ?_
 refine Yy (cC rfl hh hh (el rfl) h10) ?_
 refine Z1 ?_
 refine Tn (cK rfl uD rfl) fun b3 => ?_
 refine dM (φs' := [aA .i64 y8.At, fSl (aB .i64) y8.Joins, aA .i64 y8.Node]) trivial rfl rfl (has rfl) (has rfl) (aO (aD trivial) (aO (aZ) (aO (aD trivial) bX))) (sz rfl) rfl rfl rfl ?_
 refine Z1 ?_
 refine aH ?_
 revert H; refine I5 (fun c13 H => ?_) fun c13 H => ?_
 refine Yt c13 ?_
 refine Yt c13 ?_
 refine Yt c13 ?_
 refine Yt c13 ?_
 refine Yt c13 ?_
 refine Yt c13 ?_
 refine Yy (dF rfl hh c13 hh) ?_
 refine Z12 ?_
 revert H; refine B8 fun r7 H e7 => ?_
 cases e7; cases Hr4
 revert H; refine B3 fun r8 H e8 => ?_
 cases e8; cases Hr3
 cases H
 refine aG [] (by decide) ?_
 exact To
 refine Yg c13 (cG 0 rfl hh (fa rfl) rfl) ?_
 refine Yh 0 rfl c13 (bY rfl hh (sc rfl) rfl Ent.rfl) ?_
 refine Yg c13 (cG 1 rfl hh (fa rfl) rfl) ?_
 refine Yh 1 rfl c13 (bY rfl hh (sc rfl) rfl Ent.rfl) ?_
 refine Yg c13 (fW rfl hh (us rfl)) ?_
 refine Yg c13 (gY rfl hh hh) ?_
 refine Yy (cI rfl hh c13 hh) ?_
 revert H; refine I1 (fun c14 H => ?_) fun c14 H => ?_
 refine Yt c14 ?_
 refine Yt c14 ?_
 refine Yt c14 ?_
 refine Yt c14 ?_
 refine Yy (dF rfl hh c14 hh) ?_
 refine Z12 ?_
 revert H; refine B2 fun r9 H e9 => ?_
 cases e9; cases Hr4
 revert H; refine B3 fun r10 H e10 => ?_
 cases e10; cases Hr3
 cases H
 refine aG [] (by decide) ?_
 exact To
 refine Yg c14 (cG 1 rfl hh (fa rfl) rfl) ?_
 refine Yh 0 rfl c14 (bY rfl hh (sc rfl) rfl Ent.rfl) ?_
 refine Yg c14 (fW rfl hh (us rfl)) ?_
 refine Yg c14 (vJ rfl hh hh) ?_
 refine Yy (cI rfl hh c14 hh) ?_
 revert H; refine I1 (fun c15 H => ?_) fun c15 H => ?_
 refine Yt c15 ?_
 refine Yt c15 ?_
 refine Yt c15 ?_
 refine Yt c15 ?_
 refine Yy (dF rfl hh c15 hh) ?_
 revert H; refine B8 fun r11 H e11 => ?_
 cases e11; cases Hr4
 revert H; refine B3 fun r12 H e12 => ?_
 cases e12; cases Hr3
 cases H
 refine aG [] (by decide) ?_
 exact To
 refine Yg c15 (cG 1 rfl hh (fa rfl) rfl) ?_
 refine Yh 0 rfl c15 (bY rfl hh (sc rfl) rfl Ent.rfl) ?_
 refine Yg c15 (fW rfl hh (us rfl)) ?_
 refine Yg c15 (gY rfl hh hh) ?_
 refine Yy (cI rfl hh c15 hh) ?_
 revert H; refine I1 (fun c16 H => ?_) fun c16 H => ?_
 refine cY (has rfl) c16 ?_
 revert H; refine B6 fun r13 H e13 => ?_
 cases e13; cases Hr4
 revert H; refine B3 fun r14 H e14 => ?_
 cases e14; cases Hr3
 cases H
 refine aG [] (by decide) ?_
 exact To
 refine dD (has rfl) c16 ?_
 refine Z6 ?_
 refine Tl (ι := Nat × List Bool × Int) (fun i => kH fuel a0 y8 i.1 i.2.1 i.2.2 = _) (fun i => i.1) (fun i => [(1, fEq (ptr b1)), (5, fEq v1), (6, aA .i64 x9), (7, fEq (ptr b3)), (8, aA .i64 i.2.2)]) (fun i => [aC b3 105 [aA .i64 y8.At, fSl (aB .i64) y8.Joins, aA .i64 y8.Node], aC b1 99 [fSl bF a0.Chans, fSl bW a0.Spots, fSl bK a0.Rules], aE v1 4 cD i.2.1]) (fuel, x8, 0) H ?_
 clear H; rintro ⟨k4, x13, x14⟩ H
 replace H : kH fuel a0 y8 k4 x13 x14 = _ := H
 try dsimp only
 obtain _ | k4 := k4
 rw [kH] at H; cases H
 rw [kH] at H
 refine aH ?_
 revert H; refine I7 (fun c17 H => ?_) fun c17 H => ?_
 refine cY (has rfl) c17 ?_
 revert H; refine B2 fun o5 H Hr5 => ?_
 refine aW (ι := List Bool) (fun i => o5 = Sum.inl i) (fun i => [(1, fEq (ptr b1)), (5, fEq v1), (6, aA .i64 x9), (7, fEq (ptr b3)), (8, aA .i64 x14)]) (fun i => [aC b3 105 [aA .i64 y8.At, fSl (aB .i64) y8.Joins, aA .i64 y8.Node], aC b1 99 [fSl bF a0.Chans, fSl bW a0.Spots, fSl bK a0.Rules], aE v1 4 cD i]) ?_ ?_
 revert H; refine B5 fun y9 h11 H => ?_
 refine Yy (cC rfl hh hh (el rfl) h11) ?_
 refine Z3 ?_
 refine aH ?_
 refine aH ?_
 revert H; refine is (fun c18 H => ?_) fun c18 H => ?_
 apply bH (ods := [_, _, _, _, _, _, _, _, _, _, _, _, _, _, _, _, _, _, _, _]) 20 0 3 bG rfl rfl rfl
 refine ND ?_
 refine M3 ?_
 intros
 refine Mt c18 fun _ => ?_
 refine Mt c18 fun _ => ?_
 refine Mt c18 fun _ => ?_
 refine Mt c18 fun _ => ?_
 refine Mt c18 fun _ => ?_
 refine My (dF rfl hh c18 hh) fun _ => ?_
 refine M8 ?_
 intros
 refine M3 ?_
 intros
 revert H; refine B9 fun r15 H e15 => ?_
 cases e15; cases Hr5
 revert H; refine B4 fun r16 H e16 => ?_
 cases e16; cases Hr4
 revert H; refine B3 fun r17 H e17 => ?_
 cases e17; cases Hr3
 cases H
 refine aG [] (by decide) ?_
 exact To
 exact fk
 kernel_rfl
 revert H; refine is (fun c19 H => ?_) fun c19 H => ?_
 apply bH (ods := [_, _, _, _, _, _, _, _, _, _, _, _, _, _, _, _, _, _, _, _]) 20 0 3 bG rfl rfl rfl
 refine ND ?_
 refine M3 ?_
 intros
 refine Mg c18 (bV rfl hh) fun _ => ?_
 refine Mg c18 (cG 0 rfl hh (fa rfl) rfl) fun _ => ?_
 refine eD (od := odC [1] false (fSl bF a0.Chans) [cZ]) (ps := [1]) (φ := fSl bF a0.Chans) rfl (fun _ => rfl) ⟨_, _, rfl, rfl, c18⟩ rfl rfl (bY rfl (has rfl) (sc rfl) rfl Ent.rfl) (fun _ => ?_)
 refine Mg c18 (fW rfl hh (us rfl)) fun _ => ?_
 refine Mg c18 (qQ rfl hh hh) fun _ => ?_
 refine My (cI rfl hh c18 hh) fun _ => ?_
 refine M1 ?_
 intros
 refine Mt c19 fun _ => ?_
 refine Mt c19 fun _ => ?_
 refine Mt c19 fun _ => ?_
 refine Mt c19 fun _ => ?_
 refine Mt c19 fun _ => ?_
 refine Mt c19 fun _ => ?_
 refine Mt c19 fun _ => ?_
 refine Mt c19 fun _ => ?_
 refine Mt c19 fun _ => ?_
 refine My (dF rfl hh c19 hh) fun _ => ?_
 revert H; refine B9 fun r18 H e18 => ?_
 cases e18; cases Hr5
 revert H; refine B4 fun r19 H e19 => ?_
 cases e19; cases Hr4
 revert H; refine B3 fun r20 H e20 => ?_
 cases e20; cases Hr3
 cases H
 refine aG [] (by decide) ?_
 exact To
 exact fk
 kernel_rfl
 revert H; refine bs fun y10 h12 H => ?_
 apply bH (ods := [_, _, _, _, _, _, _, _, _, _, _, _, _, _, _, _, _, _, _, _]) 20 0 3 bG rfl rfl rfl
 refine ND ?_
 refine M3 ?_
 intros
 refine Mg c18 (bV rfl hh) fun _ => ?_
 refine Mg c18 (cG 0 rfl hh (fa rfl) rfl) fun _ => ?_
 refine eD (od := odC [1] false (fSl bF a0.Chans) [cZ]) (ps := [1]) (φ := fSl bF a0.Chans) rfl (fun _ => rfl) ⟨_, _, rfl, rfl, c18⟩ rfl rfl (bY rfl (has rfl) (sc rfl) rfl Ent.rfl) (fun _ => ?_)
 refine Mg c18 (fW rfl hh (us rfl)) fun _ => ?_
 refine Mg c18 (qQ rfl hh hh) fun _ => ?_
 refine My (cI rfl hh c18 hh) fun _ => ?_
 refine M1 ?_
 intros
 refine Mg c19 (cG 0 rfl hh (fa rfl) rfl) fun _ => ?_
 refine eD (od := odC [1] false (fSl bF a0.Chans) [cZ]) (ps := [1]) (φ := fSl bF a0.Chans) rfl (fun _ => rfl) ⟨_, _, rfl, rfl, c19⟩ rfl rfl (bY rfl (has rfl) (sc rfl) rfl Ent.rfl) (fun _ => ?_)
 refine Mg c19 (bV rfl hh) fun _ => ?_
 refine Mg c19 (cC rfl hh hh (el rfl) h12) fun _ => ?_
 refine Mg c19 (fT (t' := (aB .i64)) (z := y10.At) rfl hh (fa rfl) rfl) fun _ => ?_
 refine Mg c19 (fP rfl hh (sc rfl) rfl) fun _ => ?_
 refine Mg c19 (cG 0 rfl hh (fa rfl) rfl) fun _ => ?_
 refine eD (od := odC [0] false (aA .i64 y8.At) [cZ]) (ps := [0]) (φ := aA .i64 y8.At) rfl (fun _ => rfl) ⟨_, _, rfl, rfl, c19⟩ rfl rfl (bY rfl (has rfl) (sc rfl) rfl Ent.rfl) (fun _ => ?_)
 refine Mg c19 (rI rfl hh hh) fun _ => ?_
 refine My (cI rfl hh c19 hh) fun _ => ?_
 revert H; refine I2 (fun c20 H => ?_) fun c20 H => ?_
 refine cY (has rfl) c20 ?_
 revert H; refine B6 fun r21 H e21 => ?_
 cases e21; cases Hr5
 revert H; refine B4 fun r22 H e22 => ?_
 cases e22; cases Hr4
 revert H; refine B3 fun r23 H e23 => ?_
 cases e23; cases Hr3
 cases H
 refine aG [] (by decide) ?_
 exact To
 refine dD (has rfl) c20 ?_
 revert H; refine B2 fun o6 H Hr6 => ?_
 refine aW (ι := Unit) (fun i => o6 = Sum.inl ()) (fun i => [(1, fEq (ptr b1)), (5, fEq v1), (6, aA .i64 x9), (7, fEq (ptr b3)), (8, aA .i64 x14), (9, aA .i64 y9)]) (fun i => [aC b3 105 [aA .i64 y8.At, fSl (aB .i64) y8.Joins, aA .i64 y8.Node], aC b1 99 [fSl bF a0.Chans, fSl bW a0.Spots, fSl bK a0.Rules], aE v1 4 cD x13]) ?_ ?_
 refine Z4 ?_
 refine Tl (ι := Nat × Int) (fun i => pJ y8 x14 y9 i.1 i.2 = _) (fun i => i.1) (fun i => [(1, fEq (ptr b1)), (5, fEq v1), (6, aA .i64 x9), (7, fEq (ptr b3)), (8, aA .i64 x14), (9, aA .i64 y9), (10, aA .i64 i.2)]) (fun i => [aC b3 105 [aA .i64 y8.At, fSl (aB .i64) y8.Joins, aA .i64 y8.Node], aC b1 99 [fSl bF a0.Chans, fSl bW a0.Spots, fSl bK a0.Rules], aE v1 4 cD x13]) (fuel, 0) H ?_
 clear H; rintro ⟨k5, x17⟩ H
 replace H : pJ y8 x14 y9 k5 x17 = _ := H
 try dsimp only
 obtain _ | k5 := k5
 rw [pJ] at H; cases H
 rw [pJ] at H
 refine aH ?_
 revert H; refine I5 (fun c21 H => ?_) fun c21 H => ?_
 refine cY (has rfl) c21 ?_
 refine Z2 ?_
 refine aH ?_
 revert H; refine B5 fun y11 h13 H => ?_
 refine Yy (cC rfl hh hh (el rfl) h13) ?_
 revert H; refine I4 (fun c22 H => ?_) fun c22 H => ?_
 refine cY (has rfl) c22 ?_
 revert H; refine B9 fun r24 H e24 => ?_
 cases e24; cases Hr6
 revert H; refine B2 fun r25 H e25 => ?_
 cases e25; cases Hr5
 revert H; refine B4 fun r26 H e26 => ?_
 cases e26; cases Hr4
 revert H; refine B3 fun r27 H e27 => ?_
 cases e27; cases Hr3
 cases H
 refine aG [] (by decide) ?_
 exact To
 refine dD (has rfl) c22 ?_
 revert H; refine B5 fun z3 h14 H => ?_
 refine Yy (fI rfl hh hh h14) ?_
 refine Z2 ?_
 exact Tm ((k5, z3)) ⟨H, ls⟩
 refine dD (has rfl) c21 ?_
 refine Z5 ?_
 exact Tm (()) (ij H)
 clear H; intro i hi; subst o6; have H := Hr6; clear Hr6; try dsimp only at H
 try dsimp only
 revert H; refine B3 fun y12 h15 H => ?_
 refine Yo 2 rfl (gF rfl hh hh (el rfl) h15) ?_
 refine eH ?_
 refine vC (z' := true) trivial rfl rfl rfl (has rfl) (has rfl) (aD trivial) (sz rfl) (bB h15) rfl rfl ?_
 refine Z3 ?_
 refine aG [1, 2, 0] (by decide) ?_
 exact Tm (x13.set y9.toNat true) (ij H)
 exact fk
 kernel_rfl
 clear H; intro x15 hi; subst o5; have H := Hr5; clear Hr5; try dsimp only at H
 try dsimp only
 revert H; refine B2 fun z4 h16 H => ?_
 refine Yy (fI rfl hh hh h16) ?_
 refine Z2 ?_
 exact Tm ((k4, x15, z4)) ⟨H, ls⟩
 refine dD (has rfl) c17 ?_
 refine Z6 ?_
 refine aG [1, 2] (by decide) ?_
 exact Tm (x13) (ij H)
 clear H; intro x10 hi; subst o4; have H := Hr4; clear Hr4; try dsimp only at H
 try dsimp only
 revert H; refine B2 fun z5 h17 H => ?_
 refine Yy (fI rfl hh hh h17) ?_
 refine Z2 ?_
 exact Tm ((k3, x10, z5)) ⟨H, ls⟩
 refine dD (has rfl) c12 ?_
 refine Z5 ?_
 exact Tm (x8) (ij H)
 clear H; intro x5 hi; subst o3; have H := Hr3; clear Hr3; try dsimp only at H
 try dsimp only
 revert H; refine bs fun o7 H Hr7 => ?_
 refine aW (ι := Unit) (fun i => o7 = Sum.inl ()) (fun i => []) (fun i => [aC b1 99 [fSl bF a0.Chans, fSl bW a0.Spots, fSl bK a0.Rules]]) ?_ ?_
 refine Z4 ?_
 refine Tl (ι := Nat × Int) (fun i => oW x5 i.1 i.2 = _) (fun i => i.1) (fun i => [(5, fEq v1), (11, aA .i64 i.2)]) (fun i => [aC b1 99 [fSl bF a0.Chans, fSl bW a0.Spots, fSl bK a0.Rules], aE v1 4 cD x5]) (fuel, 0) H ?_
 clear H; rintro ⟨k6, x19⟩ H
 replace H : oW x5 k6 x19 = _ := H
 try dsimp only
 obtain _ | k6 := k6
 rw [oW] at H; cases H
 rw [oW] at H
 refine aH ?_
 revert H; refine I6 (fun c23 H => ?_) fun c23 H => ?_
 refine cY (has rfl) c23 ?_
 refine Z2 ?_
 refine aH ?_
 revert H; refine B4 fun y13 h18 H => ?_
 refine Yo 1 rfl (gF rfl hh hh (el rfl) h18) ?_
 refine Yo 1 rfl (gN rfl rfl hh (sc rfl) (bB h18) rfl) ?_
 refine Z2 ?_
 revert H; refine cs (fun c24 H => ?_) fun c24 H => ?_
 refine dD (has rfl) (oP c24) ?_
 revert H; refine B5 fun z6 h19 H => ?_
 refine Yy (fI rfl hh hh h19) ?_
 refine Z2 ?_
 exact Tm ((k6, z6)) ⟨H, ls⟩
 refine cY (has rfl) (oZ c24) ?_
 revert H; refine B9 fun r28 H e28 => ?_
 cases e28; cases Hr7
 cases H
 refine aG [] (by decide) ?_
 exact To
 refine dD (has rfl) c23 ?_
 refine Z5 ?_
 refine aG [0] (by decide) ?_
 exact Tm (()) (ij H)
 clear H; intro i hi; subst o7; have H := Hr7; clear Hr7; try dsimp only at H
 try dsimp only
 refine Z4 ?_
 cases H
 refine aG [] (by decide) ?_
 exact To
end Go.Proofs.YtmnbfgeljmhekaaGreat
set_option maxRecDepth 100000
set_option maxHeartbeats 2000000
namespace Go.Proofs.YtmnbfgeljmhekaaGreat
open Go.SX Go.SW Go.Dt
attribute [local irreducible] Code.wpIn wpListIn Exit.then Exit.inBlock
def tQ (a0 : Int) : Option (Int × Int × Bool) :=
 (if a0 = 1 then
  some (decide (a0 = 1))
 else
  some (decide (a0 = 7))).bind fun x1 =>
 bif x1 then
  some (0, 0, true)
 else
  if a0 = 2 then
   some ((-1), 0, true)
  else
   if a0 = 3 then
    some (0, 2, true)
   else
    if a0 = 5 then
     some (1, 2, true)
    else
     (if a0 = 4 then
      some (decide (a0 = 4))
     else
      if a0 = 6 then
       some (decide (a0 = 6))
      else
       some (decide (a0 = 8))).bind fun x2 =>
     bif x2 then
      some (0, 1, true)
     else
      some (0, 0, false)
theorem aGy  (a0 : Int) (r : Int × Int × Bool) (H : tQ a0 = some r) : FnS Tryz.prog 104 [aA .i64 a0] [] (dG [aA .i64 r.1, aA .i64 r.2.1, aI r.2.2]) (fun _ => []) := by
 unfold tQ at H
 refine bD Tryz.func104 rfl Tryz.ntmps104 rfl (fun β => ?_)
 refine Z5 ?_
 refine aH ?_
 revert H; refine B4 fun o1 H Hr1 => ?_
 refine aW (ι := Bool) (fun i => o1 = i) (fun i => [(5, aA .i64 a0), (6, aI i)]) (fun i => []) ?_ ?_
 revert H; refine I4 (fun c1 H => ?_) fun c1 H => ?_
 refine Z3 ?_
 exact Tm (decide (a0 = 1)) (ij H)
 refine Z5 ?_
 exact Tm (decide (a0 = 7)) (ij H)
 clear H; intro x1 hi; subst o1; have H := Hr1; clear Hr1; try dsimp only at H
 try dsimp only
 revert H; refine cs (fun c2 H => ?_) fun c2 H => ?_
 refine Z9 ?_
 cases H
 exact vM rfl (bO rfl) (bO rfl) (bO rfl) rfl
 revert H; refine I5 (fun c3 H => ?_) fun c3 H => ?_
 refine Z9 ?_
 cases H
 exact vM rfl (bO rfl) (bO rfl) (bO rfl) rfl
 revert H; refine I5 (fun c4 H => ?_) fun c4 H => ?_
 refine Z9 ?_
 cases H
 exact vM rfl (bO rfl) (bO rfl) (bO rfl) rfl
 revert H; refine I5 (fun c5 H => ?_) fun c5 H => ?_
 refine Z9 ?_
 cases H
 exact vM rfl (bO rfl) (bO rfl) (bO rfl) rfl
 revert H; refine B1 fun o2 H Hr2 => ?_
 refine aW (ι := Bool) (fun i => o2 = i) (fun i => [(15, aI i)]) (fun i => []) ?_ ?_
 revert H; refine I4 (fun c6 H => ?_) fun c6 H => ?_
 refine Z3 ?_
 exact Tm (decide (a0 = 4)) (ij H)
 revert H; refine I5 (fun c7 H => ?_) fun c7 H => ?_
 refine Z3 ?_
 exact Tm (decide (a0 = 6)) (ij H)
 refine Z5 ?_
 exact Tm (decide (a0 = 8)) (ij H)
 clear H; intro x2 hi; subst o2; have H := Hr2; clear Hr2; try dsimp only at H
 try dsimp only
 revert H; refine cs (fun c8 H => ?_) fun c8 H => ?_
 refine Z9 ?_
 cases H
 exact vM rfl (bO rfl) (bO rfl) (bO rfl) rfl
 refine Z10 ?_
 cases H
 exact vM rfl (bO rfl) (bO rfl) (bO rfl) rfl
def pD (rec_r03_expNodes : ScopeExp → Int → Option (Int)) (a0 : ScopeExp) (a1 : Int) : Nat → Int → Int → Option (Int)
| 0, _, _ => none
| k + 1, x4, x5 =>
 if x5 < (a0.Kids.length : Int) then
  if x4 ≤ a1 then
   (idx a0.Kids x5).bind fun y1 =>
   (chk (a1 - x4)).bind fun z1 =>
   (rec_r03_expNodes y1 z1).bind fun y2 =>
   (chk (x4 + y2)).bind fun z2 =>
   (chk (x5 + 1)).bind fun z3 =>
   pD rec_r03_expNodes a0 a1 k z2 z3
  else
   some x4
 else
  some x4
def oE : Nat → ScopeExp → Int → Option (Int)
| 0, _, _ => none
| fuel + 1, a0, a1 =>
 (pD (oE fuel) a0 a1 fuel 1 0).bind fun x1 =>
 some x1
theorem aIB : ∀ (fuel : Nat), (∀  (a0 : ScopeExp) (a1 : Int) (r : Int) (H : oE fuel a0 a1 = some r), FnS Tryz.prog 118 [fSt bA a0, aA .i64 a1] [] (aA .i64 r) (fun _ => [])) := by
 intro fuel
 induction fuel with
 | zero => exact fun a0 a1 r H => (by rw [oE] at H; cases H)
 | succ fuel ih =>
 have ih_r03_expNodes := ih
 refine ?_
 intro a0 a1 r H
 rw [oE] at H
 refine bD Tryz.func118 rfl Tryz.ntmps118 rfl (fun β => ?_)
 refine Z1 ?_
 refine Tn (cF rfl (has rfl) bQ) fun b1 => ?_
 revert H; refine B5 fun o1 H Hr1 => ?_
 refine aW (ι := Int) (fun i => o1 = i) (fun i => [(5, aA .i64 i)]) (fun i => [aC b1 56 [aA .i64 a0.Op, aA .i64 a0.N, gE a0.Kids]]) ?_ ?_
 refine Z4 ?_
 refine Tl (ι := Nat × Int × Int) (fun i => pD (oE fuel) a0 a1 i.1 i.2.1 i.2.2 = _) (fun i => i.1) (fun i => [(1, aA .i64 a1), (2, fEq (ptr b1)), (5, aA .i64 i.2.1), (6, aA .i64 i.2.2)]) (fun i => [aC b1 56 [aA .i64 a0.Op, aA .i64 a0.N, gE a0.Kids]]) (fuel, 1, 0) H ?_
 clear H; rintro ⟨k1, x4, x5⟩ H
 replace H : pD (oE fuel) a0 a1 k1 x4 x5 = _ := H
 try dsimp only
 obtain _ | k1 := k1
 rw [pD] at H; cases H
 rw [pD] at H
 refine aH ?_
 refine Z3 ?_
 refine Yo 0 rfl (bY rfl hh (sc rfl) rfl (jN iO)) ?_
 revert H; refine I3 (fun c1 H => ?_) fun c1 H => ?_
 revert H; refine I5 (fun c2 H => ?_) fun c2 H => ?_
 refine Z3 ?_
 refine aH ?_
 refine Z4 ?_
 refine Yo 0 rfl (bY rfl hh (sc rfl) rfl (jN iO)) ?_
 revert H; refine B1 fun y1 h1 H => ?_
 revert H; refine B4 fun z1 h2 H => ?_
 revert H; refine B1 fun y2 h3 H => ?_
 refine Tc (ih_r03_expNodes _ _ _ h3) ?_
 revert H; refine bs fun z2 h4 H => ?_
 revert H; refine B7 fun z3 h5 H => ?_
 refine Z3 ?_
 exact Tm ((k1, z2, z3)) ⟨H, ls⟩
 refine Z6 ?_
 exact Tm (x4) (ij H)
 refine Z11 ?_
 exact Tm (x4) (ij H)
 clear H; intro x1 hi; subst o1; have H := Hr1; clear Hr1; try dsimp only at H
 try dsimp only
 refine Z5 ?_
 cases H
 refine aG [] (by decide) ?_
 exact To
def pR (rec_r03_expDepth : ScopeExp → Option (Int)) (a0 : ScopeExp) : Nat → Int → Int → Option (Int)
| 0, _, _ => none
| k + 1, x4, x5 =>
 if x5 < (a0.Kids.length : Int) then
  (idx a0.Kids x5).bind fun y1 =>
  (rec_r03_expDepth y1).bind fun y2 =>
  (chk (x5 + 1)).bind fun z1 =>
  pR rec_r03_expDepth a0 k (max x4 y2) z1
 else
  some x4
def mP : Nat → ScopeExp → Option (Int)
| 0, _ => none
| fuel + 1, a0 =>
 (pR (mP fuel) a0 fuel 0 0).bind fun x1 =>
 (chk (x1 + 1)).bind fun z2 =>
 some z2
theorem aHM : ∀ (fuel : Nat), (∀  (a0 : ScopeExp) (r : Int) (H : mP fuel a0 = some r), FnS Tryz.prog 119 [fSt bA a0] [] (aA .i64 r) (fun _ => [])) := by
 intro fuel
 induction fuel with
 | zero => exact fun a0 r H => (by rw [mP] at H; cases H)
 | succ fuel ih =>
 have ih_r03_expDepth := ih
 refine ?_
 intro a0 r H
 rw [mP] at H
 refine bD Tryz.func119 rfl Tryz.ntmps119 rfl (fun β => ?_)
 refine Z1 ?_
 refine Tn (cF rfl (has rfl) bQ) fun b1 => ?_
 revert H; refine B5 fun o1 H Hr1 => ?_
 refine aW (ι := Int) (fun i => o1 = i) (fun i => [(3, aA .i64 i)]) (fun i => [aC b1 56 [aA .i64 a0.Op, aA .i64 a0.N, gE a0.Kids]]) ?_ ?_
 refine Z4 ?_
 refine Tl (ι := Nat × Int × Int) (fun i => pR (mP fuel) a0 i.1 i.2.1 i.2.2 = _) (fun i => i.1) (fun i => [(1, fEq (ptr b1)), (3, aA .i64 i.2.1), (4, aA .i64 i.2.2)]) (fun i => [aC b1 56 [aA .i64 a0.Op, aA .i64 a0.N, gE a0.Kids]]) (fuel, 0, 0) H ?_
 clear H; rintro ⟨k1, x4, x5⟩ H
 replace H : pR (mP fuel) a0 k1 x4 x5 = _ := H
 try dsimp only
 obtain _ | k1 := k1
 rw [pR] at H; cases H
 rw [pR] at H
 refine aH ?_
 refine Z3 ?_
 refine Yo 0 rfl (bY rfl hh (sc rfl) rfl (jN iO)) ?_
 revert H; refine I3 (fun c1 H => ?_) fun c1 H => ?_
 refine Z3 ?_
 refine aH ?_
 refine Z4 ?_
 refine Yo 0 rfl (bY rfl hh (sc rfl) rfl (jN iO)) ?_
 revert H; refine B1 fun y1 h1 H => ?_
 revert H; refine B2 fun y2 h2 H => ?_
 refine Tc (ih_r03_expDepth _ _ h2) ?_
 refine Yy (o_max rfl hh hh) ?_
 revert H; refine B6 fun z1 h3 H => ?_
 refine Z3 ?_
 exact Tm ((k1, max x4 y2, z1)) ⟨H, ls⟩
 refine Z6 ?_
 exact Tm (x4) (ij H)
 clear H; intro x1 hi; subst o1; have H := Hr1; clear Hr1; try dsimp only at H
 try dsimp only
 revert H; refine B2 fun z2 h4 H => ?_
 refine Z4 ?_
 cases H
 refine aG [] (by decide) ?_
 exact To
def qE : Nat → ScopeExp → Int → Option (Bool)
| 0, _, _ => none
| fuel + 1, a0, a1 =>
 if a0.Op = 1 then
  (if (a0.Kids.length : Int) = 0 then
   if (-1000000000) ≤ a0.N then
    some (decide (a0.N ≤ 1000000000))
   else
    some false
  else
   some false).bind fun x1 =>
  some x1
 else
  if a0.Op = 2 then
   (if (a0.Kids.length : Int) = 0 then
    if 0 ≤ a0.N then
     some (decide (a0.N < a1))
    else
     some false
   else
    some false).bind fun x2 =>
   some x2
  else
   if a0.Op < 3 then
    some false
   else
    if 7 < a0.Op then
     some false
    else
     if (a0.Kids.length : Int) ≠ 2 then
      some false
     else
      if a0.N ≠ 0 then
       some false
      else
       ((idx a0.Kids 0).bind fun y1 =>
       ((qE fuel) y1 a1).bind fun y2 =>
       bif y2 then
        (idx a0.Kids 1).bind fun y3 =>
        ((qE fuel) y3 a1).bind fun y4 =>
        some y4
       else
        some false).bind fun x3 =>
       some x3
theorem aGI : ∀ (fuel : Nat), (∀  (a0 : ScopeExp) (a1 : Int) (r : Bool) (H : qE fuel a0 a1 = some r), FnS Tryz.prog 120 [fSt bA a0, aA .i64 a1] [] (aI r) (fun _ => [])) := by
 intro fuel
 induction fuel with
 | zero => exact fun a0 a1 r H => (by rw [qE] at H; cases H)
 | succ fuel ih =>
 have ih_r03_expFormed := ih
 refine ?_
 intro a0 a1 r H
 rw [qE] at H
 refine bD Tryz.func120 rfl Tryz.ntmps120 rfl (fun β => ?_)
 refine Z1 ?_
 refine Tn (cF rfl (has rfl) bQ) fun b1 => ?_
 refine Z2 ?_
 refine aH ?_
 revert H; refine I7 (fun c1 H => ?_) fun c1 H => ?_
 revert H; refine B1 fun o1 H Hr1 => ?_
 refine aW (ι := Bool) (fun i => o1 = i) (fun i => [(4, aI i)]) (fun i => [aC b1 56 [aA .i64 a0.Op, aA .i64 a0.N, gE a0.Kids]]) ?_ ?_
 refine Z2 ?_
 refine Yo 0 rfl (bY rfl hh (sc rfl) rfl (jN iO)) ?_
 revert H; refine I3 (fun c2 H => ?_) fun c2 H => ?_
 revert H; refine I5 (fun c3 H => ?_) fun c3 H => ?_
 refine Z6 ?_
 exact Tm (decide (a0.N ≤ 1000000000)) (ij H)
 refine Z6 ?_
 exact Tm (false) (ij H)
 refine Z11 ?_
 exact Tm (false) (ij H)
 clear H; intro x1 hi; subst o1; have H := Hr1; clear Hr1; try dsimp only at H
 try dsimp only
 refine Z3 ?_
 cases H
 refine aG [] (by decide) ?_
 exact To
 revert H; refine I7 (fun c4 H => ?_) fun c4 H => ?_
 revert H; refine B1 fun o2 H Hr2 => ?_
 refine aW (ι := Bool) (fun i => o2 = i) (fun i => [(4, aI i)]) (fun i => [aC b1 56 [aA .i64 a0.Op, aA .i64 a0.N, gE a0.Kids]]) ?_ ?_
 refine Z2 ?_
 refine Yo 0 rfl (bY rfl hh (sc rfl) rfl (jN iO)) ?_
 revert H; refine I3 (fun c5 H => ?_) fun c5 H => ?_
 revert H; refine I5 (fun c6 H => ?_) fun c6 H => ?_
 refine Z7 ?_
 exact Tm (decide (a0.N < a1)) (ij H)
 refine Z7 ?_
 exact Tm (false) (ij H)
 refine Z12 ?_
 exact Tm (false) (ij H)
 clear H; intro x2 hi; subst o2; have H := Hr2; clear Hr2; try dsimp only at H
 try dsimp only
 refine Z3 ?_
 cases H
 refine aG [] (by decide) ?_
 exact To
 revert H; refine I6 (fun c7 H => ?_) fun c7 H => ?_
 refine Z12 ?_
 refine Z12 ?_
 cases H
 refine aG [] (by decide) ?_
 exact To
 revert H; refine I5 (fun c8 H => ?_) fun c8 H => ?_
 refine Z12 ?_
 refine Z7 ?_
 cases H
 refine aG [] (by decide) ?_
 exact To
 refine Z1 ?_
 refine Yh 0 rfl c8 (bY rfl hh (sc rfl) rfl (jN iO)) ?_
 revert H; refine I4 (fun c9 H => ?_) fun c9 H => ?_
 refine Z12 ?_
 refine Z1 ?_
 cases H
 refine aG [] (by decide) ?_
 exact To
 revert H; refine I6 (fun c10 H => ?_) fun c10 H => ?_
 refine Z7 ?_
 cases H
 refine aG [] (by decide) ?_
 exact To
 revert H; refine B4 fun o3 H Hr3 => ?_
 refine aW (ι := Bool) (fun i => o3 = i) (fun i => [(4, aI i)]) (fun i => [aC b1 56 [aA .i64 a0.Op, aA .i64 a0.N, gE a0.Kids]]) ?_ ?_
 refine Z2 ?_
 refine Yo 0 rfl (bY rfl hh (sc rfl) rfl (jN iO)) ?_
 revert H; refine bs fun y1 h1 H => ?_
 revert H; refine B3 fun y2 h2 H => ?_
 refine Tc (ih_r03_expFormed _ _ _ h2) ?_
 refine Z1 ?_
 revert H; refine cs (fun c11 H => ?_) fun c11 H => ?_
 refine Z1 ?_
 refine Yh 0 rfl c11 (bY rfl hh (sc rfl) rfl (jN iO)) ?_
 revert H; refine bs fun y3 h3 H => ?_
 revert H; refine B3 fun y4 h4 H => ?_
 refine Tc (ih_r03_expFormed _ _ _ h4) ?_
 refine Z3 ?_
 exact Tm (y4) (ij H)
 refine Z9 ?_
 exact Tm (false) (ij H)
 clear H; intro x3 hi; subst o3; have H := Hr3; clear Hr3; try dsimp only at H
 try dsimp only
 refine Z1 ?_
 cases H
 refine aG [] (by decide) ?_
 exact To
def xR (fuel : Nat) (a0 : ScopeExp) (a1 : Int) : Option (Bool) :=
 ((oE fuel (⟨a0.Op, a0.N, a0.Kids⟩ : ScopeExp) 60).bind fun y1 =>
 if y1 ≤ 60 then
  (mP fuel (⟨a0.Op, a0.N, a0.Kids⟩ : ScopeExp)).bind fun y2 =>
  if y2 ≤ 12 then
   (qE fuel (⟨a0.Op, a0.N, a0.Kids⟩ : ScopeExp) a1).bind fun y3 =>
   some y3
  else
   some false
 else
  some false).bind fun x1 =>
 some x1
theorem aH1 (fuel : Nat)  (a0 : ScopeExp) (a1 : Int) (r : Bool) (H : xR fuel a0 a1 = some r) : FnS Tryz.prog 105 [fSt bA a0, aA .i64 a1] [] (aI r) (fun _ => []) := by
 unfold xR at H
 refine bD Tryz.func105 rfl Tryz.ntmps105 rfl (fun β => ?_)
 refine Z1 ?_
 refine Tn (cF rfl (has rfl) bQ) fun b1 => ?_
 revert H; refine B2 fun o1 H Hr1 => ?_
 refine aW (ι := Bool) (fun i => o1 = i) (fun i => [(4, aI i)]) (fun i => [aC b1 56 [aA .i64 a0.Op, aA .i64 a0.N, gE a0.Kids]]) ?_ ?_
 revert H; refine B2 fun y1 h1 H => ?_
 refine Tc (aIB _ _ _ _ h1) ?_
 revert H; refine I2 (fun c1 H => ?_) fun c1 H => ?_
 revert H; refine B1 fun y2 h2 H => ?_
 refine Tc (aHM _ _ _ h2) ?_
 revert H; refine I3 (fun c2 H => ?_) fun c2 H => ?_
 revert H; refine B2 fun y3 h3 H => ?_
 refine Tc (aGI _ _ _ _ h3) ?_
 refine Z3 ?_
 exact Tm (y3) (ij H)
 refine Z6 ?_
 exact Tm (false) (ij H)
 refine Z11 ?_
 exact Tm (false) (ij H)
 clear H; intro x1 hi; subst o1; have H := Hr1; clear Hr1; try dsimp only at H
 try dsimp only
 refine Z1 ?_
 cases H
 refine aG [] (by decide) ?_
 exact To
def tR (a0 : ScopeDef) : Option (Int) :=
 (chk ((a0.Chans.length : Int) + (a0.Spots.length : Int))).bind fun z1 =>
 some z1
theorem aIs  (a0 : ScopeDef) (r : Int) (H : tR a0 = some r) : FnS Tryz.prog 106 [fSt aJ a0] [] (aA .i64 r) (fun _ => []) := by
 unfold tR at H
 refine bD Tryz.func106 rfl Tryz.ntmps106 rfl (fun β => ?_)
 refine Z1 ?_
 refine Tn (cF rfl (has rfl) bQ) fun b1 => ?_
 revert H; refine B9 fun z1 h1 H => ?_
 refine Z4 ?_
 cases H
 refine aG [] (by decide) ?_
 exact To
def pF (a0 : ScopeDef) (a1 : ScopeRule) : Nat → Int → Int → Option (Int)
| 0, _, _ => none
| k + 1, x4, x5 =>
 if x5 < (a1.Joins.length : Int) then
  (idx a1.Joins x5).bind fun y1 =>
  (idx a0.Chans y1).bind fun y2 =>
  (chk (x4 + y2.Many)).bind fun z1 =>
  (chk (x5 + 1)).bind fun z2 =>
  pF a0 a1 k z1 z2
 else
  some x4
def xK (fuel : Nat) (a0 : ScopeDef) (a1 : ScopeRule) : Option (Int) :=
 (pF a0 a1 fuel 0 0).bind fun x1 =>
 some x1
theorem aIJ (fuel : Nat)  (a0 : ScopeDef) (a1 : ScopeRule) (r : Int) (H : xK fuel a0 a1 = some r) : FnS Tryz.prog 121 [fSt aJ a0, fSt bK a1] [] (aA .i64 r) (fun _ => []) := by
 unfold xK at H
 refine bD Tryz.func121 rfl Tryz.ntmps121 rfl (fun β => ?_)
 refine Z1 ?_
 refine Tn (cF rfl (has rfl) bQ) fun b1 => ?_
 refine Tn (cF rfl (has rfl) bQ) fun b2 => ?_
 revert H; refine B5 fun o1 H Hr1 => ?_
 refine aW (ι := Int) (fun i => o1 = i) (fun i => [(5, aA .i64 i)]) (fun i => [aC b2 105 [aA .i64 a1.At, fSl (aB .i64) a1.Joins, aA .i64 a1.Node], aC b1 99 [fSl bF a0.Chans, fSl bW a0.Spots, fSl bK a0.Rules]]) ?_ ?_
 refine Z4 ?_
 refine Tl (ι := Nat × Int × Int) (fun i => pF a0 a1 i.1 i.2.1 i.2.2 = _) (fun i => i.1) (fun i => [(2, fEq (ptr b1)), (3, fEq (ptr b2)), (5, aA .i64 i.2.1), (6, aA .i64 i.2.2)]) (fun i => [aC b2 105 [aA .i64 a1.At, fSl (aB .i64) a1.Joins, aA .i64 a1.Node], aC b1 99 [fSl bF a0.Chans, fSl bW a0.Spots, fSl bK a0.Rules]]) (fuel, 0, 0) H ?_
 clear H; rintro ⟨k1, x4, x5⟩ H
 replace H : pF a0 a1 k1 x4 x5 = _ := H
 try dsimp only
 obtain _ | k1 := k1
 rw [pF] at H; cases H
 rw [pF] at H
 refine aH ?_
 revert H; refine I7 (fun c1 H => ?_) fun c1 H => ?_
 refine Z3 ?_
 refine aH ?_
 revert H; refine B1 fun y1 h1 H => ?_
 revert H; refine bs fun y2 h2 H => ?_
 revert H; refine bs fun z1 h3 H => ?_
 apply bH (ods := [_, _, _, _, _, _, _, _, _, _, _, _, _]) 13 0 2 bG rfl rfl rfl
 refine ND ?_
 refine M8 ?_
 intros
 refine M5 ?_
 intros
 revert H; refine B6 fun z2 h4 H => ?_
 refine Z3 ?_
 exact Tm ((k1, z1, z2)) ⟨H, ls⟩
 exact fk
 kernel_rfl
 refine Z6 ?_
 exact Tm (x4) (ij H)
 clear H; intro x1 hi; subst o1; have H := Hr1; clear Hr1; try dsimp only at H
 try dsimp only
 refine Z5 ?_
 cases H
 refine aG [] (by decide) ?_
 exact To
end Go.Proofs.YtmnbfgeljmhekaaGreat
set_option maxRecDepth 100000
set_option maxHeartbeats 2000000
namespace Go.Proofs.YtmnbfgeljmhekaaGreat
open Go.SX Go.SW Go.Dt
attribute [local irreducible] Code.wpIn wpListIn Exit.then Exit.inBlock
def jX (fuel : Nat) (a2 : Int) (y5 : ScopeNode) : Nat → Int → Bool → Option (Bool)
| 0, _, _ => none
| k + 1, x4, x5 =>
 if x4 < (y5.Args.length : Int) then
  (bif x5 then
   some true
  else
   (idx y5.Args x4).bind fun y7 =>
   (xR fuel y7 a2).bind fun y8 =>
   some (!y8)).bind fun x6 =>
  (chk (x4 + 1)).bind fun z2 =>
  jX fuel a2 y5 k z2 x6
 else
  some x5
def jH (rec_r03_look_node : Ref03_look → Int → Int → Option (Ref03_look)) (y5 : ScopeNode) (x7 : Int) : Nat → Int → (List ByteArray) → (List ScopeNode) → (List ScopeDef) → Int → (List Int) → (List Int) → (List Int) → Bool → Option (Ref03_look)
| 0, _, _, _, _, _, _, _, _, _ => none
| k + 1, x26, x27, x28, x29, x30, x31, x32, x33, x34 =>
 if x26 < (y5.Kids.length : Int) then
  bif x34 then
   some (⟨(⟨x27, x28, x29, x30⟩ : ScopeProg), x31, x32, x33, x34⟩ : Ref03_look)
  else
   (idx y5.Kids x26).bind fun y16 =>
   (rec_r03_look_node (⟨(⟨x27, x28, x29, x30⟩ : ScopeProg), x31, x32, x33, x34⟩ : Ref03_look) y16 x7).bind fun y17 =>
   (chk (x26 + 1)).bind fun z5 =>
   jH rec_r03_look_node y5 x7 k z5 y17.p.Free y17.p.Nodes y17.p.Defs y17.p.Main y17.sizes y17.owner y17.users y17.bad
 else
  some (⟨(⟨x27, x28, x29, x30⟩ : ScopeProg), x31, x32, x33, x34⟩ : Ref03_look)
def lP (fuel : Nat) (rec_r03_look_node : Ref03_look → Int → Int → Option (Ref03_look)) (a1 : ScopeDef) (a2 : Int) : Nat → Int → (List ByteArray) → (List ScopeNode) → (List ScopeDef) → Int → (List Int) → (List Int) → (List Int) → Bool → Option (List ByteArray × List ScopeNode × List ScopeDef × Int × List Int × List Int × List Int × Bool)
| 0, _, _, _, _, _, _, _, _, _ => none
| k + 1, x18, x19, x20, x21, x22, x23, x24, x25, x26 =>
 if x18 < (a1.Rules.length : Int) then
  bif x26 then
   some (x19, x20, x21, x22, x23, x24, x25, x26)
  else
   (idx a1.Rules x18).bind fun y1 =>
   (idx a1.Rules x18).bind fun y2 =>
   (xK fuel (⟨a1.Chans, a1.Spots, a1.Rules⟩ : ScopeDef) y2).bind fun y3 =>
   (chk (a2 + y3)).bind fun z1 =>
   (rec_r03_look_node (⟨(⟨x19, x20, x21, x22⟩ : ScopeProg), x23, x24, x25, x26⟩ : Ref03_look) y1.Node z1).bind fun y4 =>
   (chk (x18 + 1)).bind fun z2 =>
   lP fuel rec_r03_look_node a1 a2 k z2 y4.p.Free y4.p.Nodes y4.p.Defs y4.p.Main y4.sizes y4.owner y4.users y4.bad
 else
  some (x19, x20, x21, x22, x23, x24, x25, x26)
def lV (rec_r03_look_node : Ref03_look → Int → Int → Option (Ref03_look)) (a1 : ScopeDef) (a2 : Int) : Nat → Int → (List ByteArray) → (List ScopeNode) → (List ScopeDef) → Int → (List Int) → (List Int) → (List Int) → Bool → Option (Ref03_look)
| 0, _, _, _, _, _, _, _, _, _ => none
| k + 1, x36, x37, x38, x39, x40, x41, x42, x43, x44 =>
 if x36 < (a1.Spots.length : Int) then
  bif x44 then
   some (⟨(⟨x37, x38, x39, x40⟩ : ScopeProg), x41, x42, x43, x44⟩ : Ref03_look)
  else
   (idx a1.Spots x36).bind fun y5 =>
   (rec_r03_look_node (⟨(⟨x37, x38, x39, x40⟩ : ScopeProg), x41, x42, x43, x44⟩ : Ref03_look) y5.Node a2).bind fun y6 =>
   (chk (x36 + 1)).bind fun z3 =>
   lV rec_r03_look_node a1 a2 k z3 y6.p.Free y6.p.Nodes y6.p.Defs y6.p.Main y6.sizes y6.owner y6.users y6.bad
 else
  some (⟨(⟨x37, x38, x39, x40⟩ : ScopeProg), x41, x42, x43, x44⟩ : Ref03_look)
mutual
def eX : Nat → Ref03_look → Int → Int → Option (Ref03_look)
| 0, _, _, _ => none
| fuel + 1, a0, a1, a2 =>
 if a1 < 0 then
  some (⟨(⟨a0.p.Free, a0.p.Nodes, a0.p.Defs, a0.p.Main⟩ : ScopeProg), a0.sizes, a0.owner, a0.users, true⟩ : Ref03_look)
 else
  if (a0.p.Nodes.length : Int) ≤ a1 then
   some (⟨(⟨a0.p.Free, a0.p.Nodes, a0.p.Defs, a0.p.Main⟩ : ScopeProg), a0.sizes, a0.owner, a0.users, true⟩ : Ref03_look)
  else
   (idx a0.owner a1).bind fun y1 =>
   if 0 < y1 then
    some (⟨(⟨a0.p.Free, a0.p.Nodes, a0.p.Defs, a0.p.Main⟩ : ScopeProg), a0.sizes, a0.owner, a0.users, true⟩ : Ref03_look)
   else
    (idx a0.owner a1).bind fun y2 =>
    (chk (y2 + 1)).bind fun z1 =>
    (idx a0.owner a1).bind fun y3 =>
    (idx a0.sizes a1).bind fun y4 =>
    (idx a0.p.Nodes a1).bind fun y5 =>
    (tQ y5.Op).bind fun y6 =>
    (bif !y6.2.2 then
     (some (⟨(⟨a0.p.Free, a0.p.Nodes, a0.p.Defs, a0.p.Main⟩ : ScopeProg), a0.sizes.set a1.toNat a2, a0.owner.set a1.toNat z1, a0.users, true⟩ : Ref03_look)).bind fun r => some (Sum.inr r)
    else
     if (y5.Kids.length : Int) ≠ y6.2.1 then
      (some (⟨(⟨a0.p.Free, a0.p.Nodes, a0.p.Defs, a0.p.Main⟩ : ScopeProg), a0.sizes.set a1.toNat a2, a0.owner.set a1.toNat z1, a0.users, true⟩ : Ref03_look)).bind fun r => some (Sum.inr r)
     else
      if y6.1 < 0 then
       if 3 < (y5.Args.length : Int) then
        (some (⟨(⟨a0.p.Free, a0.p.Nodes, a0.p.Defs, a0.p.Main⟩ : ScopeProg), a0.sizes.set a1.toNat a2, a0.owner.set a1.toNat z1, a0.users, true⟩ : Ref03_look)).bind fun r => some (Sum.inr r)
       else
        if 0 ≤ y6.1 then
         if (y5.Args.length : Int) ≠ y6.1 then
          (some (⟨(⟨a0.p.Free, a0.p.Nodes, a0.p.Defs, a0.p.Main⟩ : ScopeProg), a0.sizes.set a1.toNat a2, a0.owner.set a1.toNat z1, a0.users, true⟩ : Ref03_look)).bind fun r => some (Sum.inr r)
         else
          some (Sum.inl ())
        else
         some (Sum.inl ())
      else
       if 0 ≤ y6.1 then
        if (y5.Args.length : Int) ≠ y6.1 then
         (some (⟨(⟨a0.p.Free, a0.p.Nodes, a0.p.Defs, a0.p.Main⟩ : ScopeProg), a0.sizes.set a1.toNat a2, a0.owner.set a1.toNat z1, a0.users, true⟩ : Ref03_look)).bind fun r => some (Sum.inr r)
        else
         some (Sum.inl ())
       else
        some (Sum.inl ())).bind fun o => match o with
    | Sum.inr r => some r
    | Sum.inl _ =>
    (jX fuel a2 y5 fuel 0 a0.bad).bind fun x1 =>
    ((if y5.Op = 2 then
     some (decide (y5.Op = 2))
    else
     if y5.Op = 6 then
      some (decide (y5.Op = 6))
     else
      some (decide (y5.Op = 8))).bind fun x16 =>
    bif x16 then
     bif x1 then
      some (Sum.inl (a2, a0.p.Free, a0.p.Nodes, a0.p.Defs, a0.p.Main, a0.sizes.set a1.toNat a2, a0.owner.set a1.toNat z1, a0.users, true))
     else
      if y5.N < 0 then
       some (Sum.inl (a2, a0.p.Free, a0.p.Nodes, a0.p.Defs, a0.p.Main, a0.sizes.set a1.toNat a2, a0.owner.set a1.toNat z1, a0.users, true))
      else
       some (Sum.inl (a2, a0.p.Free, a0.p.Nodes, a0.p.Defs, a0.p.Main, a0.sizes.set a1.toNat a2, a0.owner.set a1.toNat z1, a0.users, decide (a2 ≤ y5.N)))
    else
     if y5.Op = 4 then
      if y5.N < 0 then
       (some (⟨(⟨a0.p.Free, a0.p.Nodes, a0.p.Defs, a0.p.Main⟩ : ScopeProg), a0.sizes.set a1.toNat a2, a0.owner.set a1.toNat z1, a0.users, true⟩ : Ref03_look)).bind fun r => some (Sum.inr r)
      else
       if (a0.p.Defs.length : Int) ≤ y5.N then
        (some (⟨(⟨a0.p.Free, a0.p.Nodes, a0.p.Defs, a0.p.Main⟩ : ScopeProg), a0.sizes.set a1.toNat a2, a0.owner.set a1.toNat z1, a0.users, true⟩ : Ref03_look)).bind fun r => some (Sum.inr r)
       else
        (idx a0.users y5.N).bind fun y9 =>
        if 0 < y9 then
         (some (⟨(⟨a0.p.Free, a0.p.Nodes, a0.p.Defs, a0.p.Main⟩ : ScopeProg), a0.sizes.set a1.toNat a2, a0.owner.set a1.toNat z1, a0.users, true⟩ : Ref03_look)).bind fun r => some (Sum.inr r)
        else
         (idx a0.users y5.N).bind fun y10 =>
         (chk (y10 + 1)).bind fun z3 =>
         (idx a0.users y5.N).bind fun y11 =>
         (idx a0.p.Defs y5.N).bind fun y12 =>
         (tR y12).bind fun y13 =>
         (chk (a2 + y13)).bind fun z4 =>
         (idx a0.p.Defs y5.N).bind fun y14 =>
         ((pK fuel) (⟨(⟨a0.p.Free, a0.p.Nodes, a0.p.Defs, a0.p.Main⟩ : ScopeProg), a0.sizes.set a1.toNat a2, a0.owner.set a1.toNat z1, a0.users.set y5.N.toNat z3, x1⟩ : Ref03_look) y14 z4).bind fun y15 =>
         some (Sum.inl (z4, y15.p.Free, y15.p.Nodes, y15.p.Defs, y15.p.Main, y15.sizes, y15.owner, y15.users, y15.bad))
     else
      bif x1 then
       some (Sum.inl (a2, a0.p.Free, a0.p.Nodes, a0.p.Defs, a0.p.Main, a0.sizes.set a1.toNat a2, a0.owner.set a1.toNat z1, a0.users, true))
      else
       some (Sum.inl (a2, a0.p.Free, a0.p.Nodes, a0.p.Defs, a0.p.Main, a0.sizes.set a1.toNat a2, a0.owner.set a1.toNat z1, a0.users, decide (y5.N ≠ 0)))).bind fun o => match o with
    | Sum.inr r => some r
    | Sum.inl (x7, x8, x9, x10, x11, x12, x13, x14, x15) =>
    jH (eX fuel) y5 x7 fuel 0 x8 x9 x10 x11 x12 x13 x14 x15
def pK : Nat → Ref03_look → ScopeDef → Int → Option (Ref03_look)
| 0, _, _, _ => none
| fuel + 1, a0, a1, a2 =>
 (lP fuel (eX fuel) a1 a2 fuel 0 a0.p.Free a0.p.Nodes a0.p.Defs a0.p.Main a0.sizes a0.owner a0.users a0.bad).bind fun (x1, x2, x3, x4, x5, x6, x7, x8) =>
 lV (eX fuel) a1 a2 fuel 0 x1 x2 x3 x4 x5 x6 x7 x8
end
theorem aH4 : ∀ (fuel : Nat), (∀ (p0 : Nat) (a0 : Ref03_look) (a1 : Int) (a2 : Int) (r : Ref03_look) (H : eX fuel a0 a1 a2 = some r), FnS Tryz.prog 89 [fEq (.pointer (some ⟨p0, 0, none⟩)), aA .i64 a1, aA .i64 a2] [qN p0 a0] (dG []) (fun _ => [qN p0 r])) ∧ (∀ (p0 : Nat) (a0 : Ref03_look) (a1 : ScopeDef) (a2 : Int) (r : Ref03_look) (H : pK fuel a0 a1 a2 = some r), FnS Tryz.prog 107 [fEq (.pointer (some ⟨p0, 0, none⟩)), fSt aJ a1, aA .i64 a2] [qN p0 a0] (dG []) (fun _ => [qN p0 r])) := by
 intro fuel
 induction fuel with
 | zero => exact ⟨fun p0 a0 a1 a2 r H => (by rw [eX] at H; cases H), fun p0 a0 a1 a2 r H => (by rw [pK] at H; cases H)⟩
 | succ fuel ih =>
 obtain ⟨ih_r03_look_node, ih_r03_look_def⟩ := ih
 refine ⟨?_, ?_⟩
 intro p0 a0 a1 a2 r H
 rw [eX] at H
 refine bD Tryz.func89 rfl Tryz.ntmps89 rfl (fun β => ?_)
 refine sM (fun v1 v2 v3 => ?_)
 refine aR 1 rfl (fun hc_v1 => ?_)
 refine aR 2 rfl (fun hc_v2 => ?_)
 refine aR 3 rfl (fun hc_v3 => ?_)
 refine aH ?_
 revert H; refine I4 (fun c1 H => ?_) fun c1 H => ?_
 refine Yt c1 ?_
 refine Yt c1 ?_
 refine Yt c1 ?_
 refine Yt c1 ?_
 refine Yt c1 ?_
 refine Yt c1 ?_
 refine Yt c1 ?_
 refine Yt c1 ?_
 refine Yy (dF rfl hh c1 hh) ?_
 refine Z12 ?_
 refine Z4 ?_
 refine dC (φs' := [fSl aM a0.p.Free, fSl aL a0.p.Nodes, fSl aJ a0.p.Defs, aA .i64 a0.p.Main, fEq v1, fEq v2, fEq v3, aI true]) trivial rfl rfl (has rfl) (has rfl) (aD trivial) (sz rfl) rfl rfl ?_
 refine Z2 ?_
 refine gD (x := (⟨(⟨a0.p.Free, a0.p.Nodes, a0.p.Defs, a0.p.Main⟩ : ScopeProg), a0.sizes, a0.owner, a0.users, true⟩ : Ref03_look)) ?_
 cases H
 exact fJ (.inl rfl) rfl rfl
 refine Yg c1 (bV rfl hh) ?_
 refine Yg c1 (bV rfl hh) ?_
 refine Yg c1 (lC rfl (has rfl) (fun m v h => ⟨_, h⟩)) ?_
 refine Yg c1 (cG 0 rfl hh (fa rfl) rfl) ?_
 refine Yg c1 (cG 1 rfl hh (fa rfl) rfl) ?_
 refine Yh 0 rfl c1 (bY rfl hh (sc rfl) rfl Ent.rfl) ?_
 refine Yg c1 (fW rfl hh (us rfl)) ?_
 refine Yg c1 (qQ rfl hh hh) ?_
 refine Yy (cI rfl hh c1 hh) ?_
 revert H; refine I1 (fun c2 H => ?_) fun c2 H => ?_
 refine Yt c2 ?_
 refine Yt c2 ?_
 refine Yt c2 ?_
 refine Yt c2 ?_
 refine Yt c2 ?_
 refine Yt c2 ?_
 refine Yt c2 ?_
 refine Yt c2 ?_
 refine Yy (dF rfl hh c2 hh) ?_
 refine Z6 ?_
 refine dC (φs' := [fSl aM a0.p.Free, fSl aL a0.p.Nodes, fSl aJ a0.p.Defs, aA .i64 a0.p.Main, fEq v1, fEq v2, fEq v3, aI true]) trivial rfl rfl (has rfl) (has rfl) (aD trivial) (sz rfl) rfl rfl ?_
 refine Z2 ?_
 refine gD (x := (⟨(⟨a0.p.Free, a0.p.Nodes, a0.p.Defs, a0.p.Main⟩ : ScopeProg), a0.sizes, a0.owner, a0.users, true⟩ : Ref03_look)) ?_
 cases H
 exact fJ (.inl rfl) rfl rfl
 refine Yg c2 (bV rfl hh) ?_
 refine Yg c2 (lC rfl (has rfl) (fun m v h => ⟨_, h⟩)) ?_
 refine Yg c2 (cG 5 rfl hh (fa rfl) rfl) ?_
 refine Yh 0 rfl c2 (bY rfl hh (sc rfl) rfl Ent.rfl) ?_
 refine Yg c2 (bV rfl hh) ?_
 revert H; refine bs fun y1 h1 H => ?_
 refine Yh 2 rfl c2 (gF rfl hh hh (el rfl) h1) ?_
 refine Yh 2 rfl c2 (gN rfl rfl hh (sc rfl) (bB h1) rfl) ?_
 refine Yg c2 (gY rfl hh hh) ?_
 refine Yy (cI rfl hh c2 hh) ?_
 revert H; refine I1 (fun c3 H => ?_) fun c3 H => ?_
 refine cY (has rfl) c3 ?_
 refine Z4 ?_
 refine dC (φs' := [fSl aM a0.p.Free, fSl aL a0.p.Nodes, fSl aJ a0.p.Defs, aA .i64 a0.p.Main, fEq v1, fEq v2, fEq v3, aI true]) trivial rfl rfl (has rfl) (has rfl) (aD trivial) (sz rfl) rfl rfl ?_
 refine Z2 ?_
 refine gD (x := (⟨(⟨a0.p.Free, a0.p.Nodes, a0.p.Defs, a0.p.Main⟩ : ScopeProg), a0.sizes, a0.owner, a0.users, true⟩ : Ref03_look)) ?_
 cases H
 exact fJ (.inl rfl) rfl rfl
 refine dD (has rfl) c3 ?_
 revert H; refine B8 fun y2 h2 H => ?_
 refine Yo 2 rfl (gF rfl hh hh (el rfl) h2) ?_
 refine Yo 2 rfl (gN rfl rfl hh (sc rfl) (bB h2) rfl) ?_
 revert H; refine bs fun z1 h3 H => ?_
 refine Yy (fI rfl hh hh h3) ?_
 revert H; refine bs fun y3 h4 H => ?_
 refine Yo 2 rfl (gF rfl hh hh (el rfl) h4) ?_
 refine eH ?_
 refine vC (z' := z1) trivial rfl rfl rfl (has rfl) (has rfl) (aD trivial) (sz rfl) (bB h4) rfl rfl ?_
 revert H; refine B8 fun y4 h5 H => ?_
 refine Yo 2 rfl (gF rfl hh hh (el rfl) h5) ?_
 refine eH ?_
 refine vC (z' := a2) trivial rfl rfl rfl (has rfl) (has rfl) (aD trivial) (sz rfl) (bB h5) rfl rfl ?_
 revert H; refine B8 fun y5 h6 H => ?_
 refine Yy (cC rfl hh hh (el rfl) h6) ?_
 refine Z1 ?_
 refine Tn (cK rfl pN rfl) fun b1 => ?_
 refine dM (φs' := [aA .i64 y5.Op, aA .i64 y5.N, fSl bA y5.Args, fSl (aB .i64) y5.Kids]) trivial rfl rfl (has rfl) (has rfl) (aO (aD trivial) (aO (aD trivial) (aO (aZ) (aO (aZ) bX)))) (sz rfl) rfl rfl rfl ?_
 revert H; refine B4 fun y6 h7 H => ?_
 refine Tc (aGy _ _ h7) ?_
 revert H; refine B8 fun o1 H Hr1 => ?_
 refine aW (ι := Unit) (fun i => o1 = Sum.inl ()) (fun i => [(0, fEq (ptr p0)), (2, aA .i64 a2), (6, fEq (ptr b1))]) (fun i => [aC b1 51 [aA .i64 y5.Op, aA .i64 y5.N, fSl bA y5.Args, fSl (aB .i64) y5.Kids], aC p0 89 [fSl aM a0.p.Free, fSl aL a0.p.Nodes, fSl aJ a0.p.Defs, aA .i64 a0.p.Main, fEq v1, fEq v2, fEq v3, aI a0.bad], aE v1 3 (aB .i64) (a0.sizes.set a1.toNat a2), aE v2 3 (aB .i64) (a0.owner.set a1.toNat z1), aE v3 3 (aB .i64) a0.users]) ?_ ?_
 refine Z4 ?_
 revert H; refine cs (fun c4 H => ?_) fun c4 H => ?_
 refine Yt c4 ?_
 refine Yt c4 ?_
 refine Yt c4 ?_
 refine Yt c4 ?_
 refine Yt c4 ?_
 refine Yy (dF rfl hh c4 hh) ?_
 refine Z4 ?_
 refine dS (⟨_, _, _, _, rfl, rfl, rfl, nu⟩) rfl rfl ?_
 refine dS (⟨_, _, _, _, rfl, rfl, rfl, nu⟩) rfl rfl ?_
 refine dS (⟨_, _, _, _, rfl, rfl, rfl, nu⟩) rfl rfl ?_
 refine dS (⟨_, _, _, _, rfl, rfl, rfl, nu⟩) rfl rfl ?_
 refine Z6 ?_
 refine dS (⟨_, _, _, _, rfl, rfl, rfl, nu⟩) rfl rfl ?_
 refine dS (⟨_, _, _, _, rfl, rfl, rfl, nu⟩) rfl rfl ?_
 refine dS (⟨_, _, _, _, rfl, rfl, rfl, nu⟩) rfl rfl ?_
 refine dS (⟨_, _, _, _, rfl, rfl, rfl, nu⟩) rfl rfl ?_
 refine dS (⟨_, _, _, _, rfl, rfl, rfl, nu⟩) rfl rfl ?_
 refine Z8 ?_
 refine eF ?_
 refine dC (φs' := [fSl aM a0.p.Free, fSl aL a0.p.Nodes, fSl aJ a0.p.Defs, aA .i64 a0.p.Main, fEq v1, fEq v2, fEq v3, aI true]) trivial rfl rfl (has rfl) (has rfl) (aD trivial) (sz rfl) rfl rfl ?_
 revert H; refine B2 fun r1 H e1 => ?_
 cases e1; cases Hr1
 refine bM ?_
 refine bM ?_
 refine bM ?_
 refine eF ?_
 refine gD (x := (⟨(⟨a0.p.Free, a0.p.Nodes, a0.p.Defs, a0.p.Main⟩ : ScopeProg), a0.sizes.set a1.toNat a2, a0.owner.set a1.toNat z1, a0.users, true⟩ : Ref03_look)) ?_
 cases H
 refine aG [0] (by decide) ?_
 exact fJ (.inl rfl) rfl rfl
 refine Yg c4 (cG 3 rfl hh (fa rfl) rfl) ?_
 refine Yh 0 rfl c4 (bY rfl hh (sc rfl) rfl Ent.rfl) ?_
 refine Yg c4 (fW rfl hh (us rfl)) ?_
 refine Yg c4 (bV rfl hh) ?_
 refine Yg c4 (rI rfl hh hh) ?_
 refine Yy (cI rfl hh c4 hh) ?_
 revert H; refine I1 (fun c5 H => ?_) fun c5 H => ?_
 refine Yt c5 ?_
 refine Yt c5 ?_
 refine Yt c5 ?_
 refine dS (⟨_, _, _, _, rfl, rfl, rfl, nu⟩) rfl rfl ?_
 refine dS (⟨_, _, _, _, rfl, rfl, rfl, nu⟩) rfl rfl ?_
 refine dS (⟨_, _, _, _, rfl, rfl, rfl, nu⟩) rfl rfl ?_
 refine dS (⟨_, _, _, _, rfl, rfl, rfl, nu⟩) rfl rfl ?_
 refine Yt c5 ?_
 refine Yy (dF rfl hh c5 hh) ?_
 refine Z4 ?_
 refine dS (⟨_, _, _, _, rfl, rfl, rfl, nu⟩) rfl rfl ?_
 refine dS (⟨_, _, _, _, rfl, rfl, rfl, nu⟩) rfl rfl ?_
 refine dS (⟨_, _, _, _, rfl, rfl, rfl, nu⟩) rfl rfl ?_
 refine dS (⟨_, _, _, _, rfl, rfl, rfl, nu⟩) rfl rfl ?_
 refine dS (⟨_, _, _, _, rfl, rfl, rfl, nu⟩) rfl rfl ?_
 refine Z8 ?_
 refine eF ?_
 refine dC (φs' := [fSl aM a0.p.Free, fSl aL a0.p.Nodes, fSl aJ a0.p.Defs, aA .i64 a0.p.Main, fEq v1, fEq v2, fEq v3, aI true]) trivial rfl rfl (has rfl) (has rfl) (aD trivial) (sz rfl) rfl rfl ?_
 revert H; refine B2 fun r2 H e2 => ?_
 cases e2; cases Hr1
 refine bM ?_
 refine bM ?_
 refine bM ?_
 refine eF ?_
 refine gD (x := (⟨(⟨a0.p.Free, a0.p.Nodes, a0.p.Defs, a0.p.Main⟩ : ScopeProg), a0.sizes.set a1.toNat a2, a0.owner.set a1.toNat z1, a0.users, true⟩ : Ref03_look)) ?_
 cases H
 refine aG [0] (by decide) ?_
 exact fJ (.inl rfl) rfl rfl
 refine Yg c5 (bV rfl hh) ?_
 refine Yg c5 (vJ rfl hh hh) ?_
 refine Yg c5 (bV rfl hh) ?_
 revert H; refine is (fun c6 H => ?_) fun c6 H => ?_
 refine Yg c6 (cG 2 rfl hh (fa rfl) rfl) ?_
 refine Yh 0 rfl c6 (bY rfl hh (sc rfl) rfl Ent.rfl) ?_
 refine Yg c6 (fW rfl hh (us rfl)) ?_
 refine Yg c6 (gY rfl hh hh) ?_
 refine Yg c5 (dF rfl hh c6 hh) ?_
 refine Yy (cI rfl hh c5 hh) ?_
 revert H; refine I1 (fun c7 H => ?_) fun c7 H => ?_
 refine Yt c7 ?_
 refine Yt c7 ?_
 refine Yt c7 ?_
 refine dS (⟨_, _, _, _, rfl, rfl, rfl, nu⟩) rfl rfl ?_
 refine dS (⟨_, _, _, _, rfl, rfl, rfl, nu⟩) rfl rfl ?_
 refine dS (⟨_, _, _, _, rfl, rfl, rfl, nu⟩) rfl rfl ?_
 refine dS (⟨_, _, _, _, rfl, rfl, rfl, nu⟩) rfl rfl ?_
 refine dS (⟨_, _, _, _, rfl, rfl, rfl, nu⟩) rfl rfl ?_
 refine Yt c7 ?_
 refine Yy (dF rfl hh c7 hh) ?_
 refine Z6 ?_
 refine eF ?_
 refine dC (φs' := [fSl aM a0.p.Free, fSl aL a0.p.Nodes, fSl aJ a0.p.Defs, aA .i64 a0.p.Main, fEq v1, fEq v2, fEq v3, aI true]) trivial rfl rfl (has rfl) (has rfl) (aD trivial) (sz rfl) rfl rfl ?_
 revert H; refine B2 fun r3 H e3 => ?_
 cases e3; cases Hr1
 refine bM ?_
 refine bM ?_
 refine bM ?_
 refine eF ?_
 refine gD (x := (⟨(⟨a0.p.Free, a0.p.Nodes, a0.p.Defs, a0.p.Main⟩ : ScopeProg), a0.sizes.set a1.toNat a2, a0.owner.set a1.toNat z1, a0.users, true⟩ : Ref03_look)) ?_
 cases H
 refine aG [0] (by decide) ?_
 exact fJ (.inl rfl) rfl rfl
 refine Yg c7 (bV rfl hh) ?_
 refine Yg c7 (qQ rfl hh hh) ?_
 refine Yg c7 (bV rfl hh) ?_
 revert H; refine is (fun c8 H => ?_) fun c8 H => ?_
 refine Yg c8 (cG 2 rfl hh (fa rfl) rfl) ?_
 refine Yh 0 rfl c8 (bY rfl hh (sc rfl) rfl Ent.rfl) ?_
 refine Yg c8 (fW rfl hh (us rfl)) ?_
 refine Yg c8 (bV rfl hh) ?_
 refine Yg c8 (rI rfl hh hh) ?_
 refine Yg c7 (dF rfl hh c8 hh) ?_
 refine Yy (cI rfl hh c7 hh) ?_
 revert H; refine I1 (fun c9 H => ?_) fun c9 H => ?_
 refine cY (has rfl) c9 ?_
 refine Z4 ?_
 refine eF ?_
 refine dC (φs' := [fSl aM a0.p.Free, fSl aL a0.p.Nodes, fSl aJ a0.p.Defs, aA .i64 a0.p.Main, fEq v1, fEq v2, fEq v3, aI true]) trivial rfl rfl (has rfl) (has rfl) (aD trivial) (sz rfl) rfl rfl ?_
 revert H; refine B2 fun r4 H e4 => ?_
 cases e4; cases Hr1
 refine bM ?_
 refine bM ?_
 refine bM ?_
 refine eF ?_
 refine gD (x := (⟨(⟨a0.p.Free, a0.p.Nodes, a0.p.Defs, a0.p.Main⟩ : ScopeProg), a0.sizes.set a1.toNat a2, a0.owner.set a1.toNat z1, a0.users, true⟩ : Ref03_look)) ?_
 cases H
 refine aG [0] (by decide) ?_
 exact fJ (.inl rfl) rfl rfl
 refine dD (has rfl) c9 ?_
 refine Z2 ?_
 refine aG [0, 3, 1, 2, 4] (by decide) ?_
 exact Tm (()) (ij H)
 refine Yf c8 ?_
 refine Yf c8 ?_
 refine Yf c8 ?_
 refine Yf c8 ?_
 refine Yf c8 ?_
 refine Yg c7 (cI rfl hh c8 hh) ?_
 refine Yy (cI rfl hh c7 hh) ?_
 refine Z4 ?_
 refine aG [0, 3, 1, 2, 4] (by decide) ?_
 exact Tm (()) (ij H)
 refine Yf c6 ?_
 refine Yf c6 ?_
 refine Yf c6 ?_
 refine Yf c6 ?_
 refine Yg c5 (cI rfl hh c6 hh) ?_
 refine Yy (cI rfl hh c5 hh) ?_
 revert H; refine I4 (fun c10 H => ?_) fun c10 H => ?_
 refine Yg c10 (cG 2 rfl hh (fa rfl) rfl) ?_
 refine Yh 0 rfl c10 (bY rfl hh (sc rfl) rfl Ent.rfl) ?_
 refine Yg c10 (fW rfl hh (us rfl)) ?_
 refine Yg c10 (bV rfl hh) ?_
 refine Yg c10 (rI rfl hh hh) ?_
 refine Yg rfl (dF rfl hh c10 hh) ?_
 revert H; refine I2 (fun c11 H => ?_) fun c11 H => ?_
 refine cY (has rfl) c11 ?_
 refine Z4 ?_
 refine eF ?_
 refine dC (φs' := [fSl aM a0.p.Free, fSl aL a0.p.Nodes, fSl aJ a0.p.Defs, aA .i64 a0.p.Main, fEq v1, fEq v2, fEq v3, aI true]) trivial rfl rfl (has rfl) (has rfl) (aD trivial) (sz rfl) rfl rfl ?_
 revert H; refine B2 fun r5 H e5 => ?_
 cases e5; cases Hr1
 refine bM ?_
 refine bM ?_
 refine bM ?_
 refine eF ?_
 refine gD (x := (⟨(⟨a0.p.Free, a0.p.Nodes, a0.p.Defs, a0.p.Main⟩ : ScopeProg), a0.sizes.set a1.toNat a2, a0.owner.set a1.toNat z1, a0.users, true⟩ : Ref03_look)) ?_
 cases H
 refine aG [0] (by decide) ?_
 exact fJ (.inl rfl) rfl rfl
 refine dD (has rfl) c11 ?_
 refine Z2 ?_
 refine aG [0, 3, 1, 2, 4] (by decide) ?_
 exact Tm (()) (ij H)
 refine Yf c10 ?_
 refine Yf c10 ?_
 refine Yf c10 ?_
 refine Yf c10 ?_
 refine Yf c10 ?_
 refine Yg rfl (cI rfl hh c10 hh) ?_
 refine Z5 ?_
 refine aG [0, 3, 1, 2, 4] (by decide) ?_
 exact Tm (()) (ij H)
 clear H; intro i hi; subst o1; have H := Hr1; clear Hr1; try dsimp only at H
 try dsimp only
 revert H; refine bs fun o2 H Hr2 => ?_
 refine aW (ι := Bool) (fun i => o2 = i) (fun i => [(0, fEq (ptr p0)), (2, aA .i64 a2), (6, fEq (ptr b1))]) (fun i => [aC b1 51 [aA .i64 y5.Op, aA .i64 y5.N, fSl bA y5.Args, fSl (aB .i64) y5.Kids], aC p0 89 [fSl aM a0.p.Free, fSl aL a0.p.Nodes, fSl aJ a0.p.Defs, aA .i64 a0.p.Main, fEq v1, fEq v2, fEq v3, aI i], aE v1 3 (aB .i64) (a0.sizes.set a1.toNat a2), aE v2 3 (aB .i64) (a0.owner.set a1.toNat z1), aE v3 3 (aB .i64) a0.users]) ?_ ?_
 refine Z4 ?_
 refine Tl (ι := Nat × Int × Bool) (fun i => jX fuel a2 y5 i.1 i.2.1 i.2.2 = _) (fun i => i.1) (fun i => [(0, fEq (ptr p0)), (2, aA .i64 a2), (6, fEq (ptr b1)), (10, aA .i64 i.2.1)]) (fun i => [aC b1 51 [aA .i64 y5.Op, aA .i64 y5.N, fSl bA y5.Args, fSl (aB .i64) y5.Kids], aC p0 89 [fSl aM a0.p.Free, fSl aL a0.p.Nodes, fSl aJ a0.p.Defs, aA .i64 a0.p.Main, fEq v1, fEq v2, fEq v3, aI i.2.2], aE v1 3 (aB .i64) (a0.sizes.set a1.toNat a2), aE v2 3 (aB .i64) (a0.owner.set a1.toNat z1), aE v3 3 (aB .i64) a0.users]) (fuel, 0, a0.bad) H ?_
 clear H; rintro ⟨k1, x4, x5⟩ H
 replace H : jX fuel a2 y5 k1 x4 x5 = _ := H
 try dsimp only
 obtain _ | k1 := k1
 rw [jX] at H; cases H
 rw [jX] at H
 refine aH ?_
 revert H; refine I7 (fun c12 H => ?_) fun c12 H => ?_
 refine cY (has rfl) c12 ?_
 revert H; refine B2 fun o3 H Hr3 => ?_
 refine aW (ι := Bool) (fun i => o3 = i) (fun i => [(0, fEq (ptr p0)), (2, aA .i64 a2), (6, fEq (ptr b1)), (10, aA .i64 x4)]) (fun i => [aC p0 89 [fSl aM a0.p.Free, fSl aL a0.p.Nodes, fSl aJ a0.p.Defs, aA .i64 a0.p.Main, fEq v1, fEq v2, fEq v3, aI i], aC b1 51 [aA .i64 y5.Op, aA .i64 y5.N, fSl bA y5.Args, fSl (aB .i64) y5.Kids], aE v1 3 (aB .i64) (a0.sizes.set a1.toNat a2), aE v2 3 (aB .i64) (a0.owner.set a1.toNat z1), aE v3 3 (aB .i64) a0.users]) ?_ ?_
 refine Z8 ?_
 revert H; refine cs (fun c13 H => ?_) fun c13 H => ?_
 refine Yt c13 ?_
 refine Yt c13 ?_
 refine Yt c13 ?_
 refine Yt c13 ?_
 refine Yt c13 ?_
 refine Yt c13 ?_
 refine Yt c13 ?_
 refine Yt c13 ?_
 refine Yy (dF rfl hh c13 hh) ?_
 refine Z2 ?_
 refine dH ?_
 refine dC (φs' := [fSl aM a0.p.Free, fSl aL a0.p.Nodes, fSl aJ a0.p.Defs, aA .i64 a0.p.Main, fEq v1, fEq v2, fEq v3, aI true]) trivial rfl rfl (has rfl) (has rfl) (aD trivial) (sz rfl) rfl rfl ?_
 refine Z3 ?_
 exact Tm (true) (ij H)
 refine Yg c13 (cG 2 rfl hh (fa rfl) rfl) ?_
 refine Yh 0 rfl c13 (bY rfl hh (sc rfl) rfl Ent.rfl) ?_
 refine Yg c13 (bV rfl hh) ?_
 revert H; refine bs fun y7 h8 H => ?_
 refine Yg c13 (cC rfl hh hh (el rfl) h8) ?_
 refine Yg c13 (aCy rfl hh (ag rfl)) ?_
 refine Yg c13 (bV rfl hh) ?_
 revert H; refine bs fun y8 h9 H => ?_
 refine Tc (aH1 _ _ _ _ h9) ?_
 refine Yg c13 (kT rfl hh) ?_
 refine Yy (cI rfl hh c13 hh) ?_
 refine Z2 ?_
 refine dH ?_
 refine dC (φs' := [fSl aM a0.p.Free, fSl aL a0.p.Nodes, fSl aJ a0.p.Defs, aA .i64 a0.p.Main, fEq v1, fEq v2, fEq v3, aI (!y8)]) trivial rfl rfl (has rfl) (has rfl) (aD trivial) (sz rfl) rfl rfl ?_
 refine Z3 ?_
 exact Tm (!y8) (ij H)
 clear H; intro x6 hi; subst o3; have H := Hr3; clear Hr3; try dsimp only at H
 try dsimp only
 revert H; refine B2 fun z2 h10 H => ?_
 refine Yy (fI rfl hh hh h10) ?_
 refine Z2 ?_
 refine aG [1, 0, 2, 3, 4] (by decide) ?_
 exact Tm ((k1, z2, x6)) ⟨H, ls⟩
 refine dD (has rfl) c12 ?_
 refine Z5 ?_
 exact Tm (x5) (ij H)
 clear H; intro x1 hi; subst o2; have H := Hr2; clear Hr2; try dsimp only at H
 try dsimp only
 revert H; refine B4 fun o4 H Hr4 => ?_
 refine aW (ι := Int × List ByteArray × List ScopeNode × List ScopeDef × Int × List Int × List Int × List Int × Bool × Value × Value × Value) (fun i => o4 = Sum.inl (i.1, i.2.1, i.2.2.1, i.2.2.2.1, i.2.2.2.2.1, i.2.2.2.2.2.1, i.2.2.2.2.2.2.1, i.2.2.2.2.2.2.2.1, i.2.2.2.2.2.2.2.2.1)) (fun i => [(0, fEq (ptr p0)), (6, fEq (ptr b1)), (11, aA .i64 i.1)]) (fun i => [aC p0 89 [fSl aM i.2.1, fSl aL i.2.2.1, fSl aJ i.2.2.2.1, aA .i64 i.2.2.2.2.1, fEq i.2.2.2.2.2.2.2.2.2.1, fEq i.2.2.2.2.2.2.2.2.2.2.1, fEq i.2.2.2.2.2.2.2.2.2.2.2, aI i.2.2.2.2.2.2.2.2.1], aC b1 51 [aA .i64 y5.Op, aA .i64 y5.N, fSl bA y5.Args, fSl (aB .i64) y5.Kids], aE i.2.2.2.2.2.2.2.2.2.1 3 (aB .i64) i.2.2.2.2.2.1, aE i.2.2.2.2.2.2.2.2.2.2.1 3 (aB .i64) i.2.2.2.2.2.2.1, aE i.2.2.2.2.2.2.2.2.2.2.2 3 (aB .i64) i.2.2.2.2.2.2.2.1]) ?_ ?_
 revert H; refine B5 fun o5 H Hr5 => ?_
 refine aW (ι := Bool) (fun i => o5 = i) (fun i => [(0, fEq (ptr p0)), (2, aA .i64 a2), (6, fEq (ptr b1)), (11, aA .i64 a2), (128, aA .i64 y5.Op), (141, aI i)]) (fun i => [aC b1 51 [aA .i64 y5.Op, aA .i64 y5.N, fSl bA y5.Args, fSl (aB .i64) y5.Kids], aC p0 89 [fSl aM a0.p.Free, fSl aL a0.p.Nodes, fSl aJ a0.p.Defs, aA .i64 a0.p.Main, fEq v1, fEq v2, fEq v3, aI x1], aE v1 3 (aB .i64) (a0.sizes.set a1.toNat a2), aE v2 3 (aB .i64) (a0.owner.set a1.toNat z1), aE v3 3 (aB .i64) a0.users]) ?_ ?_
 revert H; refine I4 (fun c14 H => ?_) fun c14 H => ?_
 refine cY (has rfl) c14 ?_
 refine Z2 ?_
 exact Tm (decide (y5.Op = 2)) (ij H)
 refine dD (has rfl) c14 ?_
 revert H; refine I4 (fun c15 H => ?_) fun c15 H => ?_
 refine cY (has rfl) c15 ?_
 refine Z2 ?_
 exact Tm (decide (y5.Op = 6)) (ij H)
 refine dD (has rfl) c15 ?_
 refine Z4 ?_
 exact Tm (decide (y5.Op = 8)) (ij H)
 clear H; intro x16 hi; subst o5; have H := Hr5; clear Hr5; try dsimp only at H
 try dsimp only
 revert H; refine cs (fun c16 H => ?_) fun c16 H => ?_
 refine cY (has rfl) c16 ?_
 refine Z7 ?_
 revert H; refine cs (fun c17 H => ?_) fun c17 H => ?_
 refine Yt c17 ?_
 refine Yt c17 ?_
 refine Yt c17 ?_
 refine Yy (dF rfl hh c17 hh) ?_
 refine Z8 ?_
 refine dH ?_
 refine dC (φs' := [fSl aM a0.p.Free, fSl aL a0.p.Nodes, fSl aJ a0.p.Defs, aA .i64 a0.p.Main, fEq v1, fEq v2, fEq v3, aI true]) trivial rfl rfl (has rfl) (has rfl) (aD trivial) (sz rfl) rfl rfl ?_
 refine Z3 ?_
 exact Tm ((a2, a0.p.Free, a0.p.Nodes, a0.p.Defs, a0.p.Main, a0.sizes.set a1.toNat a2, a0.owner.set a1.toNat z1, a0.users, true, v1, v2, v3)) (ij H)
 refine Yg c17 (cG 1 rfl hh (fa rfl) rfl) ?_
 refine Yh 0 rfl c17 (bY rfl hh (sc rfl) rfl Ent.rfl) ?_
 refine Yg c17 (vJ rfl hh hh) ?_
 refine Yy (cI rfl hh c17 hh) ?_
 revert H; refine I1 (fun c18 H => ?_) fun c18 H => ?_
 refine Yt c18 ?_
 refine Yt c18 ?_
 refine Yt c18 ?_
 refine Yt c18 ?_
 refine Yy (dF rfl hh c18 hh) ?_
 refine Z2 ?_
 refine dH ?_
 refine dC (φs' := [fSl aM a0.p.Free, fSl aL a0.p.Nodes, fSl aJ a0.p.Defs, aA .i64 a0.p.Main, fEq v1, fEq v2, fEq v3, aI true]) trivial rfl rfl (has rfl) (has rfl) (aD trivial) (sz rfl) rfl rfl ?_
 refine Z3 ?_
 exact Tm ((a2, a0.p.Free, a0.p.Nodes, a0.p.Defs, a0.p.Main, a0.sizes.set a1.toNat a2, a0.owner.set a1.toNat z1, a0.users, true, v1, v2, v3)) (ij H)
 refine Yg c18 (cG 1 rfl hh (fa rfl) rfl) ?_
 refine Yh 0 rfl c18 (bY rfl hh (sc rfl) rfl Ent.rfl) ?_
 refine Yg c18 (bV rfl hh) ?_
 refine Yg c18 (qQ rfl hh hh) ?_
 refine Yy (cI rfl hh c18 hh) ?_
 refine Z2 ?_
 refine dH ?_
 refine dC (φs' := [fSl aM a0.p.Free, fSl aL a0.p.Nodes, fSl aJ a0.p.Defs, aA .i64 a0.p.Main, fEq v1, fEq v2, fEq v3, aI (decide (a2 ≤ y5.N))]) trivial rfl rfl (has rfl) (has rfl) (aD trivial) (sz rfl) rfl rfl ?_
 refine Z3 ?_
 exact Tm ((a2, a0.p.Free, a0.p.Nodes, a0.p.Defs, a0.p.Main, a0.sizes.set a1.toNat a2, a0.owner.set a1.toNat z1, a0.users, decide (a2 ≤ y5.N), v1, v2, v3)) (ij H)
 refine dD (has rfl) c16 ?_
 revert H; refine I4 (fun c19 H => ?_) fun c19 H => ?_
 refine cY (has rfl) c19 ?_
 refine aH ?_
 refine aH ?_
 revert H; refine is (fun c20 H => ?_) fun c20 H => ?_
 apply bH (ods := [_, _, _, _, _, _, _, _, _, _, _, _, _, _, _, _, _, _, _, _, _, _, _, _, _]) 25 0 5 bG rfl rfl rfl
 refine ND ?_
 refine M4 ?_
 intros
 refine Mt c20 fun _ => ?_
 refine Mt c20 fun _ => ?_
 refine Mt c20 fun _ => ?_
 refine Mt c20 fun _ => ?_
 refine Mt c20 fun _ => ?_
 refine Mt c20 fun _ => ?_
 refine Mt c20 fun _ => ?_
 refine Mt c20 fun _ => ?_
 refine Mt c20 fun _ => ?_
 refine My (dF rfl hh c20 hh) fun _ => ?_
 refine M8 ?_
 intros
 refine M3 ?_
 intros
 refine Z7 ?_
 refine dH ?_
 refine dC (φs' := [fSl aM a0.p.Free, fSl aL a0.p.Nodes, fSl aJ a0.p.Defs, aA .i64 a0.p.Main, fEq v1, fEq v2, fEq v3, aI true]) trivial rfl rfl (has rfl) (has rfl) (aD trivial) (sz rfl) rfl rfl ?_
 revert H; refine B4 fun r6 H e6 => ?_
 cases e6; cases Hr4
 refine bM ?_
 refine bM ?_
 refine bM ?_
 refine eF ?_
 refine gD (x := (⟨(⟨a0.p.Free, a0.p.Nodes, a0.p.Defs, a0.p.Main⟩ : ScopeProg), a0.sizes.set a1.toNat a2, a0.owner.set a1.toNat z1, a0.users, true⟩ : Ref03_look)) ?_
 cases H
 refine aG [0] (by decide) ?_
 exact fJ (.inl rfl) rfl rfl
 exact fk
 kernel_rfl
 revert H; refine is (fun c21 H => ?_) fun c21 H => ?_
 apply bH (ods := [_, _, _, _, _, _, _, _, _, _, _, _, _, _, _, _, _, _, _, _, _, _, _, _, _]) 25 0 5 bG rfl rfl rfl
 refine ND ?_
 refine M4 ?_
 intros
 refine Mg c20 (cG 1 rfl hh (fa rfl) rfl) fun _ => ?_
 refine eD (od := odC [0] false (aA .i64 y5.N) [cZ]) (ps := [0]) (φ := aA .i64 y5.N) rfl (fun _ => rfl) ⟨_, _, rfl, rfl, c20⟩ rfl rfl (bY rfl (has rfl) (sc rfl) rfl Ent.rfl) (fun _ => ?_)
 refine Mg c20 (bV rfl hh) fun _ => ?_
 refine Mg c20 (lC rfl (has rfl) (fun m v h => ⟨_, h⟩)) fun _ => ?_
 refine Mg c20 (cG 0 rfl hh (fa rfl) rfl) fun _ => ?_
 refine Mg c20 (cG 2 rfl hh (fa rfl) rfl) fun _ => ?_
 refine eD (od := odC [1] false (fSl aJ a0.p.Defs) [cZ]) (ps := [1]) (φ := fSl aJ a0.p.Defs) rfl (fun _ => rfl) ⟨_, _, rfl, rfl, c20⟩ rfl rfl (bY rfl (has rfl) (sc rfl) rfl Ent.rfl) (fun _ => ?_)
 refine Mg c20 (fW rfl hh (us rfl)) fun _ => ?_
 refine Mg c20 (qQ rfl hh hh) fun _ => ?_
 refine My (cI rfl hh c20 hh) fun _ => ?_
 refine M1 ?_
 intros
 refine Mt c21 fun _ => ?_
 refine Mt c21 fun _ => ?_
 refine Mt c21 fun _ => ?_
 refine Mt c21 fun _ => ?_
 refine Mt c21 fun _ => ?_
 refine Mt c21 fun _ => ?_
 refine Mt c21 fun _ => ?_
 refine Mt c21 fun _ => ?_
 refine Mt c21 fun _ => ?_
 refine My (dF rfl hh c21 hh) fun _ => ?_
 refine Z7 ?_
 refine dH ?_
 refine dC (φs' := [fSl aM a0.p.Free, fSl aL a0.p.Nodes, fSl aJ a0.p.Defs, aA .i64 a0.p.Main, fEq v1, fEq v2, fEq v3, aI true]) trivial rfl rfl (has rfl) (has rfl) (aD trivial) (sz rfl) rfl rfl ?_
 revert H; refine B4 fun r7 H e7 => ?_
 cases e7; cases Hr4
 refine bM ?_
 refine bM ?_
 refine bM ?_
 refine eF ?_
 refine gD (x := (⟨(⟨a0.p.Free, a0.p.Nodes, a0.p.Defs, a0.p.Main⟩ : ScopeProg), a0.sizes.set a1.toNat a2, a0.owner.set a1.toNat z1, a0.users, true⟩ : Ref03_look)) ?_
 cases H
 refine aG [0] (by decide) ?_
 exact fJ (.inl rfl) rfl rfl
 exact fk
 kernel_rfl
 revert H; refine bs fun y9 h11 H => ?_
 apply bH (ods := [_, _, _, _, _, _, _, _, _, _, _, _, _, _, _, _, _, _, _, _, _, _, _, _, _]) 25 0 5 bG rfl rfl rfl
 refine ND ?_
 refine M4 ?_
 intros
 refine Mg c20 (cG 1 rfl hh (fa rfl) rfl) fun _ => ?_
 refine eD (od := odC [0] false (aA .i64 y5.N) [cZ]) (ps := [0]) (φ := aA .i64 y5.N) rfl (fun _ => rfl) ⟨_, _, rfl, rfl, c20⟩ rfl rfl (bY rfl (has rfl) (sc rfl) rfl Ent.rfl) (fun _ => ?_)
 refine Mg c20 (bV rfl hh) fun _ => ?_
 refine Mg c20 (lC rfl (has rfl) (fun m v h => ⟨_, h⟩)) fun _ => ?_
 refine Mg c20 (cG 0 rfl hh (fa rfl) rfl) fun _ => ?_
 refine Mg c20 (cG 2 rfl hh (fa rfl) rfl) fun _ => ?_
 refine eD (od := odC [1] false (fSl aJ a0.p.Defs) [cZ]) (ps := [1]) (φ := fSl aJ a0.p.Defs) rfl (fun _ => rfl) ⟨_, _, rfl, rfl, c20⟩ rfl rfl (bY rfl (has rfl) (sc rfl) rfl Ent.rfl) (fun _ => ?_)
 refine Mg c20 (fW rfl hh (us rfl)) fun _ => ?_
 refine Mg c20 (qQ rfl hh hh) fun _ => ?_
 refine My (cI rfl hh c20 hh) fun _ => ?_
 refine M1 ?_
 intros
 refine Mg c21 (bV rfl hh) fun _ => ?_
 refine Mg c21 (lC rfl (has rfl) (fun m v h => ⟨_, h⟩)) fun _ => ?_
 refine Mg c21 (cG 6 rfl hh (fa rfl) rfl) fun _ => ?_
 refine eD (od := odC [1] false (fEq v3) [cZ]) (ps := [1]) (φ := fEq v3) rfl (fun _ => rfl) ⟨_, _, rfl, rfl, c21⟩ rfl rfl (bY rfl (has rfl) (sc rfl) rfl Ent.rfl) (fun _ => ?_)
 refine Mg c21 (cG 1 rfl hh (fa rfl) rfl) fun _ => ?_
 refine eD (od := odC [0] false (aA .i64 y5.N) [cZ]) (ps := [0]) (φ := aA .i64 y5.N) rfl (fun _ => rfl) ⟨_, _, rfl, rfl, c21⟩ rfl rfl (bY rfl (has rfl) (sc rfl) rfl Ent.rfl) (fun _ => ?_)
 refine eD (od := odC [4] false (iB v3 1 y5.N.toNat 0) [cZ]) (ps := [4]) (φ := iB v3 1 y5.N.toNat 0) rfl (fun _ => rfl) ⟨_, _, rfl, rfl, c21⟩ rfl rfl (gF rfl (has rfl) (has rfl) (el rfl) h11) (fun _ => ?_)
 refine eD (od := odC [4] false (aA .i64 y9) [cZ]) (ps := [4]) (φ := aA .i64 y9) rfl (fun _ => rfl) ⟨_, _, rfl, rfl, c21⟩ rfl rfl (gN rfl rfl (has rfl) (sc rfl) (bB h11) rfl) (fun _ => ?_)
 refine Mg c21 (gY rfl hh hh) fun _ => ?_
 refine My (cI rfl hh c21 hh) fun _ => ?_
 revert H; refine I2 (fun c22 H => ?_) fun c22 H => ?_
 refine cY (has rfl) c22 ?_
 refine Z4 ?_
 refine dH ?_
 refine dC (φs' := [fSl aM a0.p.Free, fSl aL a0.p.Nodes, fSl aJ a0.p.Defs, aA .i64 a0.p.Main, fEq v1, fEq v2, fEq v3, aI true]) trivial rfl rfl (has rfl) (has rfl) (aD trivial) (sz rfl) rfl rfl ?_
 revert H; refine B4 fun r8 H e8 => ?_
 cases e8; cases Hr4
 refine bM ?_
 refine bM ?_
 refine bM ?_
 refine eF ?_
 refine gD (x := (⟨(⟨a0.p.Free, a0.p.Nodes, a0.p.Defs, a0.p.Main⟩ : ScopeProg), a0.sizes.set a1.toNat a2, a0.owner.set a1.toNat z1, a0.users, true⟩ : Ref03_look)) ?_
 cases H
 refine aG [0] (by decide) ?_
 exact fJ (.inl rfl) rfl rfl
 refine dD (has rfl) c22 ?_
 refine Z2 ?_
 refine aH ?_
 revert H; refine bs fun y10 h12 H => ?_
 revert H; refine bs fun z3 h13 H => ?_
 revert H; refine bs fun y11 h14 H => ?_
 apply bH (ods := [_, _, _, _, _, _, _, _, _, _, _]) 11 0 5 bG rfl rfl rfl
 refine ND ?_
 refine M6 ?_
 intros
 refine Mo 4 rfl (gF rfl hh hh (el rfl) h12) fun _ => ?_
 refine Mo 4 rfl (gN rfl rfl hh (sc rfl) (bB h12) rfl) fun _ => ?_
 refine My (fI rfl hh hh h13) fun _ => ?_
 refine Mo 4 rfl (gF rfl hh hh (el rfl) h14) fun _ => ?_
 refine jV (od := odC [4] true (fAny) [aE v3 3 (aB .i64) (a0.users.set y5.N.toNat z3)]) (p := 4) (z' := z3) rfl (fun _ => rfl) (fun _ => rfl) trivial rfl rfl rfl rfl (has rfl) (has rfl) (aD trivial) (sz rfl) (bB h14) rfl rfl (fun _ => ?_)
 refine Z2 ?_
 refine aH ?_
 revert H; refine bs fun y12 h15 H => ?_
 revert H; refine bs fun y13 h16 H => ?_
 revert H; refine bs fun z4 h17 H => ?_
 apply bH (ods := [_, _, _, _, _, _, _, _, _, _, _, _, _]) 13 0 5 bG rfl rfl rfl
 refine ND ?_
 refine M8 ?_
 intros
 refine My (cC rfl hh hh (el rfl) h15) fun _ => ?_
 refine M1 ?_
 intros
 refine Nc (aIs _ _ h16) fun _ => ?_
 refine My (fI rfl hh hh h17) fun _ => ?_
 refine M1 ?_
 intros
 revert H; refine B2 fun y14 h18 H => ?_
 apply bH (ods := [_, _, _, _, _, _, _, _, _, _, _]) 11 0 5 bG rfl rfl rfl
 refine ND ?_
 refine M8 ?_
 intros
 refine My (cC rfl hh hh (el rfl) h18) fun _ => ?_
 refine M2 ?_
 intros
 refine Z1 ?_
 refine bM ?_
 refine bM ?_
 refine bM ?_
 refine bM ?_
 refine gD (x := (⟨(⟨a0.p.Free, a0.p.Nodes, a0.p.Defs, a0.p.Main⟩ : ScopeProg), a0.sizes.set a1.toNat a2, a0.owner.set a1.toNat z1, a0.users.set y5.N.toNat z3, x1⟩ : Ref03_look)) ?_
 revert H; refine bs fun y15 h19 H => ?_
 refine Tc (ih_r03_look_def _ _ _ _ _ h19) ?_
 refine sM (fun v7 v8 v9 => ?_)
 refine aR 1 rfl (fun hc_v7 => ?_)
 refine aR 2 rfl (fun hc_v8 => ?_)
 refine aR 3 rfl (fun hc_v9 => ?_)
 refine Z3 ?_
 refine aG [0, 4, 1, 2, 3] (by decide) ?_
 exact Tm ((z4, y15.p.Free, y15.p.Nodes, y15.p.Defs, y15.p.Main, y15.sizes, y15.owner, y15.users, y15.bad, v7, v8, v9)) (ij H)
 exact fk
 kernel_rfl
 exact fk
 kernel_rfl
 exact fk
 kernel_rfl
 exact fk
 kernel_rfl
 refine dD (has rfl) c19 ?_
 refine Z7 ?_
 revert H; refine cs (fun c23 H => ?_) fun c23 H => ?_
 refine Yt c23 ?_
 refine Yt c23 ?_
 refine Yt c23 ?_
 refine Yy (dF rfl hh c23 hh) ?_
 refine Z2 ?_
 refine dH ?_
 refine dC (φs' := [fSl aM a0.p.Free, fSl aL a0.p.Nodes, fSl aJ a0.p.Defs, aA .i64 a0.p.Main, fEq v1, fEq v2, fEq v3, aI true]) trivial rfl rfl (has rfl) (has rfl) (aD trivial) (sz rfl) rfl rfl ?_
 refine Z3 ?_
 exact Tm ((a2, a0.p.Free, a0.p.Nodes, a0.p.Defs, a0.p.Main, a0.sizes.set a1.toNat a2, a0.owner.set a1.toNat z1, a0.users, true, v1, v2, v3)) (ij H)
 refine Yg c23 (cG 1 rfl hh (fa rfl) rfl) ?_
 refine Yh 0 rfl c23 (bY rfl hh (sc rfl) rfl Ent.rfl) ?_
 refine Yg c23 (rI rfl hh hh) ?_
 refine Yy (cI rfl hh c23 hh) ?_
 refine Z2 ?_
 refine dH ?_
 refine dC (φs' := [fSl aM a0.p.Free, fSl aL a0.p.Nodes, fSl aJ a0.p.Defs, aA .i64 a0.p.Main, fEq v1, fEq v2, fEq v3, aI (decide (y5.N ≠ 0))]) trivial rfl rfl (has rfl) (has rfl) (aD trivial) (sz rfl) rfl rfl ?_
 refine Z3 ?_
 exact Tm ((a2, a0.p.Free, a0.p.Nodes, a0.p.Defs, a0.p.Main, a0.sizes.set a1.toNat a2, a0.owner.set a1.toNat z1, a0.users, decide (y5.N ≠ 0), v1, v2, v3)) (ij H)
 clear H; intro i hi; obtain ⟨x7, x8, x9, x10, x11, x12, x13, x14, x15, v4, v5, v6⟩ := i; subst o4; have H := Hr4; clear Hr4; try dsimp only at H
 try dsimp only
 refine aR 2 rfl (fun hc_v4 => ?_)
 refine aR 3 rfl (fun hc_v5 => ?_)
 refine aR 4 rfl (fun hc_v6 => ?_)
 refine Z4 ?_
 refine Tl (ι := Nat × Int × List ByteArray × List ScopeNode × List ScopeDef × Int × List Int × List Int × List Int × Bool × Value × Value × Value) (fun i => jH (eX fuel) y5 x7 i.1 i.2.1 i.2.2.1 i.2.2.2.1 i.2.2.2.2.1 i.2.2.2.2.2.1 i.2.2.2.2.2.2.1 i.2.2.2.2.2.2.2.1 i.2.2.2.2.2.2.2.2.1 i.2.2.2.2.2.2.2.2.2.1 = _) (fun i => i.1) (fun i => [(0, fEq (ptr p0)), (6, fEq (ptr b1)), (11, aA .i64 x7), (12, aA .i64 i.2.1)]) (fun i => [aC p0 89 [fSl aM i.2.2.1, fSl aL i.2.2.2.1, fSl aJ i.2.2.2.2.1, aA .i64 i.2.2.2.2.2.1, fEq i.2.2.2.2.2.2.2.2.2.2.1, fEq i.2.2.2.2.2.2.2.2.2.2.2.1, fEq i.2.2.2.2.2.2.2.2.2.2.2.2, aI i.2.2.2.2.2.2.2.2.2.1], aC b1 51 [aA .i64 y5.Op, aA .i64 y5.N, fSl bA y5.Args, fSl (aB .i64) y5.Kids], aE i.2.2.2.2.2.2.2.2.2.2.1 3 (aB .i64) i.2.2.2.2.2.2.1, aE i.2.2.2.2.2.2.2.2.2.2.2.1 3 (aB .i64) i.2.2.2.2.2.2.2.1, aE i.2.2.2.2.2.2.2.2.2.2.2.2 3 (aB .i64) i.2.2.2.2.2.2.2.2.1]) (fuel, 0, x8, x9, x10, x11, x12, x13, x14, x15, v4, v5, v6) H ?_
 clear H; rintro ⟨k2, x26, x27, x28, x29, x30, x31, x32, x33, x34, v13, v14, v15⟩ H
 replace H : jH (eX fuel) y5 x7 k2 x26 x27 x28 x29 x30 x31 x32 x33 x34 = _ := H
 try dsimp only
 obtain _ | k2 := k2
 rw [jH] at H; cases H
 rw [jH] at H
 refine aR 2 rfl (fun hc_v13 => ?_)
 refine aR 3 rfl (fun hc_v14 => ?_)
 refine aR 4 rfl (fun hc_v15 => ?_)
 refine aH ?_
 revert H; refine I7 (fun c24 H => ?_) fun c24 H => ?_
 refine Yg c24 (bV rfl hh) ?_
 refine Yg c24 (lC rfl (has rfl) (fun m v h => ⟨_, h⟩)) ?_
 refine Yg c24 (cG 7 rfl hh (fa rfl) rfl) ?_
 refine Yh 0 rfl c24 (bY rfl hh (sc rfl) rfl Ent.rfl) ?_
 refine Yg c24 (kT rfl hh) ?_
 refine Yy (dF rfl hh c24 hh) ?_
 refine Z1 ?_
 revert H; refine cs (fun c25 H => ?_) fun c25 H => ?_
 refine dD (has rfl) (oP c25) ?_
 refine Z4 ?_
 refine bM ?_
 refine bM ?_
 refine bM ?_
 refine eF ?_
 refine gD (x := (⟨(⟨x27, x28, x29, x30⟩ : ScopeProg), x31, x32, x33, x34⟩ : Ref03_look)) ?_
 cases H
 refine aG [0] (by decide) ?_
 exact fJ (.inr rfl) rfl rfl
 refine cY (has rfl) (oZ c25) ?_
 refine Z2 ?_
 refine aH ?_
 revert H; refine B6 fun y16 h20 H => ?_
 refine Yy (cC rfl hh hh (el rfl) h20) ?_
 refine Z2 ?_
 refine bM ?_
 refine bM ?_
 refine bM ?_
 refine eF ?_
 refine gD (x := (⟨(⟨x27, x28, x29, x30⟩ : ScopeProg), x31, x32, x33, x34⟩ : Ref03_look)) ?_
 revert H; refine bs fun y17 h21 H => ?_
 refine Tc (ih_r03_look_node _ _ _ _ _ h21) ?_
 refine sM (fun v16 v17 v18 => ?_)
 refine aR 1 rfl (fun hc_v16 => ?_)
 refine aR 2 rfl (fun hc_v17 => ?_)
 refine aR 3 rfl (fun hc_v18 => ?_)
 revert H; refine B5 fun z5 h22 H => ?_
 refine Yy (fI rfl hh hh h22) ?_
 refine Z2 ?_
 refine aG [0, 4, 1, 2, 3] (by decide) ?_
 exact Tm ((k2, z5, y17.p.Free, y17.p.Nodes, y17.p.Defs, y17.p.Main, y17.sizes, y17.owner, y17.users, y17.bad, v16, v17, v18)) ⟨H, ls⟩
 refine Yf c24 ?_
 refine Yf c24 ?_
 refine Yf c24 ?_
 refine Yf c24 ?_
 refine Yf c24 ?_
 refine Yy (cI rfl hh c24 hh) ?_
 refine Z6 ?_
 refine bM ?_
 refine bM ?_
 refine bM ?_
 refine eF ?_
 refine gD (x := (⟨(⟨x27, x28, x29, x30⟩ : ScopeProg), x31, x32, x33, x34⟩ : Ref03_look)) ?_
 cases H
 refine aG [0] (by decide) ?_
 exact fJ (.inr rfl) rfl rfl
 intro p0 a0 a1 a2 r H
 rw [pK] at H
 refine bD Tryz.func107 rfl Tryz.ntmps107 rfl (fun β => ?_)
 refine sM (fun v1 v2 v3 => ?_)
 refine aR 1 rfl (fun hc_v1 => ?_)
 refine aR 2 rfl (fun hc_v2 => ?_)
 refine aR 3 rfl (fun hc_v3 => ?_)
 refine Z1 ?_
 refine Tn (cF rfl (has rfl) bQ) fun b1 => ?_
 revert H; refine B1 fun o1 H Hr1 => ?_
 refine aW (ι := List ByteArray × List ScopeNode × List ScopeDef × Int × List Int × List Int × List Int × Bool × Value × Value × Value) (fun i => o1 = (i.1, i.2.1, i.2.2.1, i.2.2.2.1, i.2.2.2.2.1, i.2.2.2.2.2.1, i.2.2.2.2.2.2.1, i.2.2.2.2.2.2.2.1)) (fun i => [(0, fEq (ptr p0)), (2, aA .i64 a2), (4, fEq (ptr b1))]) (fun i => [aC b1 99 [fSl bF a1.Chans, fSl bW a1.Spots, fSl bK a1.Rules], aC p0 89 [fSl aM i.1, fSl aL i.2.1, fSl aJ i.2.2.1, aA .i64 i.2.2.2.1, fEq i.2.2.2.2.2.2.2.2.1, fEq i.2.2.2.2.2.2.2.2.2.1, fEq i.2.2.2.2.2.2.2.2.2.2, aI i.2.2.2.2.2.2.2.1], aE i.2.2.2.2.2.2.2.2.1 3 (aB .i64) i.2.2.2.2.1, aE i.2.2.2.2.2.2.2.2.2.1 3 (aB .i64) i.2.2.2.2.2.1, aE i.2.2.2.2.2.2.2.2.2.2 3 (aB .i64) i.2.2.2.2.2.2.1]) ?_ ?_
 refine Z4 ?_
 refine Tl (ι := Nat × Int × List ByteArray × List ScopeNode × List ScopeDef × Int × List Int × List Int × List Int × Bool × Value × Value × Value) (fun i => lP fuel (eX fuel) a1 a2 i.1 i.2.1 i.2.2.1 i.2.2.2.1 i.2.2.2.2.1 i.2.2.2.2.2.1 i.2.2.2.2.2.2.1 i.2.2.2.2.2.2.2.1 i.2.2.2.2.2.2.2.2.1 i.2.2.2.2.2.2.2.2.2.1 = _) (fun i => i.1) (fun i => [(0, fEq (ptr p0)), (2, aA .i64 a2), (4, fEq (ptr b1)), (6, aA .i64 i.2.1)]) (fun i => [aC b1 99 [fSl bF a1.Chans, fSl bW a1.Spots, fSl bK a1.Rules], aC p0 89 [fSl aM i.2.2.1, fSl aL i.2.2.2.1, fSl aJ i.2.2.2.2.1, aA .i64 i.2.2.2.2.2.1, fEq i.2.2.2.2.2.2.2.2.2.2.1, fEq i.2.2.2.2.2.2.2.2.2.2.2.1, fEq i.2.2.2.2.2.2.2.2.2.2.2.2, aI i.2.2.2.2.2.2.2.2.2.1], aE i.2.2.2.2.2.2.2.2.2.2.1 3 (aB .i64) i.2.2.2.2.2.2.1, aE i.2.2.2.2.2.2.2.2.2.2.2.1 3 (aB .i64) i.2.2.2.2.2.2.2.1, aE i.2.2.2.2.2.2.2.2.2.2.2.2 3 (aB .i64) i.2.2.2.2.2.2.2.2.1]) (fuel, 0, a0.p.Free, a0.p.Nodes, a0.p.Defs, a0.p.Main, a0.sizes, a0.owner, a0.users, a0.bad, v1, v2, v3) H ?_
 clear H; rintro ⟨k1, x18, x19, x20, x21, x22, x23, x24, x25, x26, v10, v11, v12⟩ H
 replace H : lP fuel (eX fuel) a1 a2 k1 x18 x19 x20 x21 x22 x23 x24 x25 x26 = _ := H
 try dsimp only
 obtain _ | k1 := k1
 rw [lP] at H; cases H
 rw [lP] at H
 refine aR 2 rfl (fun hc_v10 => ?_)
 refine aR 3 rfl (fun hc_v11 => ?_)
 refine aR 4 rfl (fun hc_v12 => ?_)
 refine aH ?_
 revert H; refine I7 (fun c1 H => ?_) fun c1 H => ?_
 refine Yg c1 (bV rfl hh) ?_
 refine Yg c1 (lC rfl (has rfl) (fun m v h => ⟨_, h⟩)) ?_
 refine Yg c1 (cG 7 rfl hh (fa rfl) rfl) ?_
 refine Yh 1 rfl c1 (bY rfl hh (sc rfl) rfl Ent.rfl) ?_
 refine Yg c1 (kT rfl hh) ?_
 refine Yy (dF rfl hh c1 hh) ?_
 refine Z1 ?_
 revert H; refine cs (fun c2 H => ?_) fun c2 H => ?_
 refine dD (has rfl) (oP c2) ?_
 refine Z5 ?_
 exact Tm ((x19, x20, x21, x22, x23, x24, x25, x26, v10, v11, v12)) (ij H)
 refine cY (has rfl) (oZ c2) ?_
 refine Z2 ?_
 refine aH ?_
 revert H; refine B1 fun y1 h1 H => ?_
 revert H; refine bs fun y2 h2 H => ?_
 revert H; refine bs fun y3 h3 H => ?_
 revert H; refine bs fun z1 h4 H => ?_
 apply bH (ods := [_, _, _, _, _, _, _, _, _, _, _, _, _, _, _, _]) 16 0 5 bG rfl rfl rfl
 refine ND ?_
 refine M4 ?_
 intros
 refine My (cC rfl hh hh (el rfl) h1) fun _ => ?_
 refine M7 ?_
 intros
 refine My (cC rfl hh hh (el rfl) h2) fun _ => ?_
 refine M1 ?_
 intros
 refine Nc (aIJ _ _ _ _ h3) fun _ => ?_
 refine My (fI rfl hh hh h4) fun _ => ?_
 refine Z1 ?_
 refine bM ?_
 refine bM ?_
 refine bM ?_
 refine bM ?_
 refine gD (x := (⟨(⟨x19, x20, x21, x22⟩ : ScopeProg), x23, x24, x25, x26⟩ : Ref03_look)) ?_
 revert H; refine bs fun y4 h5 H => ?_
 refine Tc (ih_r03_look_node _ _ _ _ _ h5) ?_
 refine sM (fun v13 v14 v15 => ?_)
 refine aR 1 rfl (fun hc_v13 => ?_)
 refine aR 2 rfl (fun hc_v14 => ?_)
 refine aR 3 rfl (fun hc_v15 => ?_)
 revert H; refine B5 fun z2 h6 H => ?_
 refine Yy (fI rfl hh hh h6) ?_
 refine Z2 ?_
 refine aG [4, 0, 1, 2, 3] (by decide) ?_
 exact Tm ((k1, z2, y4.p.Free, y4.p.Nodes, y4.p.Defs, y4.p.Main, y4.sizes, y4.owner, y4.users, y4.bad, v13, v14, v15)) ⟨H, ls⟩
 exact fk
 kernel_rfl
 refine Yf c1 ?_
 refine Yf c1 ?_
 refine Yf c1 ?_
 refine Yf c1 ?_
 refine Yf c1 ?_
 refine Yy (cI rfl hh c1 hh) ?_
 refine Z7 ?_
 exact Tm ((x19, x20, x21, x22, x23, x24, x25, x26, v10, v11, v12)) (ij H)
 clear H; intro i hi; obtain ⟨x1, x2, x3, x4, x5, x6, x7, x8, v4, v5, v6⟩ := i; subst o1; have H := Hr1; clear Hr1; try dsimp only at H
 try dsimp only
 refine aR 2 rfl (fun hc_v4 => ?_)
 refine aR 3 rfl (fun hc_v5 => ?_)
 refine aR 4 rfl (fun hc_v6 => ?_)
 refine Z4 ?_
 refine Tl (ι := Nat × Int × List ByteArray × List ScopeNode × List ScopeDef × Int × List Int × List Int × List Int × Bool × Value × Value × Value) (fun i => lV (eX fuel) a1 a2 i.1 i.2.1 i.2.2.1 i.2.2.2.1 i.2.2.2.2.1 i.2.2.2.2.2.1 i.2.2.2.2.2.2.1 i.2.2.2.2.2.2.2.1 i.2.2.2.2.2.2.2.2.1 i.2.2.2.2.2.2.2.2.2.1 = _) (fun i => i.1) (fun i => [(0, fEq (ptr p0)), (2, aA .i64 a2), (4, fEq (ptr b1)), (7, aA .i64 i.2.1)]) (fun i => [aC b1 99 [fSl bF a1.Chans, fSl bW a1.Spots, fSl bK a1.Rules], aC p0 89 [fSl aM i.2.2.1, fSl aL i.2.2.2.1, fSl aJ i.2.2.2.2.1, aA .i64 i.2.2.2.2.2.1, fEq i.2.2.2.2.2.2.2.2.2.2.1, fEq i.2.2.2.2.2.2.2.2.2.2.2.1, fEq i.2.2.2.2.2.2.2.2.2.2.2.2, aI i.2.2.2.2.2.2.2.2.2.1], aE i.2.2.2.2.2.2.2.2.2.2.1 3 (aB .i64) i.2.2.2.2.2.2.1, aE i.2.2.2.2.2.2.2.2.2.2.2.1 3 (aB .i64) i.2.2.2.2.2.2.2.1, aE i.2.2.2.2.2.2.2.2.2.2.2.2 3 (aB .i64) i.2.2.2.2.2.2.2.2.1]) (fuel, 0, x1, x2, x3, x4, x5, x6, x7, x8, v4, v5, v6) H ?_
 clear H; rintro ⟨k2, x36, x37, x38, x39, x40, x41, x42, x43, x44, v19, v20, v21⟩ H
 replace H : lV (eX fuel) a1 a2 k2 x36 x37 x38 x39 x40 x41 x42 x43 x44 = _ := H
 try dsimp only
 obtain _ | k2 := k2
 rw [lV] at H; cases H
 rw [lV] at H
 refine aR 2 rfl (fun hc_v19 => ?_)
 refine aR 3 rfl (fun hc_v20 => ?_)
 refine aR 4 rfl (fun hc_v21 => ?_)
 refine aH ?_
 revert H; refine I7 (fun c3 H => ?_) fun c3 H => ?_
 refine Yg c3 (bV rfl hh) ?_
 refine Yg c3 (lC rfl (has rfl) (fun m v h => ⟨_, h⟩)) ?_
 refine Yg c3 (cG 7 rfl hh (fa rfl) rfl) ?_
 refine Yh 1 rfl c3 (bY rfl hh (sc rfl) rfl Ent.rfl) ?_
 refine Yg c3 (kT rfl hh) ?_
 refine Yy (dF rfl hh c3 hh) ?_
 refine Z1 ?_
 revert H; refine cs (fun c4 H => ?_) fun c4 H => ?_
 refine dD (has rfl) (oP c4) ?_
 refine Z4 ?_
 refine bM ?_
 refine bM ?_
 refine bM ?_
 refine bM ?_
 refine gD (x := (⟨(⟨x37, x38, x39, x40⟩ : ScopeProg), x41, x42, x43, x44⟩ : Ref03_look)) ?_
 cases H
 refine aG [0] (by decide) ?_
 exact fJ (.inr rfl) rfl rfl
 refine cY (has rfl) (oZ c4) ?_
 refine Z2 ?_
 refine aH ?_
 revert H; refine B6 fun y5 h7 H => ?_
 refine Yy (cC rfl hh hh (el rfl) h7) ?_
 refine Z3 ?_
 refine bM ?_
 refine bM ?_
 refine bM ?_
 refine bM ?_
 refine gD (x := (⟨(⟨x37, x38, x39, x40⟩ : ScopeProg), x41, x42, x43, x44⟩ : Ref03_look)) ?_
 revert H; refine bs fun y6 h8 H => ?_
 refine Tc (ih_r03_look_node _ _ _ _ _ h8) ?_
 refine sM (fun v22 v23 v24 => ?_)
 refine aR 1 rfl (fun hc_v22 => ?_)
 refine aR 2 rfl (fun hc_v23 => ?_)
 refine aR 3 rfl (fun hc_v24 => ?_)
 revert H; refine B5 fun z3 h9 H => ?_
 refine Yy (fI rfl hh hh h9) ?_
 refine Z2 ?_
 refine aG [4, 0, 1, 2, 3] (by decide) ?_
 exact Tm ((k2, z3, y6.p.Free, y6.p.Nodes, y6.p.Defs, y6.p.Main, y6.sizes, y6.owner, y6.users, y6.bad, v22, v23, v24)) ⟨H, ls⟩
 refine Yf c3 ?_
 refine Yf c3 ?_
 refine Yf c3 ?_
 refine Yf c3 ?_
 refine Yf c3 ?_
 refine Yy (cI rfl hh c3 hh) ?_
 refine Z6 ?_
 refine bM ?_
 refine bM ?_
 refine bM ?_
 refine bM ?_
 refine gD (x := (⟨(⟨x37, x38, x39, x40⟩ : ScopeProg), x41, x42, x43, x44⟩ : Ref03_look)) ?_
 cases H
 refine aG [0] (by decide) ?_
 exact fJ (.inr rfl) rfl rfl
theorem aIc (fuel : Nat) (p0 : Nat) (a0 : Ref03_look) (a1 : Int) (a2 : Int) (r : Ref03_look) (H : eX fuel a0 a1 a2 = some r) : FnS Tryz.prog 89 [fEq (.pointer (some ⟨p0, 0, none⟩)), aA .i64 a1, aA .i64 a2] [qN p0 a0] (dG []) (fun _ => [qN p0 r]) := (aH4 fuel).1 p0 a0 a1 a2 r H
end Go.Proofs.YtmnbfgeljmhekaaGreat
set_option maxRecDepth 100000
set_option maxHeartbeats 2000000
namespace Go.Proofs.YtmnbfgeljmhekaaGreat
open Go.SX Go.SW Go.Dt
attribute [local irreducible] Code.wpIn wpListIn Exit.then Exit.inBlock
def jZ (fuel : Nat) (a0 : ScopeProg) : Nat → Int → Bool → Option (Bool)
| 0, _, _ => none
| k + 1, x4, x5 =>
 if x4 < (a0.Free.length : Int) then
  (bif x5 then
   some true
  else
   (idx a0.Free x4).bind fun y1 =>
   (wH fuel y1).bind fun y2 =>
   bif !y2 then
    some true
   else
    if 0 < x4 then
     (idx a0.Free x4).bind fun y3 =>
     (chk (x4 - 1)).bind fun z1 =>
     (idx a0.Free z1).bind fun y4 =>
     some (sle y3 y4)
    else
     some false).bind fun x6 =>
  (chk (x4 + 1)).bind fun z2 =>
  jZ fuel a0 k z2 x6
 else
  some x5
def kY (fuel : Nat) (a0 : ScopeProg) : Nat → Int → Bool → Option (Bool)
| 0, _, _ => none
| k + 1, x10, x11 =>
 if x10 < (a0.Defs.length : Int) then
  (bif x11 then
   some true
  else
   (idx a0.Defs x10).bind fun y5 =>
   (xV fuel y5).bind fun y6 =>
   some (!y6)).bind fun x12 =>
  (chk (x10 + 1)).bind fun z3 =>
  kY fuel a0 k z3 x12
 else
  some x11
def kE (y10 : Ref03_look) : Nat → Int → Bool → Option (Bool)
| 0, _, _ => none
| k + 1, x16, x17 =>
 if x16 < (y10.owner.length : Int) then
  (bif x17 then
   some true
  else
   (idx y10.owner x16).bind fun y11 =>
   some (decide (y11 = 0))).bind fun x18 =>
  (chk (x16 + 1)).bind fun z4 =>
  kE y10 k z4 x18
 else
  some x17
def kI (y10 : Ref03_look) : Nat → Int → Bool → Option (Bool)
| 0, _, _ => none
| k + 1, x22, x23 =>
 if x22 < (y10.users.length : Int) then
  (bif x23 then
   some true
  else
   (idx y10.users x22).bind fun y12 =>
   some (decide (y12 = 0))).bind fun x24 =>
  (chk (x22 + 1)).bind fun z5 =>
  kI y10 k z5 x24
 else
  some x23
def vN (fuel : Nat) (a0 : ScopeProg) : Option (Ref03_look) :=
 if 12 < (a0.Free.length : Int) then
  some (⟨(⟨a0.Free, a0.Nodes, a0.Defs, a0.Main⟩ : ScopeProg), [], [], [], true⟩ : Ref03_look)
 else
  if 60 < (a0.Nodes.length : Int) then
   some (⟨(⟨a0.Free, a0.Nodes, a0.Defs, a0.Main⟩ : ScopeProg), [], [], [], true⟩ : Ref03_look)
  else
   if 12 < (a0.Defs.length : Int) then
    some (⟨(⟨a0.Free, a0.Nodes, a0.Defs, a0.Main⟩ : ScopeProg), [], [], [], true⟩ : Ref03_look)
   else
    (jZ fuel a0 fuel 0 false).bind fun x1 =>
    (kY fuel a0 fuel 0 x1).bind fun x7 =>
    (mk 0 (a0.Nodes.length : Int)).bind fun y7 =>
    (mk 0 (a0.Nodes.length : Int)).bind fun y8 =>
    (mk 0 (a0.Defs.length : Int)).bind fun y9 =>
    bif x7 then
     some (⟨(⟨a0.Free, a0.Nodes, a0.Defs, a0.Main⟩ : ScopeProg), y7, y8, y9, x7⟩ : Ref03_look)
    else
     (eX fuel (⟨(⟨a0.Free, a0.Nodes, a0.Defs, a0.Main⟩ : ScopeProg), y7, y8, y9, x7⟩ : Ref03_look) a0.Main (a0.Free.length : Int)).bind fun y10 =>
     (kE y10 fuel 0 y10.bad).bind fun x13 =>
     (kI y10 fuel 0 x13).bind fun x19 =>
     some (⟨(⟨y10.p.Free, y10.p.Nodes, y10.p.Defs, y10.p.Main⟩ : ScopeProg), y10.sizes, y10.owner, y10.users, x19⟩ : Ref03_look)
theorem aHc (fuel : Nat)  (a0 : ScopeProg) (r : Ref03_look) (H : vN fuel a0 = some r) : FnS Tryz.prog 51 [fSt dO a0] [] (aF vW r) (fun _ => []) := by
 unfold vN at H
 refine bD Tryz.func51 rfl Tryz.ntmps51 rfl (fun β => ?_)
 refine Z1 ?_
 refine Tn (cF rfl (has rfl) bQ) fun b1 => ?_
 refine Z4 ?_
 refine Yy (dV (ψs := [fSl aM a0.Free, fSl aL a0.Nodes, fSl aJ a0.Defs, aA .i64 a0.Main, fEq (.slice none 0 0), fEq (.slice none 0 0), fEq (.slice none 0 0), aI false]) rfl ty_bu_89 rfl (aV.cons (has rfl) bQ aV.nil) rfl) ?_
 refine Tn (cF rfl (has rfl) bQ) fun b2 => ?_
 refine Z2 ?_
 refine aH ?_
 revert H; refine I6 (fun c1 H => ?_) fun c1 H => ?_
 refine Yt c1 ?_
 refine Yt c1 ?_
 refine Yt c1 ?_
 refine Yt c1 ?_
 refine Yy (dF rfl hh c1 hh) ?_
 refine Z12 ?_
 refine dC (φs' := [fSl aM a0.Free, fSl aL a0.Nodes, fSl aJ a0.Defs, aA .i64 a0.Main, fEq (.slice none 0 0), fEq (.slice none 0 0), fEq (.slice none 0 0), aI true]) trivial rfl rfl (has rfl) (has rfl) (aD trivial) (sz rfl) rfl rfl ?_
 refine Z6 ?_
 refine cR (φ := aF vW (⟨(⟨a0.Free, a0.Nodes, a0.Defs, a0.Main⟩ : ScopeProg), [], [], [], true⟩ : Ref03_look)) (v := ptr b2) [2, 10, 3, 27, 28, 30] (iG (aN.cons Ent.rfl (aN.cons Ent.rfl (aN.cons Ent.rfl (aN.cons Ent.rfl (aN.cons eG (aN.cons eG (aN.cons eG (aN.cons Ent.rfl aN.nil))))))))) fz ?_
 refine cS ?_
 cases H
 refine aG [] (by decide) ?_
 exact To
 refine Yg c1 (cG 1 rfl hh (fa rfl) rfl) ?_
 refine Yh 1 rfl c1 (bY rfl hh (sc rfl) rfl Ent.rfl) ?_
 refine Yg c1 (fW rfl hh (us rfl)) ?_
 refine Yg c1 (gY rfl hh hh) ?_
 refine Yy (cI rfl hh c1 hh) ?_
 revert H; refine I1 (fun c2 H => ?_) fun c2 H => ?_
 refine Yt c2 ?_
 refine Yt c2 ?_
 refine Yt c2 ?_
 refine Yt c2 ?_
 refine Yy (dF rfl hh c2 hh) ?_
 refine Z6 ?_
 refine dC (φs' := [fSl aM a0.Free, fSl aL a0.Nodes, fSl aJ a0.Defs, aA .i64 a0.Main, fEq (.slice none 0 0), fEq (.slice none 0 0), fEq (.slice none 0 0), aI true]) trivial rfl rfl (has rfl) (has rfl) (aD trivial) (sz rfl) rfl rfl ?_
 refine Z6 ?_
 refine cR (φ := aF vW (⟨(⟨a0.Free, a0.Nodes, a0.Defs, a0.Main⟩ : ScopeProg), [], [], [], true⟩ : Ref03_look)) (v := ptr b2) [2, 10, 3, 27, 28, 30] (iG (aN.cons Ent.rfl (aN.cons Ent.rfl (aN.cons Ent.rfl (aN.cons Ent.rfl (aN.cons eG (aN.cons eG (aN.cons eG (aN.cons Ent.rfl aN.nil))))))))) fz ?_
 refine cS ?_
 cases H
 refine aG [] (by decide) ?_
 exact To
 refine Yg c2 (cG 2 rfl hh (fa rfl) rfl) ?_
 refine Yh 1 rfl c2 (bY rfl hh (sc rfl) rfl Ent.rfl) ?_
 refine Yg c2 (fW rfl hh (us rfl)) ?_
 refine Yg c2 (gY rfl hh hh) ?_
 refine Yy (cI rfl hh c2 hh) ?_
 revert H; refine I1 (fun c3 H => ?_) fun c3 H => ?_
 refine cY (has rfl) c3 ?_
 refine Z4 ?_
 refine dC (φs' := [fSl aM a0.Free, fSl aL a0.Nodes, fSl aJ a0.Defs, aA .i64 a0.Main, fEq (.slice none 0 0), fEq (.slice none 0 0), fEq (.slice none 0 0), aI true]) trivial rfl rfl (has rfl) (has rfl) (aD trivial) (sz rfl) rfl rfl ?_
 refine Z6 ?_
 refine cR (φ := aF vW (⟨(⟨a0.Free, a0.Nodes, a0.Defs, a0.Main⟩ : ScopeProg), [], [], [], true⟩ : Ref03_look)) (v := ptr b2) [2, 10, 3, 27, 28, 30] (iG (aN.cons Ent.rfl (aN.cons Ent.rfl (aN.cons Ent.rfl (aN.cons Ent.rfl (aN.cons eG (aN.cons eG (aN.cons eG (aN.cons Ent.rfl aN.nil))))))))) fz ?_
 refine cS ?_
 cases H
 refine aG [] (by decide) ?_
 exact To
 refine dD (has rfl) c3 ?_
 revert H; refine B2 fun o1 H Hr1 => ?_
 refine aW (ι := Bool) (fun i => o1 = i) (fun i => [(1, fEq (ptr b1)), (3, fEq (ptr b2))]) (fun i => [aC b2 89 [fSl aM a0.Free, fSl aL a0.Nodes, fSl aJ a0.Defs, aA .i64 a0.Main, fEq (.slice none 0 0), fEq (.slice none 0 0), fEq (.slice none 0 0), aI i], aC b1 26 [fSl aM a0.Free, fSl aL a0.Nodes, fSl aJ a0.Defs, aA .i64 a0.Main]]) ?_ ?_
 refine Z4 ?_
 refine Tl (ι := Nat × Int × Bool) (fun i => jZ fuel a0 i.1 i.2.1 i.2.2 = _) (fun i => i.1) (fun i => [(1, fEq (ptr b1)), (3, fEq (ptr b2)), (4, aA .i64 i.2.1)]) (fun i => [aC b2 89 [fSl aM a0.Free, fSl aL a0.Nodes, fSl aJ a0.Defs, aA .i64 a0.Main, fEq (.slice none 0 0), fEq (.slice none 0 0), fEq (.slice none 0 0), aI i.2.2], aC b1 26 [fSl aM a0.Free, fSl aL a0.Nodes, fSl aJ a0.Defs, aA .i64 a0.Main]]) (fuel, 0, false) H ?_
 clear H; rintro ⟨k1, x4, x5⟩ H
 replace H : jZ fuel a0 k1 x4 x5 = _ := H
 try dsimp only
 obtain _ | k1 := k1
 rw [jZ] at H; cases H
 rw [jZ] at H
 refine aH ?_
 revert H; refine I7 (fun c4 H => ?_) fun c4 H => ?_
 refine cY (has rfl) c4 ?_
 revert H; refine B2 fun o2 H Hr2 => ?_
 refine aW (ι := Bool) (fun i => o2 = i) (fun i => [(1, fEq (ptr b1)), (3, fEq (ptr b2)), (4, aA .i64 x4)]) (fun i => [aC b2 89 [fSl aM a0.Free, fSl aL a0.Nodes, fSl aJ a0.Defs, aA .i64 a0.Main, fEq (.slice none 0 0), fEq (.slice none 0 0), fEq (.slice none 0 0), aI i], aC b1 26 [fSl aM a0.Free, fSl aL a0.Nodes, fSl aJ a0.Defs, aA .i64 a0.Main]]) ?_ ?_
 refine Z1 ?_
 revert H; refine cs (fun c5 H => ?_) fun c5 H => ?_
 apply bH (ods := [_, _, _, _, _, _, _, _, _, _, _, _, _, _, _, _, _, _, _, _, _, _, _, _, _, _, _, _, _, _, _, _, _, _, _]) 35 0 2 bG rfl rfl rfl
 refine ND ?_
 refine M6 ?_
 intros
 refine Mt c5 fun _ => ?_
 refine Mt c5 fun _ => ?_
 refine Mt c5 fun _ => ?_
 refine Mt c5 fun _ => ?_
 refine Mt c5 fun _ => ?_
 refine Mt c5 fun _ => ?_
 refine Mt c5 fun _ => ?_
 refine My (dF rfl hh c5 hh) fun _ => ?_
 refine M4 ?_
 intros
 refine eR (od := odS) rfl (⟨_, _, _, _, rfl, rfl, rfl, nu⟩) rfl (fun _ => ?_)
 refine eR (od := odS) rfl (⟨_, _, _, _, rfl, rfl, rfl, nu⟩) rfl (fun _ => ?_)
 refine eR (od := odS) rfl (⟨_, _, _, _, rfl, rfl, rfl, nu⟩) rfl (fun _ => ?_)
 refine eR (od := odS) rfl (⟨_, _, _, _, rfl, rfl, rfl, nu⟩) rfl (fun _ => ?_)
 refine eR (od := odS) rfl (⟨_, _, _, _, rfl, rfl, rfl, nu⟩) rfl (fun _ => ?_)
 refine eR (od := odS) rfl (⟨_, _, _, _, rfl, rfl, rfl, nu⟩) rfl (fun _ => ?_)
 refine eR (od := odS) rfl (⟨_, _, _, _, rfl, rfl, rfl, nu⟩) rfl (fun _ => ?_)
 refine eR (od := odS) rfl (⟨_, _, _, _, rfl, rfl, rfl, nu⟩) rfl (fun _ => ?_)
 refine eR (od := odS) rfl (⟨_, _, _, _, rfl, rfl, rfl, nu⟩) rfl (fun _ => ?_)
 refine eR (od := odS) rfl (⟨_, _, _, _, rfl, rfl, rfl, nu⟩) rfl (fun _ => ?_)
 refine eR (od := odS) rfl (⟨_, _, _, _, rfl, rfl, rfl, nu⟩) rfl (fun _ => ?_)
 refine eR (od := odS) rfl (⟨_, _, _, _, rfl, rfl, rfl, nu⟩) rfl (fun _ => ?_)
 refine M4 ?_
 intros
 refine kP (od := odC [0] true (fAny) [aC b2 89 [fSl aM a0.Free, fSl aL a0.Nodes, fSl aJ a0.Defs, aA .i64 a0.Main, fEq (.slice none 0 0), fEq (.slice none 0 0), fEq (.slice none 0 0), aI true]]) (p := 0) (φs' := [fSl aM a0.Free, fSl aL a0.Nodes, fSl aJ a0.Defs, aA .i64 a0.Main, fEq (.slice none 0 0), fEq (.slice none 0 0), fEq (.slice none 0 0), aI true]) rfl (fun _ => rfl) (fun _ => rfl) trivial rfl rfl rfl (has rfl) (has rfl) (aD trivial) (sz rfl) rfl rfl (fun _ => ?_)
 refine Z4 ?_
 exact Tm (true) (ij H)
 exact fk
 kernel_rfl
 revert H; refine bs fun y1 h1 H => ?_
 revert H; refine bs fun y2 h2 H => ?_
 revert H; refine cs (fun c6 H => ?_) fun c6 H => ?_
 apply bH (ods := [_, _, _, _, _, _, _, _, _, _, _, _, _, _, _, _, _, _, _, _, _, _, _, _, _, _, _, _, _, _, _, _, _, _, _]) 35 0 2 bG rfl rfl rfl
 refine ND ?_
 refine M6 ?_
 intros
 refine Mg c5 (cG 0 rfl hh (fa rfl) rfl) fun _ => ?_
 refine eD (od := odC [1] false (fSl aM a0.Free) [cZ]) (ps := [1]) (φ := fSl aM a0.Free) rfl (fun _ => rfl) ⟨_, _, rfl, rfl, c5⟩ rfl rfl (bY rfl (has rfl) (sc rfl) rfl Ent.rfl) (fun _ => ?_)
 refine Mg c5 (bV rfl hh) fun _ => ?_
 refine Mg c5 (cC rfl hh hh (el rfl) h1) fun _ => ?_
 refine Mg c5 (fP rfl hh (sc rfl) rfl) fun _ => ?_
 refine Nc (aCz _ _ _ h2) fun _ => ?_
 refine Mg c5 (kT rfl hh) fun _ => ?_
 refine My (cI rfl hh c5 hh) fun _ => ?_
 refine M1 ?_
 intros
 refine Mt c6 fun _ => ?_
 refine Mt c6 fun _ => ?_
 refine Mt c6 fun _ => ?_
 refine eR (od := odS) rfl (⟨_, _, _, _, rfl, rfl, rfl, nu⟩) rfl (fun _ => ?_)
 refine eR (od := odS) rfl (⟨_, _, _, _, rfl, rfl, rfl, nu⟩) rfl (fun _ => ?_)
 refine eR (od := odS) rfl (⟨_, _, _, _, rfl, rfl, rfl, nu⟩) rfl (fun _ => ?_)
 refine eR (od := odS) rfl (⟨_, _, _, _, rfl, rfl, rfl, nu⟩) rfl (fun _ => ?_)
 refine eR (od := odS) rfl (⟨_, _, _, _, rfl, rfl, rfl, nu⟩) rfl (fun _ => ?_)
 refine eR (od := odS) rfl (⟨_, _, _, _, rfl, rfl, rfl, nu⟩) rfl (fun _ => ?_)
 refine eR (od := odS) rfl (⟨_, _, _, _, rfl, rfl, rfl, nu⟩) rfl (fun _ => ?_)
 refine eR (od := odS) rfl (⟨_, _, _, _, rfl, rfl, rfl, nu⟩) rfl (fun _ => ?_)
 refine eR (od := odS) rfl (⟨_, _, _, _, rfl, rfl, rfl, nu⟩) rfl (fun _ => ?_)
 refine eR (od := odS) rfl (⟨_, _, _, _, rfl, rfl, rfl, nu⟩) rfl (fun _ => ?_)
 refine eR (od := odS) rfl (⟨_, _, _, _, rfl, rfl, rfl, nu⟩) rfl (fun _ => ?_)
 refine eR (od := odS) rfl (⟨_, _, _, _, rfl, rfl, rfl, nu⟩) rfl (fun _ => ?_)
 refine Mt c6 fun _ => ?_
 refine My (dF rfl hh c6 hh) fun _ => ?_
 refine M2 ?_
 intros
 refine kP (od := odC [0] true (fAny) [aC b2 89 [fSl aM a0.Free, fSl aL a0.Nodes, fSl aJ a0.Defs, aA .i64 a0.Main, fEq (.slice none 0 0), fEq (.slice none 0 0), fEq (.slice none 0 0), aI true]]) (p := 0) (φs' := [fSl aM a0.Free, fSl aL a0.Nodes, fSl aJ a0.Defs, aA .i64 a0.Main, fEq (.slice none 0 0), fEq (.slice none 0 0), fEq (.slice none 0 0), aI true]) rfl (fun _ => rfl) (fun _ => rfl) trivial rfl rfl rfl (has rfl) (has rfl) (aD trivial) (sz rfl) rfl rfl (fun _ => ?_)
 refine Z4 ?_
 exact Tm (true) (ij H)
 exact fk
 kernel_rfl
 revert H; refine is (fun c7 H => ?_) fun c7 H => ?_
 revert H; refine bs fun y3 h3 H => ?_
 revert H; refine bs fun z1 h4 H => ?_
 revert H; refine bs fun y4 h5 H => ?_
 apply bH (ods := [_, _, _, _, _, _, _, _, _, _, _, _, _, _, _, _, _, _, _, _, _, _, _, _, _, _, _, _, _, _, _, _, _, _, _]) 35 0 2 bG rfl rfl rfl
 refine ND ?_
 refine M6 ?_
 intros
 refine Mg c5 (cG 0 rfl hh (fa rfl) rfl) fun _ => ?_
 refine eD (od := odC [1] false (fSl aM a0.Free) [cZ]) (ps := [1]) (φ := fSl aM a0.Free) rfl (fun _ => rfl) ⟨_, _, rfl, rfl, c5⟩ rfl rfl (bY rfl (has rfl) (sc rfl) rfl Ent.rfl) (fun _ => ?_)
 refine Mg c5 (bV rfl hh) fun _ => ?_
 refine Mg c5 (cC rfl hh hh (el rfl) h1) fun _ => ?_
 refine Mg c5 (fP rfl hh (sc rfl) rfl) fun _ => ?_
 refine Nc (aCz _ _ _ h2) fun _ => ?_
 refine Mg c5 (kT rfl hh) fun _ => ?_
 refine My (cI rfl hh c5 hh) fun _ => ?_
 refine M1 ?_
 intros
 refine Mg c6 (bV rfl hh) fun _ => ?_
 refine Mg c6 (gY rfl hh hh) fun _ => ?_
 refine Mg c6 (bV rfl hh) fun _ => ?_
 refine Mg c7 (cG 0 rfl hh (fa rfl) rfl) fun _ => ?_
 refine eD (od := odC [1] false (fSl aM a0.Free) [cZ]) (ps := [1]) (φ := fSl aM a0.Free) rfl (fun _ => rfl) ⟨_, _, rfl, rfl, c7⟩ rfl rfl (bY rfl (has rfl) (sc rfl) rfl Ent.rfl) (fun _ => ?_)
 refine Mg c7 (bV rfl hh) fun _ => ?_
 refine Mg c7 (cC rfl hh hh (el rfl) h3) fun _ => ?_
 refine Mg c7 (fP rfl hh (sc rfl) rfl) fun _ => ?_
 refine Mg c7 (cG 0 rfl hh (fa rfl) rfl) fun _ => ?_
 refine eD (od := odC [1] false (fSl aM a0.Free) [cZ]) (ps := [1]) (φ := fSl aM a0.Free) rfl (fun _ => rfl) ⟨_, _, rfl, rfl, c7⟩ rfl rfl (bY rfl (has rfl) (sc rfl) rfl Ent.rfl) (fun _ => ?_)
 refine Mg c7 (bV rfl hh) fun _ => ?_
 refine Mg c7 (o_sub rfl hh hh h4) fun _ => ?_
 refine Mg c7 (cC rfl hh hh (el rfl) h5) fun _ => ?_
 refine Mg c7 (fP rfl hh (sc rfl) rfl) fun _ => ?_
 refine Mg c7 (o_leqS rfl hh hh) fun _ => ?_
 refine Mg c6 (dF rfl hh c7 hh) fun _ => ?_
 refine My (cI rfl hh c6 hh) fun _ => ?_
 refine M2 ?_
 intros
 refine kP (od := odC [0] true (fAny) [aC b2 89 [fSl aM a0.Free, fSl aL a0.Nodes, fSl aJ a0.Defs, aA .i64 a0.Main, fEq (.slice none 0 0), fEq (.slice none 0 0), fEq (.slice none 0 0), aI (sle y3 y4)]]) (p := 0) (φs' := [fSl aM a0.Free, fSl aL a0.Nodes, fSl aJ a0.Defs, aA .i64 a0.Main, fEq (.slice none 0 0), fEq (.slice none 0 0), fEq (.slice none 0 0), aI (sle y3 y4)]) rfl (fun _ => rfl) (fun _ => rfl) trivial rfl rfl rfl (has rfl) (has rfl) (aD trivial) (sz rfl) rfl rfl (fun _ => ?_)
 refine Z4 ?_
 exact Tm (sle y3 y4) (ij H)
 exact fk
 kernel_rfl
 apply bH (ods := [_, _, _, _, _, _, _, _, _, _, _, _, _, _, _, _, _, _, _, _, _, _, _, _, _, _, _, _, _, _, _, _, _, _, _]) 35 0 2 bG rfl rfl rfl
 refine ND ?_
 refine M6 ?_
 intros
 refine Mg c5 (cG 0 rfl hh (fa rfl) rfl) fun _ => ?_
 refine eD (od := odC [1] false (fSl aM a0.Free) [cZ]) (ps := [1]) (φ := fSl aM a0.Free) rfl (fun _ => rfl) ⟨_, _, rfl, rfl, c5⟩ rfl rfl (bY rfl (has rfl) (sc rfl) rfl Ent.rfl) (fun _ => ?_)
 refine Mg c5 (bV rfl hh) fun _ => ?_
 refine Mg c5 (cC rfl hh hh (el rfl) h1) fun _ => ?_
 refine Mg c5 (fP rfl hh (sc rfl) rfl) fun _ => ?_
 refine Nc (aCz _ _ _ h2) fun _ => ?_
 refine Mg c5 (kT rfl hh) fun _ => ?_
 refine My (cI rfl hh c5 hh) fun _ => ?_
 refine M1 ?_
 intros
 refine Mg c6 (bV rfl hh) fun _ => ?_
 refine Mg c6 (gY rfl hh hh) fun _ => ?_
 refine Mg c6 (bV rfl hh) fun _ => ?_
 refine Mz c7 fun _ => ?_
 refine Mz c7 fun _ => ?_
 refine Mz c7 fun _ => ?_
 refine Mz c7 fun _ => ?_
 refine Mz c7 fun _ => ?_
 refine Mz c7 fun _ => ?_
 refine Mz c7 fun _ => ?_
 refine Mz c7 fun _ => ?_
 refine Mz c7 fun _ => ?_
 refine Mz c7 fun _ => ?_
 refine Mz c7 fun _ => ?_
 refine Mz c7 fun _ => ?_
 refine Mg c6 (cI rfl hh c7 hh) fun _ => ?_
 refine My (cI rfl hh c6 hh) fun _ => ?_
 refine M2 ?_
 intros
 refine kP (od := odC [0] true (fAny) [aC b2 89 [fSl aM a0.Free, fSl aL a0.Nodes, fSl aJ a0.Defs, aA .i64 a0.Main, fEq (.slice none 0 0), fEq (.slice none 0 0), fEq (.slice none 0 0), aI false]]) (p := 0) (φs' := [fSl aM a0.Free, fSl aL a0.Nodes, fSl aJ a0.Defs, aA .i64 a0.Main, fEq (.slice none 0 0), fEq (.slice none 0 0), fEq (.slice none 0 0), aI false]) rfl (fun _ => rfl) (fun _ => rfl) trivial rfl rfl rfl (has rfl) (has rfl) (aD trivial) (sz rfl) rfl rfl (fun _ => ?_)
 refine Z4 ?_
 exact Tm (false) (ij H)
 exact fk
 kernel_rfl
 clear H; intro x6 hi; subst o2; have H := Hr2; clear Hr2; try dsimp only at H
 try dsimp only
 revert H; refine B2 fun z2 h6 H => ?_
 refine Yy (fI rfl hh hh h6) ?_
 refine Z2 ?_
 exact Tm ((k1, z2, x6)) ⟨H, ls⟩
 refine dD (has rfl) c4 ?_
 refine Z5 ?_
 exact Tm (x5) (ij H)
 clear H; intro x1 hi; subst o1; have H := Hr1; clear Hr1; try dsimp only at H
 try dsimp only
 revert H; refine bs fun o3 H Hr3 => ?_
 refine aW (ι := Bool) (fun i => o3 = i) (fun i => [(1, fEq (ptr b1)), (3, fEq (ptr b2))]) (fun i => [aC b2 89 [fSl aM a0.Free, fSl aL a0.Nodes, fSl aJ a0.Defs, aA .i64 a0.Main, fEq (.slice none 0 0), fEq (.slice none 0 0), fEq (.slice none 0 0), aI i], aC b1 26 [fSl aM a0.Free, fSl aL a0.Nodes, fSl aJ a0.Defs, aA .i64 a0.Main]]) ?_ ?_
 refine Z4 ?_
 refine Tl (ι := Nat × Int × Bool) (fun i => kY fuel a0 i.1 i.2.1 i.2.2 = _) (fun i => i.1) (fun i => [(1, fEq (ptr b1)), (3, fEq (ptr b2)), (5, aA .i64 i.2.1)]) (fun i => [aC b2 89 [fSl aM a0.Free, fSl aL a0.Nodes, fSl aJ a0.Defs, aA .i64 a0.Main, fEq (.slice none 0 0), fEq (.slice none 0 0), fEq (.slice none 0 0), aI i.2.2], aC b1 26 [fSl aM a0.Free, fSl aL a0.Nodes, fSl aJ a0.Defs, aA .i64 a0.Main]]) (fuel, 0, x1) H ?_
 clear H; rintro ⟨k2, x10, x11⟩ H
 replace H : kY fuel a0 k2 x10 x11 = _ := H
 try dsimp only
 obtain _ | k2 := k2
 rw [kY] at H; cases H
 rw [kY] at H
 refine aH ?_
 revert H; refine I7 (fun c8 H => ?_) fun c8 H => ?_
 refine cY (has rfl) c8 ?_
 revert H; refine B2 fun o4 H Hr4 => ?_
 refine aW (ι := Bool) (fun i => o4 = i) (fun i => [(1, fEq (ptr b1)), (3, fEq (ptr b2)), (5, aA .i64 x10)]) (fun i => [aC b2 89 [fSl aM a0.Free, fSl aL a0.Nodes, fSl aJ a0.Defs, aA .i64 a0.Main, fEq (.slice none 0 0), fEq (.slice none 0 0), fEq (.slice none 0 0), aI i], aC b1 26 [fSl aM a0.Free, fSl aL a0.Nodes, fSl aJ a0.Defs, aA .i64 a0.Main]]) ?_ ?_
 refine Z8 ?_
 revert H; refine cs (fun c9 H => ?_) fun c9 H => ?_
 refine Yt c9 ?_
 refine Yt c9 ?_
 refine Yt c9 ?_
 refine Yt c9 ?_
 refine Yt c9 ?_
 refine Yt c9 ?_
 refine Yt c9 ?_
 refine Yy (dF rfl hh c9 hh) ?_
 refine Z2 ?_
 refine dC (φs' := [fSl aM a0.Free, fSl aL a0.Nodes, fSl aJ a0.Defs, aA .i64 a0.Main, fEq (.slice none 0 0), fEq (.slice none 0 0), fEq (.slice none 0 0), aI true]) trivial rfl rfl (has rfl) (has rfl) (aD trivial) (sz rfl) rfl rfl ?_
 refine Z3 ?_
 exact Tm (true) (ij H)
 refine Yg c9 (cG 2 rfl hh (fa rfl) rfl) ?_
 refine Yh 1 rfl c9 (bY rfl hh (sc rfl) rfl Ent.rfl) ?_
 refine Yg c9 (bV rfl hh) ?_
 revert H; refine bs fun y5 h7 H => ?_
 refine Yg c9 (cC rfl hh hh (el rfl) h7) ?_
 refine Yg c9 (aCy rfl hh (ag rfl)) ?_
 revert H; refine bs fun y6 h8 H => ?_
 refine Tc (aHb _ _ _ h8) ?_
 refine Yg c9 (kT rfl hh) ?_
 refine Yy (cI rfl hh c9 hh) ?_
 refine Z2 ?_
 refine dC (φs' := [fSl aM a0.Free, fSl aL a0.Nodes, fSl aJ a0.Defs, aA .i64 a0.Main, fEq (.slice none 0 0), fEq (.slice none 0 0), fEq (.slice none 0 0), aI (!y6)]) trivial rfl rfl (has rfl) (has rfl) (aD trivial) (sz rfl) rfl rfl ?_
 refine Z3 ?_
 exact Tm (!y6) (ij H)
 clear H; intro x12 hi; subst o4; have H := Hr4; clear Hr4; try dsimp only at H
 try dsimp only
 revert H; refine B2 fun z3 h9 H => ?_
 refine Yy (fI rfl hh hh h9) ?_
 refine Z2 ?_
 exact Tm ((k2, z3, x12)) ⟨H, ls⟩
 refine dD (has rfl) c8 ?_
 refine Z5 ?_
 exact Tm (x11) (ij H)
 clear H; intro x7 hi; subst o3; have H := Hr3; clear Hr3; try dsimp only at H
 try dsimp only
 refine aH ?_
 revert H; refine bs fun y7 h10 H => ?_
 revert H; refine bs fun y8 h11 H => ?_
 revert H; refine bs fun y9 h12 H => ?_
 apply bH (ods := [_, _, _, _, _, _, _, _, _, _, _, _, _, _, _, _, _, _, _, _, _, _, _, _]) 24 3 5 bG rfl rfl rfl
 refine ND ?_
 refine M6 ?_
 intros
 refine Mn 2 (fun b3 => .slice (some ⟨b3, 0, none⟩) y7.length y7.length) (fun b3 => aE (.slice (some ⟨b3, 0, none⟩) y7.length y7.length) 3 (aB .i64) y7) rfl (lZ (t := (aB .i64)) (z := 0) rfl (has rfl) (et rfl) rfl sO rfl h10) (fun b3 u1 => ?_)
 refine M3 ?_
 intros
 refine Mn 3 (fun b4 => .slice (some ⟨b4, 0, none⟩) y8.length y8.length) (fun b4 => aE (.slice (some ⟨b4, 0, none⟩) y8.length y8.length) 3 (aB .i64) y8) rfl (lZ (t := (aB .i64)) (z := 0) rfl (has rfl) (et rfl) rfl sO rfl h11) (fun b4 u2 => ?_)
 refine M3 ?_
 intros
 refine Mn 4 (fun b5 => .slice (some ⟨b5, 0, none⟩) y9.length y9.length) (fun b5 => aE (.slice (some ⟨b5, 0, none⟩) y9.length y9.length) 3 (aB .i64) y9) rfl (lZ (t := (aB .i64)) (z := 0) rfl (has rfl) (et rfl) rfl sO rfl h12) (fun b5 u3 => ?_)
 refine M2 ?_
 intros
 refine kP (od := od1 6 [0] true (fun b3 _ => fAny) (fun b3 _ => [aC b2 89 [fSl aM a0.Free, fSl aL a0.Nodes, fSl aJ a0.Defs, aA .i64 a0.Main, fEq (.slice (some ⟨b3, 0, none⟩) y7.length y7.length), fEq (.slice none 0 0), fEq (.slice none 0 0), aI x7]])) (p := 0) (φs' := [fSl aM a0.Free, fSl aL a0.Nodes, fSl aJ a0.Defs, aA .i64 a0.Main, fEq (.slice (some ⟨b3, 0, none⟩) y7.length y7.length), fEq (.slice none 0 0), fEq (.slice none 0 0), aI x7]) rfl (fun _ => rfl) (fun _ => rfl) trivial rfl rfl rfl (has rfl) (has rfl) (aD trivial) (sz rfl) rfl rfl (fun _ => ?_)
 refine M2 ?_
 intros
 refine kP (od := od2 6 10 [0] true (fun b3 _ b4 _ => fAny) (fun b3 _ b4 _ => [aC b2 89 [fSl aM a0.Free, fSl aL a0.Nodes, fSl aJ a0.Defs, aA .i64 a0.Main, fEq (.slice (some ⟨b3, 0, none⟩) y7.length y7.length), fEq (.slice (some ⟨b4, 0, none⟩) y8.length y8.length), fEq (.slice none 0 0), aI x7]])) (p := 0) (φs' := [fSl aM a0.Free, fSl aL a0.Nodes, fSl aJ a0.Defs, aA .i64 a0.Main, fEq (.slice (some ⟨b3, 0, none⟩) y7.length y7.length), fEq (.slice (some ⟨b4, 0, none⟩) y8.length y8.length), fEq (.slice none 0 0), aI x7]) rfl (fun _ => rfl) (fun _ => rfl) trivial rfl rfl rfl (has rfl) (has rfl) (aD trivial) (sz rfl) rfl rfl (fun _ => ?_)
 refine M2 ?_
 intros
 refine kP (od := od3 6 10 14 [0] true (fun b3 _ b4 _ b5 _ => fAny) (fun b3 _ b4 _ b5 _ => [aC b2 89 [fSl aM a0.Free, fSl aL a0.Nodes, fSl aJ a0.Defs, aA .i64 a0.Main, fEq (.slice (some ⟨b3, 0, none⟩) y7.length y7.length), fEq (.slice (some ⟨b4, 0, none⟩) y8.length y8.length), fEq (.slice (some ⟨b5, 0, none⟩) y9.length y9.length), aI x7]])) (p := 0) (φs' := [fSl aM a0.Free, fSl aL a0.Nodes, fSl aJ a0.Defs, aA .i64 a0.Main, fEq (.slice (some ⟨b3, 0, none⟩) y7.length y7.length), fEq (.slice (some ⟨b4, 0, none⟩) y8.length y8.length), fEq (.slice (some ⟨b5, 0, none⟩) y9.length y9.length), aI x7]) rfl (fun _ => rfl) (fun _ => rfl) trivial rfl rfl rfl (has rfl) (has rfl) (aD trivial) (sz rfl) rfl rfl (fun _ => ?_)
 refine Z1 ?_
 generalize (Value.slice (some ⟨b3, 0, none⟩) _ _) = v1
 refine aR 2 rfl (fun hc_v1 => ?_)
 generalize (Value.slice (some ⟨b4, 0, none⟩) _ _) = v2
 refine aR 3 rfl (fun hc_v2 => ?_)
 generalize (Value.slice (some ⟨b5, 0, none⟩) _ _) = v3
 refine aR 4 rfl (fun hc_v3 => ?_)
 refine Z1 ?_
 refine aH ?_
 refine Z6 ?_
 revert H; refine cs (fun c10 H => ?_) fun c10 H => ?_
 refine cY (has rfl) c10 ?_
 refine Z5 ?_
 refine eH ?_
 refine cR (φ := fSl (aB .i64) y7) (v := v1) [101] cO fz ?_
 refine hC (φs' := [fSl aM a0.Free, fSl aL a0.Nodes, fSl aJ a0.Defs, aA .i64 a0.Main, fSl (aB .i64) y7, fEq v2, fEq v3, aI x7]) (i := 4) rfl rfl ?_
 refine cS ?_
 refine eH ?_
 refine cR (φ := fSl (aB .i64) y8) (v := v2) [105] cO fz ?_
 refine hC (φs' := [fSl aM a0.Free, fSl aL a0.Nodes, fSl aJ a0.Defs, aA .i64 a0.Main, fSl (aB .i64) y7, fSl (aB .i64) y8, fEq v3, aI x7]) (i := 5) rfl rfl ?_
 refine cS ?_
 refine eH ?_
 refine cR (φ := fSl (aB .i64) y9) (v := v3) [109] cO fz ?_
 refine hC (φs' := [fSl aM a0.Free, fSl aL a0.Nodes, fSl aJ a0.Defs, aA .i64 a0.Main, fSl (aB .i64) y7, fSl (aB .i64) y8, fSl (aB .i64) y9, aI x7]) (i := 6) rfl rfl ?_
 refine cS ?_
 refine cR (φ := aF vW (⟨(⟨a0.Free, a0.Nodes, a0.Defs, a0.Main⟩ : ScopeProg), y7, y8, y9, x7⟩ : Ref03_look)) (v := ptr b2) [3, 95, 96, 97, 110, 112, 114, 116, 117, 120, 2] (iG aN.rfl) fz ?_
 refine cS ?_
 cases H
 refine aG [] (by decide) ?_
 exact To
 refine dD (has rfl) c10 ?_
 refine Z9 ?_
 refine bM ?_
 refine bM ?_
 refine bM ?_
 refine eF ?_
 refine gD (x := (⟨(⟨a0.Free, a0.Nodes, a0.Defs, a0.Main⟩ : ScopeProg), y7, y8, y9, x7⟩ : Ref03_look)) ?_
 revert H; refine bs fun y10 h13 H => ?_
 refine Tc (aIc _ _ _ _ _ _ h13) ?_
 refine sM (fun v4 v5 v6 => ?_)
 refine aR 1 rfl (fun hc_v4 => ?_)
 refine aR 2 rfl (fun hc_v5 => ?_)
 refine aR 3 rfl (fun hc_v6 => ?_)
 revert H; refine B1 fun o5 H Hr5 => ?_
 refine aW (ι := Bool) (fun i => o5 = i) (fun i => [(3, fEq (ptr b2))]) (fun i => [aC b2 89 [fSl aM y10.p.Free, fSl aL y10.p.Nodes, fSl aJ y10.p.Defs, aA .i64 y10.p.Main, fEq v4, fEq v5, fEq v6, aI i], aC b1 26 [fSl aM a0.Free, fSl aL a0.Nodes, fSl aJ a0.Defs, aA .i64 a0.Main], aE v4 3 (aB .i64) y10.sizes, aE v5 3 (aB .i64) y10.owner, aE v6 3 (aB .i64) y10.users]) ?_ ?_
 refine Z4 ?_
 refine aG [0, 4, 1, 2, 3] (by decide) ?_
 refine Tl (ι := Nat × Int × Bool) (fun i => kE y10 i.1 i.2.1 i.2.2 = _) (fun i => i.1) (fun i => [(3, fEq (ptr b2)), (6, aA .i64 i.2.1)]) (fun i => [aC b2 89 [fSl aM y10.p.Free, fSl aL y10.p.Nodes, fSl aJ y10.p.Defs, aA .i64 y10.p.Main, fEq v4, fEq v5, fEq v6, aI i.2.2], aC b1 26 [fSl aM a0.Free, fSl aL a0.Nodes, fSl aJ a0.Defs, aA .i64 a0.Main], aE v4 3 (aB .i64) y10.sizes, aE v5 3 (aB .i64) y10.owner, aE v6 3 (aB .i64) y10.users]) (fuel, 0, y10.bad) H ?_
 clear H; rintro ⟨k3, x16, x17⟩ H
 replace H : kE y10 k3 x16 x17 = _ := H
 try dsimp only
 obtain _ | k3 := k3
 rw [kE] at H; cases H
 rw [kE] at H
 refine aH ?_
 revert H; refine I9 (fun c11 H => ?_) fun c11 H => ?_
 refine cY (has rfl) c11 ?_
 revert H; refine B2 fun o6 H Hr6 => ?_
 refine aW (ι := Bool) (fun i => o6 = i) (fun i => [(3, fEq (ptr b2)), (6, aA .i64 x16)]) (fun i => [aC b2 89 [fSl aM y10.p.Free, fSl aL y10.p.Nodes, fSl aJ y10.p.Defs, aA .i64 y10.p.Main, fEq v4, fEq v5, fEq v6, aI i], aC b1 26 [fSl aM a0.Free, fSl aL a0.Nodes, fSl aJ a0.Defs, aA .i64 a0.Main], aE v4 3 (aB .i64) y10.sizes, aE v5 3 (aB .i64) y10.owner, aE v6 3 (aB .i64) y10.users]) ?_ ?_
 refine Z8 ?_
 revert H; refine cs (fun c12 H => ?_) fun c12 H => ?_
 refine Yt c12 ?_
 refine Yt c12 ?_
 refine Yt c12 ?_
 refine Yt c12 ?_
 refine Yt c12 ?_
 refine Yt c12 ?_
 refine Yt c12 ?_
 refine Yt c12 ?_
 refine Yy (dF rfl hh c12 hh) ?_
 refine Z2 ?_
 refine dC (φs' := [fSl aM y10.p.Free, fSl aL y10.p.Nodes, fSl aJ y10.p.Defs, aA .i64 y10.p.Main, fEq v4, fEq v5, fEq v6, aI true]) trivial rfl rfl (has rfl) (has rfl) (aD trivial) (sz rfl) rfl rfl ?_
 refine Z3 ?_
 exact Tm (true) (ij H)
 refine Yg c12 (bV rfl hh) ?_
 refine Yg c12 (lC rfl (has rfl) (fun m v h => ⟨_, h⟩)) ?_
 refine Yg c12 (cG 5 rfl hh (fa rfl) rfl) ?_
 refine Yh 0 rfl c12 (bY rfl hh (sc rfl) rfl Ent.rfl) ?_
 refine Yg c12 (bV rfl hh) ?_
 revert H; refine bs fun y11 h14 H => ?_
 refine Yh 3 rfl c12 (gF rfl hh hh (el rfl) h14) ?_
 refine Yh 3 rfl c12 (gN rfl rfl hh (sc rfl) (bB h14) rfl) ?_
 refine Yg c12 (o_eql rfl hh hh) ?_
 refine Yy (cI rfl hh c12 hh) ?_
 refine Z2 ?_
 refine dC (φs' := [fSl aM y10.p.Free, fSl aL y10.p.Nodes, fSl aJ y10.p.Defs, aA .i64 y10.p.Main, fEq v4, fEq v5, fEq v6, aI (decide (y11 = 0))]) trivial rfl rfl (has rfl) (has rfl) (aD trivial) (sz rfl) rfl rfl ?_
 refine Z3 ?_
 exact Tm (decide (y11 = 0)) (ij H)
 clear H; intro x18 hi; subst o6; have H := Hr6; clear Hr6; try dsimp only at H
 try dsimp only
 revert H; refine B2 fun z4 h15 H => ?_
 refine Yy (fI rfl hh hh h15) ?_
 refine Z2 ?_
 exact Tm ((k3, z4, x18)) ⟨H, ls⟩
 refine dD (has rfl) c11 ?_
 refine Z5 ?_
 exact Tm (x17) (ij H)
 clear H; intro x13 hi; subst o5; have H := Hr5; clear Hr5; try dsimp only at H
 try dsimp only
 revert H; refine bs fun o7 H Hr7 => ?_
 refine aW (ι := Bool) (fun i => o7 = i) (fun i => [(3, fEq (ptr b2))]) (fun i => [aC b2 89 [fSl aM y10.p.Free, fSl aL y10.p.Nodes, fSl aJ y10.p.Defs, aA .i64 y10.p.Main, fEq v4, fEq v5, fEq v6, aI i], aC b1 26 [fSl aM a0.Free, fSl aL a0.Nodes, fSl aJ a0.Defs, aA .i64 a0.Main], aE v4 3 (aB .i64) y10.sizes, aE v5 3 (aB .i64) y10.owner, aE v6 3 (aB .i64) y10.users]) ?_ ?_
 refine Z4 ?_
 refine Tl (ι := Nat × Int × Bool) (fun i => kI y10 i.1 i.2.1 i.2.2 = _) (fun i => i.1) (fun i => [(3, fEq (ptr b2)), (7, aA .i64 i.2.1)]) (fun i => [aC b2 89 [fSl aM y10.p.Free, fSl aL y10.p.Nodes, fSl aJ y10.p.Defs, aA .i64 y10.p.Main, fEq v4, fEq v5, fEq v6, aI i.2.2], aC b1 26 [fSl aM a0.Free, fSl aL a0.Nodes, fSl aJ a0.Defs, aA .i64 a0.Main], aE v4 3 (aB .i64) y10.sizes, aE v5 3 (aB .i64) y10.owner, aE v6 3 (aB .i64) y10.users]) (fuel, 0, x13) H ?_
 clear H; rintro ⟨k4, x22, x23⟩ H
 replace H : kI y10 k4 x22 x23 = _ := H
 try dsimp only
 obtain _ | k4 := k4
 rw [kI] at H; cases H
 rw [kI] at H
 refine aH ?_
 revert H; refine I9 (fun c13 H => ?_) fun c13 H => ?_
 refine cY (has rfl) c13 ?_
 revert H; refine B2 fun o8 H Hr8 => ?_
 refine aW (ι := Bool) (fun i => o8 = i) (fun i => [(3, fEq (ptr b2)), (7, aA .i64 x22)]) (fun i => [aC b2 89 [fSl aM y10.p.Free, fSl aL y10.p.Nodes, fSl aJ y10.p.Defs, aA .i64 y10.p.Main, fEq v4, fEq v5, fEq v6, aI i], aC b1 26 [fSl aM a0.Free, fSl aL a0.Nodes, fSl aJ a0.Defs, aA .i64 a0.Main], aE v4 3 (aB .i64) y10.sizes, aE v5 3 (aB .i64) y10.owner, aE v6 3 (aB .i64) y10.users]) ?_ ?_
 refine Z8 ?_
 revert H; refine cs (fun c14 H => ?_) fun c14 H => ?_
 refine Yt c14 ?_
 refine Yt c14 ?_
 refine Yt c14 ?_
 refine Yt c14 ?_
 refine Yt c14 ?_
 refine Yt c14 ?_
 refine Yt c14 ?_
 refine Yt c14 ?_
 refine Yy (dF rfl hh c14 hh) ?_
 refine Z2 ?_
 refine dC (φs' := [fSl aM y10.p.Free, fSl aL y10.p.Nodes, fSl aJ y10.p.Defs, aA .i64 y10.p.Main, fEq v4, fEq v5, fEq v6, aI true]) trivial rfl rfl (has rfl) (has rfl) (aD trivial) (sz rfl) rfl rfl ?_
 refine Z3 ?_
 exact Tm (true) (ij H)
 refine Yg c14 (bV rfl hh) ?_
 refine Yg c14 (lC rfl (has rfl) (fun m v h => ⟨_, h⟩)) ?_
 refine Yg c14 (cG 6 rfl hh (fa rfl) rfl) ?_
 refine Yh 0 rfl c14 (bY rfl hh (sc rfl) rfl Ent.rfl) ?_
 refine Yg c14 (bV rfl hh) ?_
 revert H; refine bs fun y12 h16 H => ?_
 refine Yh 4 rfl c14 (gF rfl hh hh (el rfl) h16) ?_
 refine Yh 4 rfl c14 (gN rfl rfl hh (sc rfl) (bB h16) rfl) ?_
 refine Yg c14 (o_eql rfl hh hh) ?_
 refine Yy (cI rfl hh c14 hh) ?_
 refine Z2 ?_
 refine dC (φs' := [fSl aM y10.p.Free, fSl aL y10.p.Nodes, fSl aJ y10.p.Defs, aA .i64 y10.p.Main, fEq v4, fEq v5, fEq v6, aI (decide (y12 = 0))]) trivial rfl rfl (has rfl) (has rfl) (aD trivial) (sz rfl) rfl rfl ?_
 refine Z3 ?_
 exact Tm (decide (y12 = 0)) (ij H)
 clear H; intro x24 hi; subst o8; have H := Hr8; clear Hr8; try dsimp only at H
 try dsimp only
 revert H; refine B2 fun z5 h17 H => ?_
 refine Yy (fI rfl hh hh h17) ?_
 refine Z2 ?_
 exact Tm ((k4, z5, x24)) ⟨H, ls⟩
 refine dD (has rfl) c13 ?_
 refine Z5 ?_
 exact Tm (x23) (ij H)
 clear H; intro x19 hi; subst o7; have H := Hr7; clear Hr7; try dsimp only at H
 try dsimp only
 refine Z5 ?_
 refine eH ?_
 refine cR (φ := fSl (aB .i64) y10.sizes) (v := v4) [] cO (fun _ h => nomatch h) ?_
 refine hC (φs' := [fSl aM y10.p.Free, fSl aL y10.p.Nodes, fSl aJ y10.p.Defs, aA .i64 y10.p.Main, fSl (aB .i64) y10.sizes, fEq v5, fEq v6, aI x19]) (i := 4) rfl rfl ?_
 refine cS ?_
 refine eH ?_
 refine cR (φ := fSl (aB .i64) y10.owner) (v := v5) [] cO (fun _ h => nomatch h) ?_
 refine hC (φs' := [fSl aM y10.p.Free, fSl aL y10.p.Nodes, fSl aJ y10.p.Defs, aA .i64 y10.p.Main, fSl (aB .i64) y10.sizes, fSl (aB .i64) y10.owner, fEq v6, aI x19]) (i := 5) rfl rfl ?_
 refine cS ?_
 refine eH ?_
 refine cR (φ := fSl (aB .i64) y10.users) (v := v6) [] cO (fun _ h => nomatch h) ?_
 refine hC (φs' := [fSl aM y10.p.Free, fSl aL y10.p.Nodes, fSl aJ y10.p.Defs, aA .i64 y10.p.Main, fSl (aB .i64) y10.sizes, fSl (aB .i64) y10.owner, fSl (aB .i64) y10.users, aI x19]) (i := 6) rfl rfl ?_
 refine cS ?_
 refine cR (φ := aF vW (⟨(⟨y10.p.Free, y10.p.Nodes, y10.p.Defs, y10.p.Main⟩ : ScopeProg), y10.sizes, y10.owner, y10.users, x19⟩ : Ref03_look)) (v := ptr b2) [3, 180, 2] (iG aN.rfl) fz ?_
 refine cS ?_
 cases H
 refine aG [] (by decide) ?_
 exact To
 exact fk
 kernel_rfl
def tV (fuel : Nat) (a0 : ScopeProg) : Option (Int) :=
 (vN fuel (⟨a0.Free, a0.Nodes, a0.Defs, a0.Main⟩ : ScopeProg)).bind fun y1 =>
 bif y1.bad then
  some 2
 else
  some 0
theorem aDs (fuel : Nat)  (a0 : ScopeProg) (r : Int) (H : tV fuel a0 = some r) : FnS Tryz.prog 19 [fSt dO a0] [] (aA .i64 r) (fun _ => []) := by
 unfold tV at H
 refine bD Tryz.func19 rfl Tryz.ntmps19 rfl (fun β => ?_)
 refine Z1 ?_
 refine Tn (cF rfl (has rfl) bQ) fun b1 => ?_
 refine Z2 ?_
 refine aH ?_
 revert H; refine B2 fun y1 h1 H => ?_
 refine Tc (aHc _ _ _ h1) ?_
 refine Z4 ?_
 revert H; refine cs (fun c1 H => ?_) fun c1 H => ?_
 refine Z5 ?_
 cases H
 refine aG [] (by decide) ?_
 exact To
 refine Z7 ?_
 cases H
 refine aG [] (by decide) ?_
 exact To
end Go.Proofs.YtmnbfgeljmhekaaGreat
set_option maxRecDepth 100000
set_option maxHeartbeats 2000000
namespace Go.Proofs.YtmnbfgeljmhekaaGreat
open Go.SX Go.SW Go.Dt
attribute [local irreducible] Code.wpIn wpListIn Exit.then Exit.inBlock
def aAO (fuel : Nat) (a0 : ScopeProg) : Option (List Int) :=
 (vN fuel (⟨a0.Free, a0.Nodes, a0.Defs, a0.Main⟩ : ScopeProg)).bind fun y1 =>
 some y1.sizes
def tG (a1 : Int) : Nat → (List Ref05_Chan) → Int → Option (List Ref05_Chan)
| 0, _, _ => none
| k + 1, x4, x5 =>
 if x5 < a1 then
  (dN (x4 ++ [(⟨(-1), 0⟩ : Ref05_Chan)])).bind fun z2 =>
  (chk (x5 + 1)).bind fun z3 =>
  tG a1 k z2 z3
 else
  some x4
def yW (fuel : Nat) (a0 : List Ref05_Chan) (a1 : Int) : Option (List Ref05_Chan) :=
 (dN (([] : List Ref05_Chan) ++ a0)).bind fun z1 =>
 (tG a1 fuel z1 0).bind fun x1 =>
 some x1
end Go.Proofs.YtmnbfgeljmhekaaGreat
set_option maxRecDepth 100000
set_option maxHeartbeats 2000000
namespace Go.Proofs.YtmnbfgeljmhekaaGreat
open Go.SX Go.SW Go.Dt
attribute [local irreducible] Code.wpIn wpListIn Exit.then Exit.inBlock
def vZ (rec_r05_Look_fill : bR → Int → (List Ref05_Chan) → Option (bR)) (a2 : List Ref05_Chan) (y2 : ScopeNode) : Nat → Int → (List ByteArray) → (List ScopeNode) → (List ScopeDef) → Int → (List (List Ref05_Chan)) → (List Int) → (List Int) → Option (List ByteArray × List ScopeNode × List ScopeDef × Int × List (List Ref05_Chan) × List Int × List Int)
| 0, _, _, _, _, _, _, _, _ => none
| k + 1, x16, x17, x18, x19, x20, x21, x22, x23 =>
 if x16 < (y2.Kids.length : Int) then
  (idx y2.Kids x16).bind fun y3 =>
  (rec_r05_Look_fill (⟨(⟨x17, x18, x19, x20⟩ : ScopeProg), x21, x22, x23⟩ : bR) y3 a2).bind fun y4 =>
  (chk (x16 + 1)).bind fun z1 =>
  vZ rec_r05_Look_fill a2 y2 k z1 y4.p.Free y4.p.Nodes y4.p.Defs y4.p.Main y4.Envs y4.Sizes y4.Heads
 else
  some (x17, x18, x19, x20, x21, x22, x23)
def vO (y2 : ScopeNode) (y6 : ScopeDef) : Nat → (List Ref05_Chan) → Int → Option (List Ref05_Chan)
| 0, _, _ => none
| k + 1, x27, x28 =>
 if x28 < (y6.Chans.length : Int) then
  (dN (x27 ++ [(⟨y2.N, x28⟩ : Ref05_Chan)])).bind fun z3 =>
  (chk (x28 + 1)).bind fun z4 =>
  vO y2 y6 k z3 z4
 else
  some x27
def uG (y6 : ScopeDef) (x44 : Int) : Nat → Int → Int → Option (Int)
| 0, _, _ => none
| k + 1, x62, x63 =>
 (idx y6.Rules x44).bind fun y8 =>
 if x63 < (y8.Joins.length : Int) then
  (idx y6.Rules x44).bind fun y9 =>
  (idx y9.Joins x63).bind fun y10 =>
  (idx y6.Chans y10).bind fun y11 =>
  (chk (x62 + y11.Many)).bind fun z5 =>
  (chk (x63 + 1)).bind fun z6 =>
  uG y6 x44 k z5 z6
 else
  some x62
def wK (fuel : Nat) (rec_r05_Look_fill : bR → Int → (List Ref05_Chan) → Option (bR)) (y6 : ScopeDef) (y7 : List Ref05_Chan) : Nat → Int → (List ByteArray) → (List ScopeNode) → (List ScopeDef) → Int → (List (List Ref05_Chan)) → (List Int) → (List Int) → Option (List ByteArray × List ScopeNode × List ScopeDef × Int × List (List Ref05_Chan) × List Int × List Int)
| 0, _, _, _, _, _, _, _, _ => none
| k + 1, x44, x45, x46, x47, x48, x49, x50, x51 =>
 if x44 < (y6.Rules.length : Int) then
  ((uG y6 x44 fuel 0 0).bind fun x59 =>
  (idx y6.Rules x44).bind fun y12 =>
  (yW fuel y7 x59).bind fun y13 =>
  (rec_r05_Look_fill (⟨(⟨x45, x46, x47, x48⟩ : ScopeProg), x49, x50, x51⟩ : bR) y12.Node y13).bind fun y14 =>
  some (y14.p.Free, y14.p.Nodes, y14.p.Defs, y14.p.Main, y14.Envs, y14.Sizes, y14.Heads)).bind fun (x52, x53, x54, x55, x56, x57, x58) =>
  (chk (x44 + 1)).bind fun z7 =>
  wK fuel rec_r05_Look_fill y6 y7 k z7 x52 x53 x54 x55 x56 x57 x58
 else
  some (x45, x46, x47, x48, x49, x50, x51)
def tM (rec_r05_Look_fill : bR → Int → (List Ref05_Chan) → Option (bR)) (y6 : ScopeDef) (y7 : List Ref05_Chan) : Nat → Int → (List ByteArray) → (List ScopeNode) → (List ScopeDef) → Int → (List (List Ref05_Chan)) → (List Int) → (List Int) → Option (List ByteArray × List ScopeNode × List ScopeDef × Int × List (List Ref05_Chan) × List Int × List Int)
| 0, _, _, _, _, _, _, _, _ => none
| k + 1, x79, x80, x81, x82, x83, x84, x85, x86 =>
 if x79 < (y6.Spots.length : Int) then
  (idx y6.Spots x79).bind fun y15 =>
  (rec_r05_Look_fill (⟨(⟨x80, x81, x82, x83⟩ : ScopeProg), x84, x85, x86⟩ : bR) y15.Node y7).bind fun y16 =>
  (chk (x79 + 1)).bind fun z8 =>
  tM rec_r05_Look_fill y6 y7 k z8 y16.p.Free y16.p.Nodes y16.p.Defs y16.p.Main y16.Envs y16.Sizes y16.Heads
 else
  some (x80, x81, x82, x83, x84, x85, x86)
def jA : Nat → bR → Int → (List Ref05_Chan) → Option (bR)
| 0, _, _, _ => none
| fuel + 1, a0, a1, a2 =>
 (idx a0.Envs a1).bind fun y1 =>
 (idx a0.p.Nodes a1).bind fun y2 =>
 (if y2.Op ≠ 4 then
  (vZ (jA fuel) a2 y2 fuel 0 a0.p.Free a0.p.Nodes a0.p.Defs a0.p.Main (a0.Envs.set a1.toNat a2) a0.Sizes a0.Heads).bind fun (x1, x2, x3, x4, x5, x6, x7) =>
  (some (⟨(⟨x1, x2, x3, x4⟩ : ScopeProg), x5, x6, x7⟩ : bR)).bind fun r => some (Sum.inr r)
 else
  some (Sum.inl ())).bind fun o => match o with
 | Sum.inr r => some r
 | Sum.inl _ =>
 (idx a0.Heads y2.N).bind fun y5 =>
 (idx a0.p.Defs y2.N).bind fun y6 =>
 (dN (([] : List Ref05_Chan) ++ a2)).bind fun z2 =>
 (vO y2 y6 fuel z2 0).bind fun x24 =>
 (yW fuel x24 (y6.Spots.length : Int)).bind fun y7 =>
 (wK fuel (jA fuel) y6 y7 fuel 0 a0.p.Free a0.p.Nodes a0.p.Defs a0.p.Main (a0.Envs.set a1.toNat a2) a0.Sizes (a0.Heads.set y2.N.toNat a1)).bind fun (x29, x30, x31, x32, x33, x34, x35) =>
 (tM (jA fuel) y6 y7 fuel 0 x29 x30 x31 x32 x33 x34 x35).bind fun (x64, x65, x66, x67, x68, x69, x70) =>
 (idx y2.Kids 0).bind fun y17 =>
 ((jA fuel) (⟨(⟨x64, x65, x66, x67⟩ : ScopeProg), x68, x69, x70⟩ : bR) y17 y7).bind fun y18 =>
 some (⟨(⟨y18.p.Free, y18.p.Nodes, y18.p.Defs, y18.p.Main⟩ : ScopeProg), y18.Envs, y18.Sizes, y18.Heads⟩ : bR)
def vH (a0 : ScopeProg) : Nat → Int → (List (List Ref05_Chan)) → Option (List (List Ref05_Chan))
| 0, _, _ => none
| k + 1, x4, x5 =>
 if x4 < (a0.Nodes.length : Int) then
  (dN (x5 ++ [[]])).bind fun z1 =>
  (chk (x4 + 1)).bind fun z2 =>
  vH a0 k z2 z1
 else
  some x5
def vR (a0 : ScopeProg) : Nat → Int → (List Int) → Option (List Int)
| 0, _, _ => none
| k + 1, x9, x10 =>
 if x9 < (a0.Defs.length : Int) then
  (dN (x10 ++ [0])).bind fun z3 =>
  (chk (x9 + 1)).bind fun z4 =>
  vR a0 k z4 z3
 else
  some x10
def aCW (fuel : Nat) (a0 : ScopeProg) : Option (bR) :=
 (aAO fuel (⟨a0.Free, a0.Nodes, a0.Defs, a0.Main⟩ : ScopeProg)).bind fun y1 =>
 (vH a0 fuel 0 []).bind fun x1 =>
 (vR a0 fuel 0 []).bind fun x6 =>
 (yW fuel [] (a0.Free.length : Int)).bind fun y2 =>
 (jA fuel (⟨(⟨a0.Free, a0.Nodes, a0.Defs, a0.Main⟩ : ScopeProg), x1, y1, x6⟩ : bR) a0.Main y2).bind fun y3 =>
 some (⟨(⟨y3.p.Free, y3.p.Nodes, y3.p.Defs, y3.p.Main⟩ : ScopeProg), y3.Envs, y3.Sizes, y3.Heads⟩ : bR)
def yV (a0 : Int) : Option (Int) :=
 if a0 = 0 then
  some 1
 else
  if a0 = 1 then
   some 3
  else
   some 4
def uL (a0 : Int) (a1 : Int) : Option (Int) :=
 (chk (a0 + a1)).bind fun z1 =>
 some (min z1 2)
def vK (a0 : Int) : Option (Int) :=
 if a0 = 1 then
  some 0
 else
  if a0 = 4 then
   some 2
  else
   some 1
end Go.Proofs.YtmnbfgeljmhekaaGreat
set_option maxRecDepth 100000
set_option maxHeartbeats 2000000
namespace Go.Proofs.YtmnbfgeljmhekaaGreat
open Go.SX Go.SW Go.Dt
attribute [local irreducible] Code.wpIn wpListIn Exit.then Exit.inBlock
def rQ (a1 : List UsageDef) (a3 : Int) (y1 : ScopeNode) (y3 : Ref05_Chan) : Nat → Int → Int → Option (Int)
| 0, _, _ => none
| k + 1, x5, x6 =>
 if x6 < (y1.Args.length : Int) then
  ((idx y1.Args x6).bind fun y6 =>
  if y6.Op ≠ 2 then
   some x5
  else
   (idx y1.Args x6).bind fun y7 =>
   if y7.N ≠ a3 then
    some x5
   else
    if y3.Def < 0 then
     some 2
    else
     (idx a1 y3.Def).bind fun y8 =>
     (idx y8.Args y3.Index).bind fun y9 =>
     (idx y9 x6).bind fun y10 =>
     (vK y10).bind fun y11 =>
     (uL x5 y11).bind fun y12 =>
     some y12).bind fun x7 =>
  (chk (x6 + 1)).bind fun z1 =>
  rQ a1 a3 y1 y3 k x7 z1
 else
  some x5
def aCB (fuel : Nat) (a0 : bR) (a1 : List UsageDef) (a2 : Int) (a3 : Int) : Option (Int) :=
 (idx a0.p.Nodes a2).bind fun y1 =>
 (idx a0.Envs a2).bind fun y2 =>
 (idx y2 y1.N).bind fun y3 =>
 (if 0 ≤ y3.Def then
  (idx a0.p.Defs y3.Def).bind fun y4 =>
  (idx y4.Chans y3.Index).bind fun y5 =>
  if y5.Many ≠ (y1.Args.length : Int) then
   (some 0).bind fun r => some (Sum.inr r)
  else
   some (Sum.inl ())
 else
  some (Sum.inl ())).bind fun o => match o with
 | Sum.inr r => some r
 | Sum.inl _ =>
 (if y1.N = a3 then
  some 1
 else
  some 0).bind fun x1 =>
 (rQ a1 a3 y1 y3 fuel x1 0).bind fun x2 =>
 some x2
def aBj (a0 : Int) (a1 : Int) : Option (Int) :=
 (chk (a0 * a1)).bind fun z1 =>
 some (min z1 2)
def vS (rec_r05_Look_Sends : bR → (List UsageDef) → Int → Int → Option (Int)) (a0 : bR) (a1 : List UsageDef) (a3 : Int) (y2 : ScopeDef) : Nat → Int → Int → Option (Int)
| 0, _, _ => none
| k + 1, x4, x5 =>
 if x5 < (y2.Spots.length : Int) then
  (idx y2.Spots x5).bind fun y5 =>
  (rec_r05_Look_Sends a0 a1 y5.Node a3).bind fun y6 =>
  (uL x4 y6).bind fun y7 =>
  (chk (x5 + 1)).bind fun z1 =>
  vS rec_r05_Look_Sends a0 a1 a3 y2 k y7 z1
 else
  some x4
def wO (rec_r05_Look_Sends : bR → (List UsageDef) → Int → Int → Option (Int)) (a0 : bR) (a1 : List UsageDef) (a3 : Int) (y1 : ScopeNode) (y2 : ScopeDef) : Nat → Int → Int → Option (Int)
| 0, _, _ => none
| k + 1, x9, x10 =>
 if x10 < (y2.Rules.length : Int) then
  (idx a1 y1.N).bind fun y8 =>
  (idx y8.Rules x10).bind fun y9 =>
  (vK y9).bind fun y10 =>
  (idx y2.Rules x10).bind fun y11 =>
  (rec_r05_Look_Sends a0 a1 y11.Node a3).bind fun y12 =>
  (aBj y10 y12).bind fun y13 =>
  (uL x9 y13).bind fun y14 =>
  (chk (x10 + 1)).bind fun z2 =>
  wO rec_r05_Look_Sends a0 a1 a3 y1 y2 k y14 z2
 else
  some x9
mutual
def iF : Nat → bR → (List UsageDef) → Int → Int → Option (Int)
| 0, _, _, _, _ => none
| fuel + 1, a0, a1, a2, a3 =>
 (idx a0.p.Nodes a2).bind fun y1 =>
 if y1.Op = 2 then
  (aCB fuel a0 a1 a2 a3).bind fun y2 =>
  some y2
 else
  if y1.Op = 3 then
   (idx y1.Kids 0).bind fun y3 =>
   ((iF fuel) a0 a1 y3 a3).bind fun y4 =>
   (idx y1.Kids 1).bind fun y5 =>
   ((iF fuel) a0 a1 y5 a3).bind fun y6 =>
   (uL y4 y6).bind fun y7 =>
   some y7
  else
   if y1.Op = 5 then
    (idx y1.Kids 0).bind fun y8 =>
    ((iF fuel) a0 a1 y8 a3).bind fun y9 =>
    (idx y1.Kids 1).bind fun y10 =>
    ((iF fuel) a0 a1 y10 a3).bind fun y11 =>
    some (max y9 y11)
   else
    (if y1.Op = 6 then
     some (decide (y1.Op = 6))
    else
     some (decide (y1.Op = 8))).bind fun x1 =>
    bif x1 then
     (idx y1.Kids 0).bind fun y12 =>
     ((iF fuel) a0 a1 y12 a3).bind fun y13 =>
     some y13
    else
     if y1.Op = 4 then
      ((yD fuel) a0 a1 a2 a3).bind fun y14 =>
      some y14
     else
      some 0
def yD : Nat → bR → (List UsageDef) → Int → Int → Option (Int)
| 0, _, _, _, _ => none
| fuel + 1, a0, a1, a2, a3 =>
 (idx a0.p.Nodes a2).bind fun y1 =>
 (idx a0.p.Defs y1.N).bind fun y2 =>
 (idx y1.Kids 0).bind fun y3 =>
 ((iF fuel) a0 a1 y3 a3).bind fun y4 =>
 (vS (iF fuel) a0 a1 a3 y2 fuel y4 0).bind fun x1 =>
 (wO (iF fuel) a0 a1 a3 y1 y2 fuel x1 0).bind fun x6 =>
 some x6
end
end Go.Proofs.YtmnbfgeljmhekaaGreat
set_option maxRecDepth 100000
set_option maxHeartbeats 2000000
namespace Go.Proofs.YtmnbfgeljmhekaaGreat
open Go.SX Go.SW Go.Dt
attribute [local irreducible] Code.wpIn wpListIn Exit.then Exit.inBlock
def tA (rec_r05_Look_Sure : bR → Int → Int → Option (Int)) (a0 : bR) (a2 : Int) (y2 : ScopeDef) : Nat → Int → Int → Option (Int)
| 0, _, _ => none
| k + 1, x4, x5 =>
 if x5 < (y2.Spots.length : Int) then
  (idx y2.Spots x5).bind fun y5 =>
  (rec_r05_Look_Sure a0 y5.Node a2).bind fun y6 =>
  (chk (x4 + y6)).bind fun z1 =>
  (chk (x5 + 1)).bind fun z2 =>
  tA rec_r05_Look_Sure a0 a2 y2 k z1 z2
 else
  some x4
mutual
def mZ : Nat → bR → Int → Int → Option (Int)
| 0, _, _, _ => none
| fuel + 1, a0, a1, a2 =>
 (idx a0.p.Nodes a1).bind fun y1 =>
 (if y1.Op = 2 then
  (idx a0.Envs a1).bind fun y2 =>
  (idx y2 a2).bind fun y3 =>
  if y1.N = a2 then
   if 0 ≤ y3.Def then
    (idx a0.p.Defs y3.Def).bind fun y4 =>
    (idx y4.Chans y3.Index).bind fun y5 =>
    if y5.Many = (y1.Args.length : Int) then
     (some 1).bind fun r => some (Sum.inr r)
    else
     some (Sum.inl ())
   else
    some (Sum.inl ())
  else
   some (Sum.inl ())
 else
  if y1.Op = 3 then
   (idx y1.Kids 0).bind fun y6 =>
   ((mZ fuel) a0 y6 a2).bind fun y7 =>
   (idx y1.Kids 1).bind fun y8 =>
   ((mZ fuel) a0 y8 a2).bind fun y9 =>
   (chk (y7 + y9)).bind fun z1 =>
   (some z1).bind fun r => some (Sum.inr r)
  else
   if y1.Op = 5 then
    (idx y1.Kids 0).bind fun y10 =>
    ((mZ fuel) a0 y10 a2).bind fun y11 =>
    (idx y1.Kids 1).bind fun y12 =>
    ((mZ fuel) a0 y12 a2).bind fun y13 =>
    (some (min y11 y13)).bind fun r => some (Sum.inr r)
   else
    if y1.Op = 4 then
     ((vQ fuel) a0 a1 a2).bind fun y14 =>
     (some y14).bind fun r => some (Sum.inr r)
    else
     some (Sum.inl ())).bind fun o => match o with
 | Sum.inr r => some r
 | Sum.inl _ =>
 some 0
def vQ : Nat → bR → Int → Int → Option (Int)
| 0, _, _, _ => none
| fuel + 1, a0, a1, a2 =>
 (idx a0.p.Nodes a1).bind fun y1 =>
 (idx a0.p.Defs y1.N).bind fun y2 =>
 (idx y1.Kids 0).bind fun y3 =>
 ((mZ fuel) a0 y3 a2).bind fun y4 =>
 (tA (mZ fuel) a0 a2 y2 fuel y4 0).bind fun x1 =>
 some x1
end
def zW (a0 : bR) (a1 : Int) (a2 : Int) : Option (Int) :=
 (idx a0.Heads a1).bind fun y1 =>
 (idx a0.Sizes y1).bind fun y2 =>
 (chk (y2 + a2)).bind fun z1 =>
 some z1
def uP (a2 : Int) (a3 : Int) (y1 : ScopeDef) : Nat → Int → Int → Option (Int)
| 0, _, _ => none
| k + 1, x4, x5 =>
 if x5 < a3 then
  (idx y1.Rules a2).bind fun y4 =>
  (idx y4.Joins x5).bind fun y5 =>
  (idx y1.Chans y5).bind fun y6 =>
  (chk (x4 + y6.Many)).bind fun z4 =>
  (chk (x5 + 1)).bind fun z5 =>
  uP a2 a3 y1 k z4 z5
 else
  some x4
def aCF (fuel : Nat) (a0 : bR) (a1 : Int) (a2 : Int) (a3 : Int) (a4 : Int) : Option (Int) :=
 (idx a0.p.Defs a1).bind fun y1 =>
 (idx a0.Heads a1).bind fun y2 =>
 (idx a0.Sizes y2).bind fun y3 =>
 (chk (y3 + (y1.Chans.length : Int))).bind fun z1 =>
 (chk (z1 + (y1.Spots.length : Int))).bind fun z2 =>
 (chk (z2 + a4)).bind fun z3 =>
 (uP a2 a3 y1 fuel z3 0).bind fun x1 =>
 some x1
end Go.Proofs.YtmnbfgeljmhekaaGreat
set_option maxRecDepth 100000
set_option maxHeartbeats 2000000
namespace Go.Proofs.YtmnbfgeljmhekaaGreat
open Go.SX Go.SW Go.Dt
attribute [local irreducible] Code.wpIn wpListIn Exit.then Exit.inBlock
def sI (fuel : Nat) (a0 : bR) (a1 : List UsageDef) (a2 : Int) (a3 : Int) (a4 : Int) (y1 : ScopeDef) (x5 : Int) : Nat → Int → Int → Option (Int)
| 0, _, _ => none
| k + 1, x9, x10 =>
 (idx y1.Rules x5).bind fun y2 =>
 if x10 < (y2.Joins.length : Int) then
  ((idx y1.Rules x5).bind fun y3 =>
  (idx y3.Joins x10).bind fun y4 =>
  if y4 = a3 then
   (idx a1 a2).bind fun y5 =>
   (idx y5.Rules x5).bind fun y6 =>
   (vK y6).bind fun y7 =>
   if 0 < y7 then
    (idx y1.Rules x5).bind fun y8 =>
    (aCF fuel a0 a2 x5 x10 a4).bind fun y9 =>
    (iF fuel a0 a1 y8.Node y9).bind fun y10 =>
    some (max x9 y10)
   else
    some x9
  else
   some x9).bind fun x11 =>
  (chk (x10 + 1)).bind fun z1 =>
  sI fuel a0 a1 a2 a3 a4 y1 x5 k x11 z1
 else
  some x9
def wB (fuel : Nat) (a0 : bR) (a1 : List UsageDef) (a2 : Int) (a3 : Int) (a4 : Int) (y1 : ScopeDef) : Nat → Int → Int → Option (Int)
| 0, _, _ => none
| k + 1, x4, x5 =>
 if x5 < (y1.Rules.length : Int) then
  (sI fuel a0 a1 a2 a3 a4 y1 x5 fuel x4 0).bind fun x6 =>
  (chk (x5 + 1)).bind fun z2 =>
  wB fuel a0 a1 a2 a3 a4 y1 k x6 z2
 else
  some x4
def aGe (fuel : Nat) (a0 : bR) (a1 : List UsageDef) (a2 : Int) (a3 : Int) (a4 : Int) : Option (Int) :=
 (idx a0.p.Defs a2).bind fun y1 =>
 (wB fuel a0 a1 a2 a3 a4 y1 fuel 0 0).bind fun x1 =>
 some x1
def tX (fuel : Nat) (a0 : bR) (a1 : List UsageDef) (a2 : Int) (y1 : ScopeDef) (x6 : Int) : Nat → (List Int) → Int → Option (List Int)
| 0, _, _ => none
| k + 1, x14, x15 =>
 (idx y1.Chans x6).bind fun y6 =>
 if x15 < y6.Many then
  (aGe fuel a0 a1 a2 x6 x15).bind fun y7 =>
  (yV y7).bind fun y8 =>
  (dN (x14 ++ [y8])).bind fun z2 =>
  (chk (x15 + 1)).bind fun z3 =>
  tX fuel a0 a1 a2 y1 x6 k z2 z3
 else
  some x14
def vB (fuel : Nat) (a0 : bR) (a1 : List UsageDef) (a2 : Int) (y1 : ScopeDef) : Nat → Int → (List Int) → (List (List Int)) → Option (List Int × List (List Int))
| 0, _, _, _ => none
| k + 1, x6, x7, x8 =>
 if x6 < (y1.Chans.length : Int) then
  ((idx a0.Heads a2).bind fun y2 =>
  (zW a0 a2 x6).bind fun y3 =>
  (yD fuel a0 a1 y2 y3).bind fun y4 =>
  (yV y4).bind fun y5 =>
  (dN (x7 ++ [y5])).bind fun z1 =>
  (tX fuel a0 a1 a2 y1 x6 fuel ([] : List Int) 0).bind fun x11 =>
  (dN (x8 ++ ([x11] : List (List Int)))).bind fun z4 =>
  some (z1, z4)).bind fun (x9, x10) =>
  (chk (x6 + 1)).bind fun z5 =>
  vB fuel a0 a1 a2 y1 k z5 x9 x10
 else
  some (x7, x8)
def vI (a1 : List UsageDef) (a2 : Int) (y1 : ScopeDef) (x19 : Int) : Nat → Int → Int → Option (Int)
| 0, _, _ => none
| k + 1, x25, x26 =>
 (idx y1.Rules x19).bind fun y9 =>
 if x26 < (y9.Joins.length : Int) then
  (idx a1 a2).bind fun y10 =>
  (idx y1.Rules x19).bind fun y11 =>
  (idx y11.Joins x26).bind fun y12 =>
  (idx y10.Chans y12).bind fun y13 =>
  (vK y13).bind fun y14 =>
  (chk (x26 + 1)).bind fun z6 =>
  vI a1 a2 y1 x19 k (min x25 y14) z6
 else
  some x25
def uT (fuel : Nat) (a1 : List UsageDef) (a2 : Int) (y1 : ScopeDef) : Nat → Int → (List Int) → Option (List Int)
| 0, _, _ => none
| k + 1, x19, x20 =>
 if x19 < (y1.Rules.length : Int) then
  ((vI a1 a2 y1 x19 fuel 2 0).bind fun x22 =>
  (yV x22).bind fun y15 =>
  (dN (x20 ++ [y15])).bind fun z7 =>
  some z7).bind fun x21 =>
  (chk (x19 + 1)).bind fun z8 =>
  uT fuel a1 a2 y1 k z8 x21
 else
  some x20
def aA0 (fuel : Nat) (a0 : bR) (a1 : List UsageDef) (a2 : Int) : Option (UsageDef) :=
 (idx a0.p.Defs a2).bind fun y1 =>
 (vB fuel a0 a1 a2 y1 fuel 0 [] []).bind fun (x1, x2) =>
 (uT fuel a1 a2 y1 fuel 0 []).bind fun x16 =>
 some (⟨x1, x16, x2⟩ : UsageDef)
def uF (fuel : Nat) (a0 : bR) (a1 : List UsageDef) : Nat → (List UsageDef) → Int → Option (List UsageDef)
| 0, _, _ => none
| k + 1, x4, x5 =>
 if x5 < (a0.p.Defs.length : Int) then
  (aA0 fuel a0 a1 x5).bind fun y1 =>
  (dN (x4 ++ ([(⟨y1.Chans, y1.Rules, y1.Args⟩ : UsageDef)] : List UsageDef))).bind fun z1 =>
  (chk (x5 + 1)).bind fun z2 =>
  uF fuel a0 a1 k z1 z2
 else
  some x4
def aCv (fuel : Nat) (a0 : bR) (a1 : List UsageDef) : Option (List UsageDef) :=
 (uF fuel a0 a1 fuel [] 0).bind fun x1 =>
 some x1
def wI (a0 : ScopeProg) (x5 : Int) (x12 : Int) : Nat → (List Int) → Int → Option (List Int)
| 0, _, _ => none
| k + 1, x20, x21 =>
 (idx a0.Defs x5).bind fun y2 =>
 (idx y2.Chans x12).bind fun y3 =>
 if x21 < y3.Many then
  (dN (x20 ++ [1])).bind fun z2 =>
  (chk (x21 + 1)).bind fun z3 =>
  wI a0 x5 x12 k z2 z3
 else
  some x20
def vY (fuel : Nat) (a0 : ScopeProg) (x5 : Int) : Nat → Int → (List Int) → (List (List Int)) → Option (List Int × List (List Int))
| 0, _, _, _ => none
| k + 1, x12, x13, x14 =>
 (idx a0.Defs x5).bind fun y1 =>
 if x12 < (y1.Chans.length : Int) then
  ((dN (x13 ++ [1])).bind fun z1 =>
  (wI a0 x5 x12 fuel ([] : List Int) 0).bind fun x17 =>
  (dN (x14 ++ ([x17] : List (List Int)))).bind fun z4 =>
  some (z1, z4)).bind fun (x15, x16) =>
  (chk (x12 + 1)).bind fun z5 =>
  vY fuel a0 x5 k z5 x15 x16
 else
  some (x13, x14)
def uW (a0 : ScopeProg) (x5 : Int) : Nat → Int → (List Int) → Option (List Int)
| 0, _, _ => none
| k + 1, x25, x26 =>
 (idx a0.Defs x5).bind fun y4 =>
 if x25 < (y4.Rules.length : Int) then
  (dN (x26 ++ [1])).bind fun z6 =>
  (chk (x25 + 1)).bind fun z7 =>
  uW a0 x5 k z7 z6
 else
  some x26
def wJ (fuel : Nat) (a0 : ScopeProg) : Nat → (List UsageDef) → Int → Option (List UsageDef)
| 0, _, _ => none
| k + 1, x4, x5 =>
 if x5 < (a0.Defs.length : Int) then
  ((vY fuel a0 x5 fuel 0 [] []).bind fun (x7, x8) =>
  (uW a0 x5 fuel 0 []).bind fun x22 =>
  (dN (x4 ++ ([(⟨x7, x22, x8⟩ : UsageDef)] : List UsageDef))).bind fun z8 =>
  some z8).bind fun x6 =>
  (chk (x5 + 1)).bind fun z9 =>
  wJ fuel a0 k x6 z9
 else
  some x4
def aBS (fuel : Nat) (a0 : ScopeProg) : Option (List UsageDef) :=
 (wJ fuel a0 fuel [] 0).bind fun x1 =>
 some x1
end Go.Proofs.YtmnbfgeljmhekaaGreat
set_option maxRecDepth 100000
set_option maxHeartbeats 2000000
namespace Go.Proofs.YtmnbfgeljmhekaaGreat
open Go.SX Go.SW Go.Dt
attribute [local irreducible] Code.wpIn wpListIn Exit.then Exit.inBlock
def xD (fuel : Nat) (y1 : bR) : Nat → (List UsageDef) → Option (List UsageDef)
| 0, _ => none
| k + 1, x3 =>
 (aCv fuel y1 x3).bind fun y3 =>
 (wG fuel x3 y3).bind fun y4 =>
 bif y4 then
  some x3
 else
  xD fuel y1 k y3
def vU (fuel : Nat) (y1 : bR) (x8 : Int) : Nat → (List UsageDef) → Int → Option (List UsageDef)
| 0, _, _ => none
| k + 1, x12, x13 =>
 (idx x12 x8).bind fun y5 =>
 if x13 < (y5.Chans.length : Int) then
  ((idx x12 x8).bind fun y6 =>
  (idx y5.Chans x13).bind fun y7 =>
  if y7 = 3 then
   (idx y1.Heads x8).bind fun y8 =>
   (zW y1 x8 x13).bind fun y9 =>
   (vQ fuel y1 y8 y9).bind fun y10 =>
   if y10 = 1 then
    (idx x12 x8).bind fun y11 =>
    (idx y5.Chans x13).bind fun y12 =>
    some (y5.Chans.set x13.toNat 2)
   else
    some y5.Chans
  else
   some y5.Chans).bind fun x14 =>
  (chk (x13 + 1)).bind fun z1 =>
  vU fuel y1 x8 k (x12.set x8.toNat ({ y5 with Chans := x14 })) z1
 else
  some (x12.set x8.toNat ({ y5 with Chans := y5.Chans }))
def rN (fuel : Nat) (y1 : bR) : Nat → (List UsageDef) → Int → Option (List UsageDef)
| 0, _, _ => none
| k + 1, x7, x8 =>
 if x8 < (x7.length : Int) then
  (vU fuel y1 x8 fuel x7 0).bind fun x9 =>
  (chk (x8 + 1)).bind fun z2 =>
  rN fuel y1 k x9 z2
 else
  some x7
def aBd (a0 : List ScopeNode) : Option (List ScopeNode) :=
 (dN (([] : List ScopeNode) ++ a0)).bind fun z1 =>
 some z1
theorem aGZ  (a0 : List ScopeNode) (r : List ScopeNode) (H : aBd a0 = some r) : FnS Tryz.prog 52 [fSl aL a0] [] fAny (fun v => [(fun v => aE v 51 aL r) v]) := by
 unfold aBd at H
 refine bD Tryz.func52 rfl Tryz.ntmps52 rfl (fun β => ?_)
 refine Z3 ?_
 refine aH ?_
 refine Z2 ?_
 refine Yy (yL rfl hh (us rfl)) ?_
 refine Z1 ?_
 refine xZ (has rfl) (fun hx => ?_) ?_
 replace H : some ([] : List ScopeNode) = some r := by subst hx; exact H
 refine Z4 ?_
 refine qL aL 51 ?_
 cases H
 exact nM rfl (bO rfl) (fun _ _ _ => trivial) rfl
 refine Z3 ?_
 refine Tn (cM (t := aL) (xs := ([] : List ScopeNode)) rfl (et rfl) aS.nil rfl rfl rfl) fun b1 => ?_
 generalize (Value.slice (some ⟨b1, 0, none⟩) _ _) = v1
 refine aR 0 rfl (fun hc_v1 => ?_)
 revert H; refine B1 fun z1 h1 H => ?_
 refine rP (ys := a0) trivial rfl rfl rfl (has rfl) (has rfl) (et rfl) rfl h1 (fun v2 => ?_)
 refine aR 0 rfl (fun hc_v2 => ?_)
 refine Z3 ?_
 cases H
 exact nM rfl (bO rfl) (fun _ _ _ => trivial) rfl
end Go.Proofs.YtmnbfgeljmhekaaGreat
set_option maxRecDepth 100000
set_option maxHeartbeats 2000000
namespace Go.Proofs.YtmnbfgeljmhekaaGreat
open Go.SX Go.SW Go.Dt
attribute [local irreducible] Code.wpIn wpListIn Exit.then Exit.inBlock
def aA5 (a0 : List Int) : Option (List Int) :=
 (dN (([] : List Int) ++ a0)).bind fun z1 =>
 some z1
def aAe (a0 : List ScopeDef) : Option (List ScopeDef) :=
 (dN (([] : List ScopeDef) ++ a0)).bind fun z1 =>
 some z1
theorem aG9  (a0 : List ScopeDef) (r : List ScopeDef) (H : aAe a0 = some r) : FnS Tryz.prog 54 [fSl aJ a0] [] fAny (fun v => [(fun v => aE v 99 aJ r) v]) := by
 unfold aAe at H
 refine bD Tryz.func54 rfl Tryz.ntmps54 rfl (fun β => ?_)
 refine Z3 ?_
 refine aH ?_
 refine Z2 ?_
 refine Yy (yL rfl hh (us rfl)) ?_
 refine Z1 ?_
 refine xZ (has rfl) (fun hx => ?_) ?_
 replace H : some ([] : List ScopeDef) = some r := by subst hx; exact H
 refine Z4 ?_
 refine qL aJ 99 ?_
 cases H
 exact nM rfl (bO rfl) (fun _ _ _ => trivial) rfl
 refine Z3 ?_
 refine Tn (cM (t := aJ) (xs := ([] : List ScopeDef)) rfl (et rfl) aS.nil rfl rfl rfl) fun b1 => ?_
 generalize (Value.slice (some ⟨b1, 0, none⟩) _ _) = v1
 refine aR 0 rfl (fun hc_v1 => ?_)
 revert H; refine B1 fun z1 h1 H => ?_
 refine rP (ys := a0) trivial rfl rfl rfl (has rfl) (has rfl) (et rfl) rfl h1 (fun v2 => ?_)
 refine aR 0 rfl (fun hc_v2 => ?_)
 refine Z3 ?_
 cases H
 exact nM rfl (bO rfl) (fun _ _ _ => trivial) rfl
def aAd (a0 : List ScopeSpot) : Option (List ScopeSpot) :=
 (dN (([] : List ScopeSpot) ++ a0)).bind fun z1 =>
 some z1
theorem aGL  (a0 : List ScopeSpot) (r : List ScopeSpot) (H : aAd a0 = some r) : FnS Tryz.prog 55 [fSl bW a0] [] (fSl bW r) (fun _ => []) := by
 unfold aAd at H
 refine bD Tryz.func55 rfl Tryz.ntmps55 rfl (fun β => ?_)
 refine Z3 ?_
 refine aH ?_
 refine Z2 ?_
 refine Yy (yL rfl hh (us rfl)) ?_
 refine Z1 ?_
 refine xZ (has rfl) (fun hx => ?_) ?_
 replace H : some [] = some r := by subst hx; exact H
 refine Z4 ?_
 cases H
 exact nC rfl (jF rfl eG) rfl
 refine Z3 ?_
 refine Tn (cM (t := bW) (xs := ([] : List ScopeSpot)) rfl (et rfl) aS.nil rfl rfl rfl) fun b1 => ?_
 generalize (Value.slice (some ⟨b1, 0, none⟩) _ _) = v1
 refine aR 0 rfl (fun hc_v1 => ?_)
 revert H; refine B1 fun z1 h1 H => ?_
 refine rP (ys := a0) trivial rfl rfl rfl (has rfl) (has rfl) (et rfl) rfl h1 (fun v2 => ?_)
 refine aR 0 rfl (fun hc_v2 => ?_)
 refine Z3 ?_
 refine cR (φ := fSl bW z1) (v := v2) [2, 7] cO fz ?_
 refine cS ?_
 cases H
 exact To
def aAo (a0 : List ScopeRule) : Option (List ScopeRule) :=
 (dN (([] : List ScopeRule) ++ a0)).bind fun z1 =>
 some z1
theorem aIu  (a0 : List ScopeRule) (r : List ScopeRule) (H : aAo a0 = some r) : FnS Tryz.prog 56 [fSl bK a0] [] (fSl bK r) (fun _ => []) := by
 unfold aAo at H
 refine bD Tryz.func56 rfl Tryz.ntmps56 rfl (fun β => ?_)
 refine Z3 ?_
 refine aH ?_
 refine Z2 ?_
 refine Yy (yL rfl hh (us rfl)) ?_
 refine Z1 ?_
 refine xZ (has rfl) (fun hx => ?_) ?_
 replace H : some [] = some r := by subst hx; exact H
 refine Z4 ?_
 cases H
 exact nC rfl (jF rfl eG) rfl
 refine Z3 ?_
 refine Tn (cM (t := bK) (xs := ([] : List ScopeRule)) rfl (et rfl) aS.nil rfl rfl rfl) fun b1 => ?_
 generalize (Value.slice (some ⟨b1, 0, none⟩) _ _) = v1
 refine aR 0 rfl (fun hc_v1 => ?_)
 revert H; refine B1 fun z1 h1 H => ?_
 refine rP (ys := a0) trivial rfl rfl rfl (has rfl) (has rfl) (et rfl) rfl h1 (fun v2 => ?_)
 refine aR 0 rfl (fun hc_v2 => ?_)
 refine Z3 ?_
 refine cR (φ := fSl bK z1) (v := v2) [2, 7] cO fz ?_
 refine cS ?_
 cases H
 exact To
def mT (y5 : List ScopeDef) : Nat → Int → (List ScopeDef) → Option (List ScopeDef)
| 0, _, _ => none
| k + 1, x9, x10 =>
 if x9 < (y5.length : Int) then
  (idx x10 x9).bind fun y6 =>
  (aAd y6.Spots).bind fun y7 =>
  (idx x10 x9).bind fun y8 =>
  (idx (x10.set x9.toNat ({ y8 with Spots := y7 })) x9).bind fun y9 =>
  (aAo y9.Rules).bind fun y10 =>
  (idx (x10.set x9.toNat ({ y8 with Spots := y7 })) x9).bind fun y11 =>
  (chk (x9 + 1)).bind fun z2 =>
  mT y5 k z2 ((x10.set x9.toNat ({ y8 with Spots := y7 })).set x9.toNat ({ y11 with Rules := y10 }))
 else
  some x10
def mW (a0 : List UsageDef) (a1 : List UsageDef) (a2 : UsageDef × UsageDef → Option Bool) : Nat → Int → Option ((Unit) ⊕ (Bool))
| 0, _ => none
| k + 1, x2 =>
 if x2 < (a0.length : Int) then
  (idx a0 x2).bind fun y1 =>
  (idx a1 x2).bind fun y2 =>
  (a2 ((⟨y1.Chans, y1.Rules, y1.Args⟩ : UsageDef), (⟨y2.Chans, y2.Rules, y2.Args⟩ : UsageDef))).bind fun y3 =>
  bif y3 then
   (chk (x2 + 1)).bind fun z1 =>
   mW a0 a1 a2 k z1
  else
   (some false).bind fun r => some (Sum.inr r)
 else
  some (Sum.inl ())
def xS (fuel : Nat) (a0 : List UsageDef) (a1 : List UsageDef) (a2 : UsageDef × UsageDef → Option Bool) : Option (Bool) :=
 if (a0.length : Int) ≠ (a1.length : Int) then
  some false
 else
  (mW a0 a1 a2 fuel 0).bind fun o => match o with
  | Sum.inr r => some r
  | Sum.inl _ =>
  some true
theorem aGE (fuel : Nat)  (a0 : List UsageDef) (a1 : List UsageDef) (a2 : UsageDef × UsageDef → Option Bool) (r : Bool) (H : xS fuel a0 a1 a2 = some r) : FnS Tryz.prog 57 [fSl bC a0, fSl bC a1, fFn Tryz.prog (fun (x : UsageDef × UsageDef) => [fSt bC x.1, fSt bC x.2]) (fun (r : Bool) => aI r) a2] [] (aI r) (fun _ => []) := by
 unfold xS at H
 refine bD Tryz.func57 rfl Tryz.ntmps57 rfl (fun β => ?_)
 refine Z3 ?_
 refine aH ?_
 revert H; refine I7 (fun c1 H => ?_) fun c1 H => ?_
 refine Z5 ?_
 cases H
 exact To
 revert H; refine B3 fun o1 H Hr1 => ?_
 refine aW (ι := Unit) (fun i => o1 = Sum.inl ()) (fun i => []) (fun i => []) ?_ ?_
 refine Z6 ?_
 refine Tl (ι := Nat × Int) (fun i => mW a0 a1 a2 i.1 i.2 = _) (fun i => i.1) (fun i => [(1, fSl bC a1), (2, fFn Tryz.prog (fun (x : UsageDef × UsageDef) => [fSt bC x.1, fSt bC x.2]) (fun (r : Bool) => aI r) a2), (15, fSl bC a0), (16, aA .i64 (a0.length : Int)), (17, aA .i64 i.2)]) (fun i => []) (fuel, 0) H ?_
 clear H; rintro ⟨k1, x2⟩ H
 replace H : mW a0 a1 a2 k1 x2 = _ := H
 try dsimp only
 obtain _ | k1 := k1
 rw [mW] at H; cases H
 rw [mW] at H
 refine Z3 ?_
 refine aH ?_
 revert H; refine is (fun c2 H => ?_) fun c2 H => ?_
 refine Z3 ?_
 refine aH ?_
 revert H; refine B3 fun y1 h1 H => ?_
 refine Z2 ?_
 refine Tn (cK rfl uO rfl) fun b1 => ?_
 refine Z1 ?_
 refine dM (φs' := [fSl (aB .i64) y1.Chans, fSl (aB .i64) y1.Rules, fSl (tSl (aB .i64)) y1.Args]) trivial rfl rfl (has rfl) (has rfl) (aO (aZ) (aO (aZ) (aO (aZ) bX))) (sz rfl) rfl rfl rfl ?_
 revert H; refine B4 fun y2 h2 H => ?_
 refine Z2 ?_
 refine Tn (cK rfl uO rfl) fun b2 => ?_
 refine dM (φs' := [fSl (aB .i64) y2.Chans, fSl (aB .i64) y2.Rules, fSl (tSl (aB .i64)) y2.Args]) trivial rfl rfl (has rfl) (has rfl) (aO (aZ) (aO (aZ) (aO (aZ) bX))) (sz rfl) rfl rfl rfl ?_
 revert H; refine B5 fun y3 h3 H => ?_
 refine tH ((⟨y1.Chans, y1.Rules, y1.Args⟩ : UsageDef), (⟨y2.Chans, y2.Rules, y2.Args⟩ : UsageDef)) trivial rfl rfl rfl (has rfl) (aK.cons (has rfl) (aK.cons (has rfl) aK.nil)) h3 ?_
 refine Z2 ?_
 revert H; refine cs (fun c3 H => ?_) fun c3 H => ?_
 revert H; refine B5 fun z1 h4 H => ?_
 refine Z3 ?_
 refine aG [] (by decide) ?_
 exact Tm ((k1, z1)) ⟨H, ls⟩
 revert H; refine B10 fun r1 H e1 => ?_
 cases e1; cases Hr1
 cases H
 refine aG [] (by decide) ?_
 exact To
 refine Z6 ?_
 exact Tm (()) (ij H)
 clear H; intro i hi; subst o1; have H := Hr1; clear Hr1; try dsimp only at H
 try dsimp only
 refine Z4 ?_
 cases H
 exact To
def nO (a0 : List Int) (a1 : List Int) (a2 : Int × Int → Option Bool) : Nat → Int → Option ((Unit) ⊕ (Bool))
| 0, _ => none
| k + 1, x2 =>
 if x2 < (a0.length : Int) then
  (idx a0 x2).bind fun y1 =>
  (idx a1 x2).bind fun y2 =>
  (a2 (y1, y2)).bind fun y3 =>
  bif y3 then
   (chk (x2 + 1)).bind fun z1 =>
   nO a0 a1 a2 k z1
  else
   (some false).bind fun r => some (Sum.inr r)
 else
  some (Sum.inl ())
def wQ (fuel : Nat) (a0 : List Int) (a1 : List Int) (a2 : Int × Int → Option Bool) : Option (Bool) :=
 if (a0.length : Int) ≠ (a1.length : Int) then
  some false
 else
  (nO a0 a1 a2 fuel 0).bind fun o => match o with
  | Sum.inr r => some r
  | Sum.inl _ =>
  some true
theorem aIN (fuel : Nat)  (a0 : List Int) (a1 : List Int) (a2 : Int × Int → Option Bool) (r : Bool) (H : wQ fuel a0 a1 a2 = some r) : FnS Tryz.prog 90 [fSl (aB .i64) a0, fSl (aB .i64) a1, fFn Tryz.prog (fun (x : Int × Int) => [aA .i64 x.1, aA .i64 x.2]) (fun (r : Bool) => aI r) a2] [] (aI r) (fun _ => []) := by
 unfold wQ at H
 refine bD Tryz.func90 rfl Tryz.ntmps90 rfl (fun β => ?_)
 refine Z3 ?_
 refine aH ?_
 revert H; refine I7 (fun c1 H => ?_) fun c1 H => ?_
 refine Z5 ?_
 cases H
 exact To
 revert H; refine B3 fun o1 H Hr1 => ?_
 refine aW (ι := Unit) (fun i => o1 = Sum.inl ()) (fun i => []) (fun i => []) ?_ ?_
 refine Z6 ?_
 refine Tl (ι := Nat × Int) (fun i => nO a0 a1 a2 i.1 i.2 = _) (fun i => i.1) (fun i => [(1, fSl (aB .i64) a1), (2, fFn Tryz.prog (fun (x : Int × Int) => [aA .i64 x.1, aA .i64 x.2]) (fun (r : Bool) => aI r) a2), (15, fSl (aB .i64) a0), (16, aA .i64 (a0.length : Int)), (17, aA .i64 i.2)]) (fun i => []) (fuel, 0) H ?_
 clear H; rintro ⟨k1, x2⟩ H
 replace H : nO a0 a1 a2 k1 x2 = _ := H
 try dsimp only
 obtain _ | k1 := k1
 rw [nO] at H; cases H
 rw [nO] at H
 refine Z3 ?_
 refine aH ?_
 revert H; refine is (fun c2 H => ?_) fun c2 H => ?_
 refine Z3 ?_
 refine aH ?_
 revert H; refine B3 fun y1 h1 H => ?_
 revert H; refine B8 fun y2 h2 H => ?_
 revert H; refine B8 fun y3 h3 H => ?_
 refine tH (y1, y2) trivial rfl rfl rfl (has rfl) (aK.cons (has rfl) (aK.cons (has rfl) aK.nil)) h3 ?_
 refine Z2 ?_
 revert H; refine cs (fun c3 H => ?_) fun c3 H => ?_
 revert H; refine B5 fun z1 h4 H => ?_
 refine Z3 ?_
 exact Tm ((k1, z1)) ⟨H, ls⟩
 revert H; refine B10 fun r1 H e1 => ?_
 cases e1; cases Hr1
 cases H
 exact To
 refine Z6 ?_
 exact Tm (()) (ij H)
 clear H; intro i hi; subst o1; have H := Hr1; clear Hr1; try dsimp only at H
 try dsimp only
 refine Z4 ?_
 cases H
 exact To
def tS (a0 : Int) : Option (Int) :=
 if a0 = 1 then
  some 0
 else
  (if a0 = 2 then
   some (decide (a0 = 2))
  else
   some (decide (a0 = 3))).bind fun x1 =>
  bif x1 then
   some 1
  else
   some 1000
theorem aFE  (a0 : Int) (r : Int) (H : tS a0 = some r) : FnS Tryz.prog 92 [aA .i64 a0] [] (aA .i64 r) (fun _ => []) := by
 unfold tS at H
 refine bD Tryz.func92 rfl Tryz.ntmps92 rfl (fun β => ?_)
 refine Z3 ?_
 refine aH ?_
 revert H; refine I8 (fun c1 H => ?_) fun c1 H => ?_
 refine Z7 ?_
 cases H
 exact To
 revert H; refine B1 fun o1 H Hr1 => ?_
 refine aW (ι := Bool) (fun i => o1 = i) (fun i => [(6, aI i)]) (fun i => []) ?_ ?_
 revert H; refine I4 (fun c2 H => ?_) fun c2 H => ?_
 refine Z3 ?_
 exact Tm (decide (a0 = 2)) (ij H)
 refine Z5 ?_
 exact Tm (decide (a0 = 3)) (ij H)
 clear H; intro x1 hi; subst o1; have H := Hr1; clear Hr1; try dsimp only at H
 try dsimp only
 revert H; refine cs (fun c3 H => ?_) fun c3 H => ?_
 refine Z7 ?_
 cases H
 exact To
 refine Z8 ?_
 cases H
 exact To
def tY (a0 : Int) (a1 : Int) : Option (Bool) :=
 (tS a0).bind fun y1 =>
 (tS a1).bind fun y2 =>
 some (decide (y1 ≤ y2))
theorem aIG  (a0 : Int) (a1 : Int) (r : Bool) (H : tY a0 a1 = some r) : FnS Tryz.prog 91 [aA .i64 a0, aA .i64 a1] [] (aI r) (fun _ => []) := by
 unfold tY at H
 refine bD Tryz.func91 rfl Tryz.ntmps91 rfl (fun β => ?_)
 revert H; refine B5 fun y1 h1 H => ?_
 refine Tc (aFE _ _ h1) ?_
 revert H; refine B1 fun y2 h2 H => ?_
 refine Tc (aFE _ _ h2) ?_
 refine Z4 ?_
 cases H
 exact To
def pX (fuel : Nat) (a0 : List Int) (a1 : List Int) : Option (Bool) :=
 (wQ fuel a0 a1 (fun x => tY x.1 x.2)).bind fun y1 =>
 some y1
theorem aB9 (fuel : Nat)  (a0 : List Int) (a1 : List Int) (r : Bool) (H : pX fuel a0 a1 = some r) : FnS Tryz.prog 59 [fSl (aB .i64) a0, fSl (aB .i64) a1] [] (aI r) (fun _ => []) := by
 unfold pX at H
 refine bD Tryz.func59 rfl Tryz.ntmps59 rfl (fun β => ?_)
 revert H; refine B6 fun y1 h1 H => ?_
 refine gS trivial rfl rfl rfl (has rfl) (aK.cons (has rfl) (aK.cons (has rfl) (aK.cons (dA rfl (oI (cb rfl) (fun x r hx => aIG x.1 x.2 r hx))) aK.nil))) rfl (cb rfl) (aIN fuel a0 a1 (fun x => tY x.1 x.2) y1 h1) rfl ?_
 refine Z3 ?_
 cases H
 exact To
def nA (a0 : List (List Int)) (a1 : List (List Int)) (a2 : (List Int) × (List Int) → Option Bool) : Nat → Int → Option ((Unit) ⊕ (Bool))
| 0, _ => none
| k + 1, x2 =>
 if x2 < (a0.length : Int) then
  (idx a0 x2).bind fun y1 =>
  (idx a1 x2).bind fun y2 =>
  (a2 (y1, y2)).bind fun y3 =>
  bif y3 then
   (chk (x2 + 1)).bind fun z1 =>
   nA a0 a1 a2 k z1
  else
   (some false).bind fun r => some (Sum.inr r)
 else
  some (Sum.inl ())
def wS (fuel : Nat) (a0 : List (List Int)) (a1 : List (List Int)) (a2 : (List Int) × (List Int) → Option Bool) : Option (Bool) :=
 if (a0.length : Int) ≠ (a1.length : Int) then
  some false
 else
  (nA a0 a1 a2 fuel 0).bind fun o => match o with
  | Sum.inr r => some r
  | Sum.inl _ =>
  some true
theorem aHY (fuel : Nat)  (a0 : List (List Int)) (a1 : List (List Int)) (a2 : (List Int) × (List Int) → Option Bool) (r : Bool) (H : wS fuel a0 a1 a2 = some r) : FnS Tryz.prog 60 [fSl (tSl (aB .i64)) a0, fSl (tSl (aB .i64)) a1, fFn Tryz.prog (fun (x : (List Int) × (List Int)) => [fSl (aB .i64) x.1, fSl (aB .i64) x.2]) (fun (r : Bool) => aI r) a2] [] (aI r) (fun _ => []) := by
 unfold wS at H
 refine bD Tryz.func60 rfl Tryz.ntmps60 rfl (fun β => ?_)
 refine Z3 ?_
 refine aH ?_
 revert H; refine I7 (fun c1 H => ?_) fun c1 H => ?_
 refine Z5 ?_
 cases H
 exact To
 revert H; refine B3 fun o1 H Hr1 => ?_
 refine aW (ι := Unit) (fun i => o1 = Sum.inl ()) (fun i => []) (fun i => []) ?_ ?_
 refine Z6 ?_
 refine Tl (ι := Nat × Int) (fun i => nA a0 a1 a2 i.1 i.2 = _) (fun i => i.1) (fun i => [(1, fSl (tSl (aB .i64)) a1), (2, fFn Tryz.prog (fun (x : (List Int) × (List Int)) => [fSl (aB .i64) x.1, fSl (aB .i64) x.2]) (fun (r : Bool) => aI r) a2), (15, fSl (tSl (aB .i64)) a0), (16, aA .i64 (a0.length : Int)), (17, aA .i64 i.2)]) (fun i => []) (fuel, 0) H ?_
 clear H; rintro ⟨k1, x2⟩ H
 replace H : nA a0 a1 a2 k1 x2 = _ := H
 try dsimp only
 obtain _ | k1 := k1
 rw [nA] at H; cases H
 rw [nA] at H
 refine Z3 ?_
 refine aH ?_
 revert H; refine is (fun c2 H => ?_) fun c2 H => ?_
 refine Z3 ?_
 refine aH ?_
 revert H; refine B3 fun y1 h1 H => ?_
 revert H; refine B8 fun y2 h2 H => ?_
 revert H; refine B8 fun y3 h3 H => ?_
 refine tH (y1, y2) trivial rfl rfl rfl (has rfl) (aK.cons (has rfl) (aK.cons (has rfl) aK.nil)) h3 ?_
 refine Z2 ?_
 revert H; refine cs (fun c3 H => ?_) fun c3 H => ?_
 revert H; refine B5 fun z1 h4 H => ?_
 refine Z3 ?_
 exact Tm ((k1, z1)) ⟨H, ls⟩
 revert H; refine B10 fun r1 H e1 => ?_
 cases e1; cases Hr1
 cases H
 exact To
 refine Z6 ?_
 exact Tm (()) (ij H)
 clear H; intro i hi; subst o1; have H := Hr1; clear Hr1; try dsimp only at H
 try dsimp only
 refine Z4 ?_
 cases H
 exact To
def tL (fuel : Nat) (a0 : UsageDef) (a1 : UsageDef) : Option (Bool) :=
 ((pX fuel a0.Chans a1.Chans).bind fun y1 =>
 bif y1 then
  (pX fuel a0.Rules a1.Rules).bind fun y2 =>
  bif y2 then
   (wS fuel a0.Args a1.Args (fun x => pX fuel x.1 x.2)).bind fun y3 =>
   some y3
  else
   some false
 else
  some false).bind fun x1 =>
 some x1
theorem aIZ (fuel : Nat)  (a0 : UsageDef) (a1 : UsageDef) (r : Bool) (H : tL fuel a0 a1 = some r) : FnS Tryz.prog 58 [fSt bC a0, fSt bC a1] [] (aI r) (fun _ => []) := by
 unfold tL at H
 refine bD Tryz.func58 rfl Tryz.ntmps58 rfl (fun β => ?_)
 refine Z1 ?_
 refine Tn (cF rfl (has rfl) bQ) fun b1 => ?_
 refine Tn (cF rfl (has rfl) bQ) fun b2 => ?_
 revert H; refine B2 fun o1 H Hr1 => ?_
 refine aW (ι := Bool) (fun i => o1 = i) (fun i => [(4, aI i)]) (fun i => [aC b2 61 [fSl (aB .i64) a1.Chans, fSl (aB .i64) a1.Rules, fSl (tSl (aB .i64)) a1.Args], aC b1 61 [fSl (aB .i64) a0.Chans, fSl (aB .i64) a0.Rules, fSl (tSl (aB .i64)) a0.Args]]) ?_ ?_
 revert H; refine B5 fun y1 h1 H => ?_
 refine Tc (aB9 _ _ _ _ h1) ?_
 refine Z1 ?_
 revert H; refine cs (fun c1 H => ?_) fun c1 H => ?_
 revert H; refine B4 fun y2 h2 H => ?_
 refine Tc (aB9 _ _ _ _ h2) ?_
 refine Z2 ?_
 revert H; refine cs (fun c2 H => ?_) fun c2 H => ?_
 revert H; refine B4 fun y3 h3 H => ?_
 refine gS ⟨_, _, rfl, rfl, c2⟩ rfl rfl rfl (has rfl) (aK.cons (has rfl) (aK.cons (has rfl) (aK.cons (dA rfl (oI (cb rfl) (fun x r hx => aB9 fuel x.1 x.2 r hx))) aK.nil))) rfl (cb rfl) (aHY fuel a0.Args a1.Args (fun x => pX fuel x.1 x.2) y3 h3) rfl ?_
 refine Z3 ?_
 exact Tm (y3) (ij H)
 refine Z8 ?_
 exact Tm (false) (ij H)
 refine Z12 ?_
 refine Z3 ?_
 exact Tm (false) (ij H)
 clear H; intro x1 hi; subst o1; have H := Hr1; clear Hr1; try dsimp only at H
 try dsimp only
 refine Z1 ?_
 cases H
 refine aG [] (by decide) ?_
 exact To
def vG (fuel : Nat) (a0 : List UsageDef) (a1 : List UsageDef) : Option (Bool) :=
 (xS fuel a0 a1 (fun x => tL fuel x.1 x.2)).bind fun y1 =>
 some y1
theorem aFB (fuel : Nat)  (a0 : List UsageDef) (a1 : List UsageDef) (r : Bool) (H : vG fuel a0 a1 = some r) : FnS Tryz.prog 21 [fSl bC a0, fSl bC a1] [] (aI r) (fun _ => []) := by
 unfold vG at H
 refine bD Tryz.func21 rfl Tryz.ntmps21 rfl (fun β => ?_)
 revert H; refine B6 fun y1 h1 H => ?_
 refine gS trivial rfl rfl rfl (has rfl) (aK.cons (has rfl) (aK.cons (has rfl) (aK.cons (dA rfl (oI (cb rfl) (fun x r hx => aIZ fuel x.1 x.2 r hx))) aK.nil))) rfl (cb rfl) (aGE fuel a0 a1 (fun x => tL fuel x.1 x.2) y1 h1) rfl ?_
 refine Z3 ?_
 cases H
 exact To
end Go.Proofs.YtmnbfgeljmhekaaGreat
set_option maxRecDepth 100000
namespace Go.Proofs.YtmnbfgeljmhekaaGreat
open Go.SX Go.SW Go.Dt
theorem bsm {α γ : Type} {a : α} {f : α → Option γ} : (some a).bind f = f a := by
 cases h : f a <;> simp [h]
theorem bE {α : Type} {xs : List α} {i : Nat} {y : α} (h : xs[i]? = some y) : idx xs (i : Int) = some y := by
 unfold idx; rw [if_pos (by omega)]; simpa using h
theorem cA {α : Type} (pre suf : List α) (y : α) : idx (pre ++ y :: suf) (pre.length : Int) = some y := bE (by simp)
theorem aP {i : Int} (h : -9000000000000000000 ≤ i ∧ i ≤ 9000000000000000000) : chk i = some i := by unfold chk; rw [if_pos (by omega)]
theorem cB {α : Type} (pre suf : List α) (y : α) : (pre.length : Int) < ((pre ++ y :: suf).length : Int) := by simp; omega
theorem cE {α : Type} (pre suf : List α) (y : α) : pre ++ y :: suf = (pre ++ [y]) ++ suf := by simp
theorem bS {α : Type} (pre : List α) (y : α) : (pre.length : Int) + 1 = ((pre ++ [y]).length : Int) := by simp
theorem zX (e : ScopeExp) : (⟨e.Op, e.N, e.Kids⟩ : ScopeExp) = e := by cases e; rfl
def flaw : Value := .iface 167 (.agg ([(.int .i64 2)] : List Value).toArray)
theorem eV : bT true = some (.inl ()) := rfl
theorem cV : bT false = some (.inr flaw) := rfl
mutual
def nE : ScopeExp → Nat
 | ⟨_, _, ks⟩ => 1 + nL ks
def nL : List ScopeExp → Nat
 | [] => 0
 | k :: ks => nE k + nL ks
end
mutual
def dE : ScopeExp → Nat
 | ⟨_, _, ks⟩ => 1 + dL ks
def dL : List ScopeExp → Nat
 | [] => 0
 | k :: ks => max (dE k) (dL ks)
end
def loc (s op n : Int) (l : Nat) : Bool :=
 if op = 1 then decide (-1000000000 ≤ n ∧ n ≤ 1000000000 ∧ l = 0) else if op = 2 then decide (0 ≤ n ∧ n < s ∧ l = 0) else decide (3 ≤ op ∧ op ≤ 7 ∧ n = 0 ∧ l = 2)
mutual
def fE (s : Int) : ScopeExp → Bool
 | ⟨op, n, ks⟩ => loc s op n ks.length && fL s ks
def fL (s : Int) : List ScopeExp → Bool
 | [] => true
 | k :: ks => fE s k && fL s ks
end
theorem nE_pos (e : ScopeExp) : 1 ≤ nE e := by cases e; simp only [nE]; omega
theorem aAp : ∀ l : List ScopeExp, l.length ≤ nL l
 | [] => by simp [nL]
 | k :: ks => by have := aAp ks; have := nE_pos k; simp only [nL, List.length_cons]; omega
theorem sX : ∀ {l : List ScopeExp} {e : ScopeExp}, e ∈ l → nE e ≤ nL l
 | k :: ks, e, h => by
  simp only [nL]
  cases h with
  | head => omega
  | tail _ h => have := sX h; omega
def okE (s : Int) (e : ScopeExp) : Bool := fE s e && decide (dE e ≤ 12) && decide (nE e ≤ 60)
def exR (s d w : Int) (e : ScopeExp) : Int ⊕ Value := if fE s e = true ∧ d + dE e ≤ 13 ∧ w + nE e ≤ 60 then .inl (w + nE e) else .inr flaw
theorem aEW {rec : ScopeExp → Int → Int → Int → Option (Int ⊕ Value)} {op n d s : Int} (hd : 0 ≤ d ∧ d ≤ 12) :
  ∀ (suf pre : List ScopeExp) (k : Nat) (w : Int), suf.length < k → pre.length + suf.length ≤ 1000000000 → 0 ≤ w → w ≤ 60 → (∀ e ∈ suf, ∀ w : Int, 0 ≤ w → w ≤ 60 → rec e (d + 1) w s = some (exR s (d + 1) w e)) →
   pP rec ⟨op, n, pre ++ suf⟩ d s k pre.length w = some (if fL s suf = true ∧ d + 1 + dL suf ≤ 13 ∧ w + nL suf ≤ 60 then .inl (w + nL suf) else .inr flaw)
 | [], pre, k + 1, w, _, _, h0, h1, _ => by
  rw [pP, if_neg (by simp), if_pos ⟨rfl, by simp [dL]; omega, by simpa [nL]⟩]; simp [nL]
 | e :: suf, pre, k + 1, w, hk, hB, h0, h1, hr => by
  rw [pP, if_pos (cB _ _ _), cA]
  have hr1 := hr e (.head _) w h0 h1
  simp only [List.length_cons] at hk hB
  simp only [bsm, aP (i := d + 1) (by omega)]
  rw [zX, hr1]
  simp only [bsm, exR]
  have hn := nE_pos e
  by_cases hc : fE s e = true ∧ d + 1 + dE e ≤ 13 ∧ w + nE e ≤ 60
  ·rw [if_pos hc]
   simp only [aP (i := (pre.length : Int) + 1) (by omega), bsm]
   rw [cE, bS, aEW hd suf (pre ++ [e]) k _ (by omega) (by simp; omega) (by omega) hc.2.2 (fun x hx => hr x (.tail _ hx))]
   congr 1
   by_cases hs : fL s suf = true ∧ d + 1 + dL suf ≤ 13 ∧ w + nE e + nL suf ≤ 60
   ·rw [if_pos hs, if_pos ⟨by simp [fL, hc.1, hs.1], by simp only [dL]; omega, by simp only [nL]; omega⟩]
    simp only [nL, Int.natCast_add]; congr 1; omega
   ·rw [if_neg hs, if_neg]
    rintro ⟨g1, g2, g3⟩
    simp only [fL, Bool.and_eq_true] at g1
    simp only [dL] at g2; simp only [nL] at g3
    exact hs ⟨g1.2, by omega, by omega⟩
  ·rw [if_neg hc]
   dsimp only
   rw [if_neg]
   rintro ⟨g1, g2, g3⟩
   simp only [fL, Bool.and_eq_true] at g1
   simp only [dL] at g2; simp only [nL] at g3
   exact hc ⟨g1.1, by omega, by omega⟩
theorem aEa : ∀ (fuel : Nat) (e : ScopeExp) (d w s : Int), nE e < fuel → nE e ≤ 1000000000 → 0 ≤ d → d ≤ 1000 → 0 ≤ w → w ≤ 60 → mY fuel e d w s = some (exR s d w e)
 | fuel + 1, ⟨op, n, ks⟩, d, w, s, hf, hB, hd, hd2, hw, hw2 => by
  rw [mY]
  simp only [nE] at hf hB
  have hlen := aAp ks
  simp only [aP (i := w + 1) (by omega), bsm]
  have hdE : dE ⟨op, n, ks⟩ = 1 + dL ks := by simp only [dE]
  have hnE : nE ⟨op, n, ks⟩ = 1 + nL ks := by simp only [nE]
  have hfE : fE s ⟨op, n, ks⟩ = (loc s op n ks.length && fL s ks) := by simp only [fE]
  by_cases h1 : w + 1 ≤ 60 ∧ d ≤ 12
  ·by_cases h2 : loc s op n ks.length = true
   ·have hloop := aEW (rec := mY fuel) (op := op) (n := n) (s := s) ⟨hd, h1.2⟩ ks [] fuel (w + 1) (by omega) (by simp; omega) (by omega) h1.1
     (fun e he w h0 h60 => aEa fuel e (d + 1) w s (by have := sX he; omega) (by have := sX he; omega) (by omega) (by omega) h0 h60)
    simp only [List.nil_append, List.length_nil, Int.natCast_zero] at hloop
    have hres : (some (if fL s ks = true ∧ d + 1 + (dL ks : Int) ≤ 13 ∧ w + 1 + (nL ks : Int) ≤ 60 then Sum.inl (w + 1 + (nL ks : Int)) else Sum.inr flaw) : Option (Int ⊕ Value)) = some (exR s d w ⟨op, n, ks⟩) := by
     unfold exR; rw [hdE, hnE, hfE, h2]
     congr 1
     by_cases hc : fL s ks = true ∧ d + 1 + (dL ks : Int) ≤ 13 ∧ w + 1 + (nL ks : Int) ≤ 60
     ·rw [if_pos hc, if_pos ⟨by simp [hc.1], by omega, by omega⟩]; congr 1; omega
     ·rw [if_neg hc, if_neg]
      rintro ⟨g1, g2, g3⟩
      exact hc ⟨by simpa using g1, by omega, by omega⟩
    rw [← hres, ← hloop]
    unfold loc at h2
    rw [if_pos h1.1, decide_eq_true h1.2, eV]
    simp only [bsm]
    by_cases o1 : op = 1
    ·rw [if_pos o1] at h2 ⊢
     obtain ⟨a, b, c⟩ := of_decide_eq_true h2
     rw [if_pos a, if_pos b, decide_eq_true (by omega), eV]; rfl
    ·rw [if_neg o1] at h2 ⊢
     by_cases o2 : op = 2
     ·rw [if_pos o2] at h2 ⊢
      obtain ⟨a, b, c⟩ := of_decide_eq_true h2
      rw [if_pos a, if_pos b, decide_eq_true (by omega), eV]; rfl
     ·rw [if_neg o2] at h2 ⊢
      obtain ⟨a, b, c, e⟩ := of_decide_eq_true h2
      have : ((if op = 3 then some (decide (op = 3)) else if op = 4 then some (decide (op = 4)) else if op = 5 then some (decide (op = 5)) else if op = 6 then some (decide (op = 6)) else some (decide (op = 7))) : Option Bool) = some true := by
       split; · simp_all
       split; · simp_all
       split; · simp_all
       split; · simp_all
       rw [decide_eq_true (by omega)]
      rw [this]
      simp only [bsm, cond_true]
      rw [if_pos c, decide_eq_true (by omega), eV]; rfl
   ·have hr : exR s d w ⟨op, n, ks⟩ = .inr flaw := by
     unfold exR; rw [if_neg]; rintro ⟨g, _⟩; rw [hfE] at g; simp [h2] at g
    rw [hr, if_pos h1.1, decide_eq_true h1.2, eV]
    simp only [bsm]
    unfold loc at h2
    by_cases o1 : op = 1
    ·rw [if_pos o1] at h2 ⊢
     simp only [decide_eq_true_eq] at h2
     by_cases a : -1000000000 ≤ n
     ·rw [if_pos a]
      by_cases b : n ≤ 1000000000
      ·rw [if_pos b, decide_eq_false (by omega), cV]; rfl
      ·rw [if_neg b, cV]; rfl
     ·rw [if_neg a, cV]; rfl
    ·rw [if_neg o1] at h2 ⊢
     by_cases o2 : op = 2
     ·rw [if_pos o2] at h2 ⊢
      simp only [decide_eq_true_eq] at h2
      by_cases a : 0 ≤ n
      ·rw [if_pos a]
       by_cases b : n < s
       ·rw [if_pos b, decide_eq_false (by omega), cV]; rfl
       ·rw [if_neg b, cV]; rfl
      ·rw [if_neg a, cV]; rfl
     ·rw [if_neg o2] at h2 ⊢
      simp only [decide_eq_true_eq] at h2
      have : ((if op = 3 then some (decide (op = 3)) else if op = 4 then some (decide (op = 4)) else if op = 5 then some (decide (op = 5)) else if op = 6 then some (decide (op = 6)) else some (decide (op = 7))) : Option Bool) = some (decide (3 ≤ op ∧ op ≤ 7)) := by
       split; · simp_all
       split; · simp_all
       split; · simp_all
       split; · simp_all
       congr 1; rw [decide_eq_decide]; omega
      rw [this]
      simp only [bsm]
      by_cases o3 : 3 ≤ op ∧ op ≤ 7
      ·rw [decide_eq_true o3]
       simp only [cond_true]
       by_cases a : n = 0
       ·rw [if_pos a, decide_eq_false (by omega), cV]; rfl
       ·rw [if_neg a, cV]; rfl
      ·rw [decide_eq_false o3, cV]; rfl
  ·have hr : exR s d w ⟨op, n, ks⟩ = .inr flaw := by
    unfold exR; rw [if_neg]; rintro ⟨_, g2, g3⟩; rw [hdE] at g2; rw [hnE] at g3; omega
   rw [hr]
   by_cases h2 : w + 1 ≤ 60
   ·rw [if_pos h2, decide_eq_false (by omega), cV]; rfl
   ·rw [if_neg h2, cV]; rfl
theorem exp_eq {fuel : Nat} {e : ScopeExp} {s : Int} (hf : nE e < fuel) (hB : nE e ≤ 1000000000) : xX fuel e s = some (if okE s e = true then .inl () else .inr flaw) := by
 rw [xX, zX, aEa fuel e 1 0 s hf hB (by omega) (by omega) (by omega) (by omega)]
 simp only [bsm, exR]
 by_cases h : fE s e = true ∧ (1 : Int) + dE e ≤ 13 ∧ (0 : Int) + nE e ≤ 60
 ·have h' : okE s e = true := by
   simp only [okE, Bool.and_eq_true, decide_eq_true_eq]; exact ⟨⟨h.1, by omega⟩, by omega⟩
  rw [if_pos h, if_pos h']
 ·have h' : ¬ okE s e = true := by
   simp only [okE, Bool.and_eq_true, decide_eq_true_eq]; intro g; exact h ⟨g.1.1, by omega, by omega⟩
  rw [if_neg h, if_neg h']
theorem aIa {rec : ScopeExp → Int → Option Int} {op n most : Int} (hm : -1000000000 ≤ most ∧ most ≤ 1000000000) (suf : List ScopeExp) :
  ∀ (pre : List ScopeExp) (k : Nat) (w : Int), suf.length < k → pre.length + suf.length ≤ 1000000000 → 0 ≤ w → w + nL suf ≤ 1000000000 → (∀ e ∈ suf, ∀ m : Int, -1000000000 ≤ m → m ≤ 1000000000 → ∃ v, rec e m = some v ∧ 0 ≤ v ∧ v ≤ nE e ∧ ((nE e : Int) ≤ m → v = nE e) ∧ (m < nE e → m < v)) →
   ∃ v, pD rec ⟨op, n, pre ++ suf⟩ most k w pre.length = some v ∧ 0 ≤ v ∧ v ≤ w + nL suf ∧ (w + (nL suf : Int) ≤ most → v = w + nL suf) ∧ (most < w + nL suf → most < v) := by
 induction suf with
 | nil =>
  intro pre k w hk _ h0 _ _
  obtain _ | k := k
  ·omega
  refine ⟨w, ?_, h0, by simp only [nL]; omega, fun _ => by simp only [nL]; omega, fun h => by simp only [nL] at h; omega⟩
  rw [pD, if_neg (by simp)]
 | cons e suf ih =>
  intro pre k w hk hB h0 hW hr
  obtain _ | k := k
  ·omega
  simp only [List.length_cons] at hk hB
  simp only [nL] at hW ⊢
  rw [pD, if_pos (cB _ _ _)]
  by_cases hw : w ≤ most
  ·rw [if_pos hw]
   simp only [cA, bsm, aP (i := most - w) (by omega)]
   obtain ⟨v, h1, h2, h3, h4, h5⟩ := hr e (.head _) (most - w) (by omega) (by omega)
   simp only [h1, bsm, aP (i := w + v) (by omega), aP (i := (pre.length : Int) + 1) (by omega)]
   rw [cE, bS]
   obtain ⟨u, g1, g2, g3, g4, g5⟩ := ih (pre ++ [e]) k (w + v) (by omega) (by simp; omega) (by omega) (by omega) (fun x hx => hr x (.tail _ hx))
   refine ⟨u, g1, g2, by omega, fun h => ?_, fun h => ?_⟩
   ·have := h4 (by omega); have := g4 (by omega); omega
   ·by_cases hv : (nE e : Int) ≤ most - w
    ·have := h4 hv; exact g5 (by omega)
    ·have := h5 (by omega); exact g5 (by omega)
  ·rw [if_neg hw]
   exact ⟨w, rfl, h0, by omega, fun h => by omega, fun _ => by omega⟩
theorem nodes_eq (fuel : Nat) : ∀ (e : ScopeExp) (m : Int), nE e < fuel → nE e ≤ 1000000000 → -1000000000 ≤ m → m ≤ 1000000000 → ∃ v, oE fuel e m = some v ∧ 0 ≤ v ∧ v ≤ nE e ∧ ((nE e : Int) ≤ m → v = nE e) ∧ (m < nE e → m < v) := by
 induction fuel with
 | zero => intro e m h; omega
 | succ fuel ih =>
  intro ⟨op, n, ks⟩ m hf hB h0 h1
  simp only [nE] at hf hB ⊢
  have hlen := aAp ks
  obtain ⟨v, g1, g2, g3, g4, g5⟩ := aIa (rec := oE fuel) (op := op) (n := n) ⟨h0, h1⟩ ks [] fuel 1 (by omega) (by simp; omega) (by omega) (by omega)
   (fun e he m h0 h1 => ih e m (by have := sX he; omega) (by have := sX he; omega) h0 h1)
  simp only [List.nil_append, List.length_nil, Int.natCast_zero] at g1
  exact ⟨v, by rw [oE, g1]; rfl, g2, by omega, fun h => by have := g4 (by omega); omega, fun h => g5 (by omega)⟩
theorem aH2 {rec : ScopeExp → Option Int} {op n : Int} (suf : List ScopeExp) :
  ∀ (pre : List ScopeExp) (k : Nat) (w : Int), suf.length < k → pre.length + suf.length ≤ 1000000000 → 0 ≤ w → (∀ e ∈ suf, rec e = some (dE e : Int)) →
   pR rec ⟨op, n, pre ++ suf⟩ k w pre.length = some (max w (dL suf : Int)) := by
 induction suf with
 | nil =>
  intro pre k w hk _ h0 _
  obtain _ | k := k
  ·omega
  rw [pR, if_neg (by simp)]; simp only [dL]; congr 1; omega
 | cons e suf ih =>
  intro pre k w hk hB h0 hr
  obtain _ | k := k
  ·omega
  simp only [List.length_cons] at hk hB
  rw [pR, if_pos (cB _ _ _)]
  simp only [cA, bsm, hr e (.head _), aP (i := (pre.length : Int) + 1) (by omega)]
  rw [cE, bS, ih (pre ++ [e]) k _ (by omega) (by simp; omega) (by omega) (fun x hx => hr x (.tail _ hx))]
  simp only [dL]; congr 1; omega
theorem dE_le : (∀ e, dE e ≤ nE e) ∧ ∀ l, dL l ≤ nL l := by
 refine ⟨fun e => ?_, fun l => ?_⟩
 ·exact go e
 ·exact goL l
where
 go : ∀ e, dE e ≤ nE e
  | ⟨_, _, ks⟩ => by have := goL ks; simp only [dE, nE]; omega
 goL : ∀ l, dL l ≤ nL l
  | [] => by simp [dL]
  | k :: ks => by have := go k; have := goL ks; simp only [dL, nL]; omega
theorem depth_eq (fuel : Nat) : ∀ (e : ScopeExp), nE e < fuel → nE e ≤ 1000000000 → mP fuel e = some (dE e : Int) := by
 induction fuel with
 | zero => intro e h; omega
 | succ fuel ih =>
  intro ⟨op, n, ks⟩ hf hB
  simp only [nE] at hf hB
  have hlen := aAp ks
  have h := aH2 (rec := mP fuel) (op := op) (n := n) ks [] fuel 0 (by omega) (by simp; omega) (by omega) (fun e he => ih e (by have := sX he; omega) (by have := sX he; omega))
  simp only [List.nil_append, List.length_nil, Int.natCast_zero] at h
  have hd := dE_le.2 ks
  rw [mP, h, show max (0 : Int) (dL ks : Int) = dL ks from by omega]
  simp only [bsm, aP (i := (dL ks : Int) + 1) (by omega), dE]
  congr 1; omega
theorem aIT (fuel : Nat) : ∀ (e : ScopeExp) (s : Int), nE e < fuel → qE fuel e s = some (fE s e) := by
 induction fuel with
 | zero => intro e s h; omega
 | succ fuel ih =>
  intro ⟨op, n, ks⟩ s hf
  simp only [nE] at hf
  rw [qE]
  simp only [fE, loc]
  by_cases o1 : op = 1
  ·rw [if_pos o1, if_pos o1]
   by_cases c : (ks.length : Int) = 0
   ·have hk : ks = [] := List.eq_nil_of_length_eq_zero (by omega)
    subst hk
    rw [if_pos c]
    by_cases a : -1000000000 ≤ n
    ·rw [if_pos a]; simp [a, fL]
    ·rw [if_neg a]; simp [a, fL]
   ·rw [if_neg c]; have : ¬ ks.length = 0 := by omega
    simp [this]
  ·rw [if_neg o1, if_neg o1]
   by_cases o2 : op = 2
   ·rw [if_pos o2, if_pos o2]
    by_cases c : (ks.length : Int) = 0
    ·have hk : ks = [] := List.eq_nil_of_length_eq_zero (by omega)
     subst hk
     rw [if_pos c]
     by_cases a : 0 ≤ n
     ·rw [if_pos a]; simp [a, fL]
     ·rw [if_neg a]; simp [a, fL]
    ·rw [if_neg c]; have : ¬ ks.length = 0 := by omega
     simp [this]
   ·rw [if_neg o2, if_neg o2]
    by_cases a : op < 3
    ·rw [if_pos a]; simp; intro _; omega
    ·rw [if_neg a]
     by_cases b : 7 < op
     ·rw [if_pos b]; simp; intro _; omega
     ·rw [if_neg b]
      by_cases c : (ks.length : Int) ≠ 2
      ·rw [if_pos c]; simp; intro _ _ _; omega
      ·rw [if_neg c]
       by_cases e : n ≠ 0
       ·rw [if_pos e]; simp [e]
       ·rw [if_neg e]
        match ks, c, hf with
        | [x, y], _, hf =>
         simp only [nL] at hf
         have h1 := ih x s (by omega)
         have h2 := ih y s (by omega)
         have i0 : idx [x, y] 0 = some x := rfl
         have i1 : idx [x, y] 1 = some y := rfl
         have : decide (3 ≤ op ∧ op ≤ 7 ∧ n = 0 ∧ [x, y].length = 2) = true := decide_eq_true ⟨by omega, by omega, by omega, rfl⟩
         rw [this]
         simp only [i0, i1, h1, h2, bsm, fL, Bool.true_and, Bool.and_true]
         cases fE s x <;> simp
        | [], c, _ => simp at c
        | [_], c, _ => simp at c
        | _ :: _ :: _ :: _, c, _ => simp at c; omega
theorem aIS {fuel : Nat} {e : ScopeExp} {s : Int} (hf : nE e < fuel) (hB : nE e ≤ 1000000000) : xR fuel e s = some (okE s e) := by
 obtain ⟨v, h1, h2, h3, h4, h5⟩ := nodes_eq fuel e 60 hf hB (by omega) (by omega)
 rw [xR, zX, h1, depth_eq fuel e hf hB, aIT fuel e s hf]
 simp only [bsm, okE]
 by_cases hn : (nE e : Int) ≤ 60
 ·rw [h4 hn, if_pos hn]
  by_cases hd : (dE e : Int) ≤ 12
  ·rw [if_pos hd]; have h1 : dE e ≤ 12 := by omega
   have h2 : nE e ≤ 60 := by omega
   simp [h1, h2]
  ·rw [if_neg hd]; have : ¬ dE e ≤ 12 := by omega
   simp [this]
 ·have := h5 (by omega)
  rw [if_neg (by omega)]; have : ¬ nE e ≤ 60 := by omega
  simp [this]
end Go.Proofs.YtmnbfgeljmhekaaGreat
