/- Parts of the proof: lemmas, and the steps through the program. -/
import Derived.Test.YtmnbfgeljmhekaaGreatKg2
set_option linter.unusedVariables false
set_option linter.unusedSimpArgs false
set_option maxRecDepth 100000
set_option maxHeartbeats 2000000
namespace Go.Proofs.YtmnbfgeljmhekaaGreat
open Go.SX Go.SW Go.Dt
attribute [local irreducible] Code.wpIn wpListIn Exit.then Exit.inBlock
def tX (fuel : Nat) (y2 : Usage_text) (x2 : Int) (y6 : UsageDef) : Nat → Int → Option ((Unit) ⊕ ((Unit) ⊕ (Bool × Int)))
| 0, _ => none
| k + 1, x4 =>
 if x4 < (y6.Chans.length : Int) then
  ((idx y6.Chans x4).bind fun y7 =>
  if y7 = 2 then
   (idx y2.heads x2).bind fun y8 =>
   (qJ y2 x2 x4).bind fun y9 =>
   (lJ fuel y2 y8 y9).bind fun y10 =>
   if y10 ≠ 1 then
    (((some (false, 0)).bind fun r => some (Sum.inr r)).bind fun r => some (Sum.inr r)).bind fun r => some (Sum.inr r)
   else
    some (Sum.inl ())
  else
   some (Sum.inl ())).bind fun o => match o with
  | Sum.inr r => some r
  | Sum.inl _ =>
  (chk (x4 + 1)).bind fun z1 =>
  tX fuel y2 x2 y6 k z1
 else
  some (Sum.inl ())
def tJ (fuel : Nat) (a1 : List UsageDef) (y2 : Usage_text) : Nat → Int → Option ((Unit) ⊕ (Bool × Int))
| 0, _ => none
| k + 1, x2 =>
 if x2 < (a1.length : Int) then
  ((idx a1 x2).bind fun y6 =>
  tX fuel y2 x2 y6 fuel 0).bind fun o => match o with
  | Sum.inr r => some r
  | Sum.inl _ =>
  (chk (x2 + 1)).bind fun z2 =>
  tJ fuel a1 y2 k z2
 else
  some (Sum.inl ())
def wZ (fuel : Nat) (a0 : ScopeProg) (a1 : List UsageDef) : Option (Bool × Int) :=
 (qS fuel (⟨a0.Free, a0.Nodes, a0.Defs, a0.Main⟩ : ScopeProg)).bind fun y1 =>
 if y1 ≠ 0 then
  some (false, 2)
 else
  (oX fuel (⟨a0.Free, a0.Nodes, a0.Defs, a0.Main⟩ : ScopeProg)).bind fun y2 =>
  (zS fuel y2 a1).bind fun y3 =>
  bif y3 then
   (rG fuel y2 a1).bind fun y4 =>
   (pV fuel a1 y4 (fun x => aAe x.1 x.2.1 x.2.2)).bind fun y5 =>
   bif y5 then
    (tJ fuel a1 y2 fuel 0).bind fun o => match o with
    | Sum.inr r => some r
    | Sum.inl _ =>
    some (true, 0)
   else
    some (false, 0)
  else
   some (false, 2)
theorem aCN (fuel : Nat)  (a0 : ScopeProg) (a1 : List UsageDef) (r : Bool × Int) (H : wZ fuel a0 a1 = some r) : FnS Tryz.prog 17 [fSt dJ a0, fSl bD a1] [] (dH [aH r.1, aA .i64 r.2]) (fun _ => []) := by
 unfold wZ at H
 refine bB Tryz.func17 rfl Tryz.ntmps17 rfl (fun β => ?_)
 refine Z1 ?_
 refine Tn (cD rfl (has rfl) bJ) fun b1 => ?_
 refine Z3 ?_
 refine aG ?_
 revert H; refine B2 fun y1 h1 H => ?_
 refine Tc (aCe _ _ _ h1) ?_
 revert H; refine I2 (fun c1 H => ?_) fun c1 H => ?_
 refine Z6 ?_
 cases H
 refine aJ [] (by decide) ?_
 exact gK rfl (bM rfl) (bM rfl) rfl
 revert H; refine B5 fun y2 h2 H => ?_
 refine Tc (aBE _ _ _ h2) ?_
 refine Z2 ?_
 refine aG ?_
 revert H; refine B3 fun y3 h3 H => ?_
 refine Tc (aD4 _ _ _ _ h3) ?_
 refine Z2 ?_
 revert H; refine cs (fun c2 H => ?_) fun c2 H => ?_
 refine Z3 ?_
 refine aG ?_
 revert H; refine B4 fun y4 h4 H => ?_
 refine gI trivial rfl rfl rfl (has rfl) (aK.cons (has rfl) (aK.cons (has rfl) aK.nil)) rfl (cb rfl) (aG5 fuel y2 a1 y4 h4) rfl ?_
 revert H; refine bs fun y5 h5 H => ?_
 refine gI trivial rfl rfl rfl (has rfl) (aK.cons (has rfl) (aK.cons (has rfl) (aK.cons (cW rfl (mV (cb rfl) (fun x r hx => aHa x.1 x.2.1 x.2.2 r hx))) aK.nil))) rfl (cb rfl) (aCJ fuel a1 y4 (fun x => aAe x.1 x.2.1 x.2.2) y5 h5) rfl ?_
 refine Z2 ?_
 revert H; refine cs (fun c3 H => ?_) fun c3 H => ?_
 revert H; refine B3 fun o1 H Hr1 => ?_
 refine aW (ι := Unit) (fun i => o1 = Sum.inl ()) (fun i => []) (fun i => [aC b1 26 [fSl aN a0.Free, fSl aL a0.Nodes, fSl aI a0.Defs, aA .i64 a0.Main]]) ?_ ?_
 refine Z6 ?_
 refine Tl (ι := Nat × Int) (fun i => tJ fuel a1 y2 i.1 i.2 = _) (fun i => i.1) (fun i => [(1, fSl bD a1), (6, aF bG y2), (26, aA .i64 (a1.length : Int)), (27, aA .i64 i.2)]) (fun i => [aC b1 26 [fSl aN a0.Free, fSl aL a0.Nodes, fSl aI a0.Defs, aA .i64 a0.Main]]) (fuel, 0) H ?_
 clear H; rintro ⟨k1, x2⟩ H
 replace H : tJ fuel a1 y2 k1 x2 = _ := H
 try dsimp only
 obtain _ | k1 := k1
 rw [tJ] at H; cases H
 rw [tJ] at H
 refine Z3 ?_
 refine aG ?_
 revert H; refine is (fun c4 H => ?_) fun c4 H => ?_
 revert H; refine B3 fun o2 H Hr2 => ?_
 refine aW (ι := Unit) (fun i => o2 = Sum.inl ()) (fun i => [(1, fSl bD a1), (6, aF bG y2), (26, aA .i64 (a1.length : Int)), (27, aA .i64 x2)]) (fun i => [aC b1 26 [fSl aN a0.Free, fSl aL a0.Nodes, fSl aI a0.Defs, aA .i64 a0.Main]]) ?_ ?_
 revert H; refine B8 fun y6 h6 H => ?_
 refine Z7 ?_
 refine Tl (ι := Nat × Int) (fun i => tX fuel y2 x2 y6 i.1 i.2 = _) (fun i => i.1) (fun i => [(1, fSl bD a1), (6, aF bG y2), (26, aA .i64 (a1.length : Int)), (27, aA .i64 x2), (7, aA .i64 x2), (34, fSl (aB .i64) y6.Chans), (35, aA .i64 (y6.Chans.length : Int)), (36, aA .i64 i.2)]) (fun i => [aC b1 26 [fSl aN a0.Free, fSl aL a0.Nodes, fSl aI a0.Defs, aA .i64 a0.Main]]) (fuel, 0) H ?_
 clear H; rintro ⟨k2, x4⟩ H
 replace H : tX fuel y2 x2 y6 k2 x4 = _ := H
 try dsimp only
 obtain _ | k2 := k2
 rw [tX] at H; cases H
 rw [tX] at H
 refine Z3 ?_
 refine aG ?_
 revert H; refine is (fun c5 H => ?_) fun c5 H => ?_
 revert H; refine B3 fun o3 H Hr3 => ?_
 refine aW (ι := Unit) (fun i => o3 = Sum.inl ()) (fun i => [(1, fSl bD a1), (6, aF bG y2), (26, aA .i64 (a1.length : Int)), (27, aA .i64 x2), (7, aA .i64 x2), (34, fSl (aB .i64) y6.Chans), (35, aA .i64 (y6.Chans.length : Int)), (36, aA .i64 x4)]) (fun i => [aC b1 26 [fSl aN a0.Free, fSl aL a0.Nodes, fSl aI a0.Defs, aA .i64 a0.Main]]) ?_ ?_
 revert H; refine B3 fun y7 h7 H => ?_
 refine Z5 ?_
 refine aG ?_
 revert H; refine is (fun c6 H => ?_) fun c6 H => ?_
 revert H; refine bs fun y8 h8 H => ?_
 revert H; refine bs fun y9 h9 H => ?_
 revert H; refine bs fun y10 h10 H => ?_
 apply bE (ods := [_, _, _, _, _, _, _, _, _, _, _, _, _, _, _, _, _, _]) 18 0 1 bF rfl rfl rfl
 refine ND ?_
 refine M8 ?_
 intros
 refine M6 ?_
 intros
 refine Nc (zL _ _ _ _ h9) fun _ => ?_
 refine Nc (aEB _ _ _ _ _ h10) fun _ => ?_
 refine M2 ?_
 intros
 revert H; refine I2 (fun c7 H => ?_) fun c7 H => ?_
 revert H; refine B8 fun r1 H e1 => ?_
 cases e1; cases Hr3
 revert H; refine B4 fun r2 H e2 => ?_
 cases e2; cases Hr2
 revert H; refine B3 fun r3 H e3 => ?_
 cases e3; cases Hr1
 cases H
 refine aJ [] (by decide) ?_
 exact gK rfl (bM rfl) (bM rfl) rfl
 refine Z4 ?_
 exact Tm (()) (ij H)
 exact fk
 kernel_rfl
 apply bE (ods := [_, _, _, _, _, _, _, _, _, _, _, _, _, _, _, _, _, _]) 18 0 1 bF rfl rfl rfl
 refine ND ?_
 refine M8 ?_
 intros
 refine M8 ?_
 intros
 refine M2 ?_
 intros
 refine Z6 ?_
 exact Tm (()) (ij H)
 exact fk
 kernel_rfl
 clear H; intro i hi; subst o3; have H := Hr3; clear Hr3; try dsimp only at H
 try dsimp only
 revert H; refine B1 fun z1 h11 H => ?_
 refine Z3 ?_
 exact Tm ((k2, z1)) ⟨H, ls⟩
 refine Z7 ?_
 exact Tm (()) (ij H)
 clear H; intro i hi; subst o2; have H := Hr2; clear Hr2; try dsimp only at H
 try dsimp only
 revert H; refine B1 fun z2 h12 H => ?_
 refine Z3 ?_
 exact Tm ((k1, z2)) ⟨H, ls⟩
 refine Z6 ?_
 exact Tm (()) (ij H)
 clear H; intro i hi; subst o1; have H := Hr1; clear Hr1; try dsimp only at H
 try dsimp only
 refine Z5 ?_
 cases H
 refine aJ [] (by decide) ?_
 exact gK rfl (bM rfl) (bM rfl) rfl
 refine Z6 ?_
 cases H
 refine aJ [] (by decide) ?_
 exact gK rfl (bM rfl) (bM rfl) rfl
 refine Z6 ?_
 cases H
 refine aJ [] (by decide) ?_
 exact gK rfl (bM rfl) (bM rfl) rfl
def yN (a0 : Int) : Option (List ScopeExp) :=
 some [(⟨1, a0, []⟩ : ScopeExp)]
theorem aET  (a0 : Int) (r : List ScopeExp) (H : yN a0 = some r) : FnS Tryz.prog 61 [aA .i64 a0] [] (fSl bA r) (fun _ => []) := by
 unfold yN at H
 refine bB Tryz.func61 rfl Tryz.ntmps61 rfl (fun β => ?_)
 refine Z5 ?_
 refine Yy (dO (ψs := [aA .i64 1, aA .i64 a0, fEq (.slice none 0 0)]) rfl aCu rfl (aU.cons (has rfl) (aT (aD trivial)) (aU.cons (has rfl) (aT (aD trivial)) aU.nil)) rfl) ?_
 refine Tn (cJ (t := bA) (xs := [(⟨1, a0, []⟩ : ScopeExp)]) rfl (et rfl) (aP.cons rfl (cW rfl (fZ (aM.cons Ent.rfl (aM.cons Ent.rfl (aM.cons (aA3 dU) aM.nil))))) bJ aP.nil) rfl rfl rfl) fun b1 => ?_
 generalize (Value.slice (some ⟨b1, 0, none⟩) _ _) = v1
 refine aS 0 rfl (fun hc_v1 => ?_)
 refine Z3 ?_
 refine cO (φ := fSl bA [(⟨1, a0, []⟩ : ScopeExp)]) (v := v1) [2, 5] cG fz ?_
 refine cP ?_
 cases H
 exact To
def sN (a0 : List Int) : Nat → (List ScopeExp) → Int → Option (List ScopeExp)
| 0, _, _ => none
| k + 1, x4, x5 =>
 if x5 < (a0.length : Int) then
  (idx a0 x5).bind fun y1 =>
  (dD (x4 ++ [(⟨2, y1, []⟩ : ScopeExp)])).bind fun z1 =>
  (chk (x5 + 1)).bind fun z2 =>
  sN a0 k z1 z2
 else
  some x4
def uR (fuel : Nat) (a0 : List Int) : Option (List ScopeExp) :=
 (sN a0 fuel [] 0).bind fun x1 =>
 some x1
theorem aAl (fuel : Nat)  (a0 : List Int) (r : List ScopeExp) (H : uR fuel a0 = some r) : FnS Tryz.prog 62 [fSl (aB .i64) a0] [] (fSl bA r) (fun _ => []) := by
 unfold uR at H
 refine bB Tryz.func62 rfl Tryz.ntmps62 rfl (fun β => ?_)
 revert H; refine B6 fun o1 H Hr1 => ?_
 refine aW (ι := List ScopeExp × Value) (fun i => o1 = i.1) (fun i => [(3, fEq i.2)]) (fun i => [aE i.2 56 bA i.1]) ?_ ?_
 refine Z4 ?_
 refine qC bA 56 ?_
 refine Tl (ι := Nat × List ScopeExp × Int × Value) (fun i => sN a0 i.1 i.2.1 i.2.2.1 = _) (fun i => i.1) (fun i => [(0, fSl (aB .i64) a0), (3, fEq i.2.2.2), (4, aA .i64 i.2.2.1)]) (fun i => [aE i.2.2.2 56 bA i.2.1]) (fuel, [], 0, (.slice none 0 0)) H ?_
 clear H; rintro ⟨k1, x4, x5, v3⟩ H
 replace H : sN a0 k1 x4 x5 = _ := H
 try dsimp only
 obtain _ | k1 := k1
 rw [sN] at H; cases H
 rw [sN] at H
 refine aS 0 rfl (fun hc_v3 => ?_)
 refine aG ?_
 revert H; refine I6 (fun c1 H => ?_) fun c1 H => ?_
 refine Z3 ?_
 refine aG ?_
 revert H; refine B5 fun y1 h1 H => ?_
 refine Z2 ?_
 refine Yy (dO (ψs := [aA .i64 2, aA .i64 y1, fEq (.slice none 0 0)]) rfl aCu rfl (aU.cons (has rfl) (aT (aD trivial)) (aU.cons (has rfl) (aT (aD trivial)) aU.nil)) rfl) ?_
 refine Tn (cJ (t := bA) (xs := [(⟨2, y1, []⟩ : ScopeExp)]) rfl (et rfl) (aP.cons rfl (cW rfl (fZ (aM.cons Ent.rfl (aM.cons Ent.rfl (aM.cons (aA3 dU) aM.nil))))) bJ aP.nil) rfl rfl rfl) fun b1 => ?_
 generalize (Value.slice (some ⟨b1, 0, none⟩) _ _) = v4
 refine aS 0 rfl (fun hc_v4 => ?_)
 revert H; refine bs fun z1 h2 H => ?_
 refine aA1 trivial rfl rfl rfl (has rfl) (has rfl) (et rfl) rfl h2 (fun v5 => ?_)
 refine aS 0 rfl (fun hc_v5 => ?_)
 revert H; refine B6 fun z2 h3 H => ?_
 refine Z3 ?_
 exact Tm ((k1, z1, z2, v5)) ⟨H, ls⟩
 refine Z6 ?_
 exact Tm ((x4, v3)) (ij H)
 clear H; intro i hi; obtain ⟨x1, v1⟩ := i; subst o1; have H := Hr1; clear Hr1; try dsimp only at H
 try dsimp only
 refine aS 0 rfl (fun hc_v1 => ?_)
 refine Z5 ?_
 refine cO (φ := fSl bA x1) (v := v1) [3, 19, 2] cG fz ?_
 refine cP ?_
 cases H
 exact To
def aCI (fuel : Nat)  : Option (ScopeProg) :=
 (yN 1).bind fun y1 =>
 (yN 2).bind fun y2 =>
 (uR fuel [5]).bind fun y3 =>
 (uR fuel [0]).bind fun y4 =>
 (uR fuel [1]).bind fun y5 =>
 (uR fuel [0]).bind fun y6 =>
 some (⟨[{ data := #[111, 117, 116] }], [(⟨4, 0, [], [5]⟩ : ScopeNode), (⟨3, 0, [], [2, 3]⟩ : ScopeNode), (⟨2, 4, y1, []⟩ : ScopeNode), (⟨2, 4, y2, []⟩ : ScopeNode), (⟨2, 4, y3, []⟩ : ScopeNode), (⟨3, 0, [], [6, 7]⟩ : ScopeNode), (⟨2, 2, y4, []⟩ : ScopeNode), (⟨3, 0, [], [8, 9]⟩ : ScopeNode), (⟨2, 3, y5, []⟩ : ScopeNode), (⟨4, 1, [], [11]⟩ : ScopeNode), (⟨2, 1, y6, []⟩ : ScopeNode), (⟨2, 4, [], []⟩ : ScopeNode)], [(⟨[(⟨0, 1⟩ : ScopeChan), (⟨0, 1⟩ : ScopeChan), (⟨0, 1⟩ : ScopeChan)], [], [(⟨0, [0], 1⟩ : ScopeRule), (⟨0, [1, 2], 4⟩ : ScopeRule)]⟩ : ScopeDef), (⟨[(⟨0, 0⟩ : ScopeChan)], [], [(⟨0, [0], 10⟩ : ScopeRule)]⟩ : ScopeDef)], 0⟩ : ScopeProg)
theorem aHL (fuel : Nat)   (r : ScopeProg) (H : aCI fuel = some r) : FnS Tryz.prog 23 [] [] (fSt dJ r) (fun _ => []) := by
 unfold aCI at H
 refine bB Tryz.func23 rfl Tryz.ntmps23 rfl (fun β => ?_)
 refine Z1 ?_
 refine Tn (cL rfl aAr rfl) fun b1 => ?_
 refine Z2 ?_
 refine Yy (dO (ψs := [aA .i64 0, aA .i64 1]) rfl yP rfl (aU.cons (has rfl) (aT (aD trivial)) aU.nil) rfl) ?_
 refine Yy (dO (ψs := [aA .i64 0, aA .i64 1]) rfl yP rfl (aU.cons (has rfl) (aT (aD trivial)) aU.nil) rfl) ?_
 refine Yy (dO (ψs := [aA .i64 0, aA .i64 1]) rfl yP rfl (aU.cons (has rfl) (aT (aD trivial)) aU.nil) rfl) ?_
 refine Tn (cJ (t := bC) (xs := [(⟨0, 1⟩ : ScopeChan), (⟨0, 1⟩ : ScopeChan), (⟨0, 1⟩ : ScopeChan)]) rfl (et rfl) (aP.cons rfl (has rfl) bJ (aP.cons rfl (has rfl) bJ (aP.cons rfl (has rfl) bJ aP.nil))) rfl rfl rfl) fun b2 => ?_
 generalize (Value.slice (some ⟨b2, 0, none⟩) _ _) = v1
 refine aS 0 rfl (fun hc_v1 => ?_)
 refine Tn (cJ (t := (aB .i64)) (xs := [0]) rfl (et rfl) (aP.cons rfl (has rfl) (aT (aD trivial)) aP.nil) rfl rfl rfl) fun b3 => ?_
 generalize (Value.slice (some ⟨b3, 0, none⟩) _ _) = v2
 refine aS 0 rfl (fun hc_v2 => ?_)
 refine Yy (dO (ψs := [aA .i64 0, fEq v2, aA .i64 1]) rfl aB1 rfl (aU.cons (has rfl) (aT (aD hc_v2)) (aU.cons (has rfl) (aT (aD trivial)) aU.nil)) rfl) ?_
 refine Tn (cJ (t := (aB .i64)) (xs := [1, 2]) rfl (et rfl) (aP.cons rfl (has rfl) (aT (aD trivial)) (aP.cons rfl (has rfl) (aT (aD trivial)) aP.nil)) rfl rfl rfl) fun b4 => ?_
 generalize (Value.slice (some ⟨b4, 0, none⟩) _ _) = v3
 refine aS 0 rfl (fun hc_v3 => ?_)
 refine Yy (dO (ψs := [aA .i64 0, fEq v3, aA .i64 4]) rfl aB1 rfl (aU.cons (has rfl) (aT (aD hc_v3)) (aU.cons (has rfl) (aT (aD trivial)) aU.nil)) rfl) ?_
 refine cU ?_
 refine cO (φ := fSl (aB .i64) [0]) (v := v2) [7] cG fz ?_
 refine kL 8 (ψ := eD [aA .i64 0, fEq v2, aA .i64 1]) rfl (kC (i := 1) (φs := [aA .i64 0, fEq v2, aA .i64 1]) (φs' := [aA .i64 0, fSl (aB .i64) [0], aA .i64 1]) rfl rfl) ?_
 refine cP ?_
 refine cO (φ := fSl (aB .i64) [1, 2]) (v := v3) [9] cG fz ?_
 refine kL 10 (ψ := eD [aA .i64 0, fEq v3, aA .i64 4]) rfl (kC (i := 1) (φs := [aA .i64 0, fEq v3, aA .i64 4]) (φs' := [aA .i64 0, fSl (aB .i64) [1, 2], aA .i64 4]) rfl rfl) ?_
 refine cP ?_
 refine Tn (cJ (t := bH) (xs := [(⟨0, [0], 1⟩ : ScopeRule), (⟨0, [1, 2], 4⟩ : ScopeRule)]) rfl (et rfl) (aP.cons rfl (has rfl) bJ (aP.cons rfl (has rfl) bJ aP.nil)) rfl rfl rfl) fun b5 => ?_
 generalize (Value.slice (some ⟨b5, 0, none⟩) _ _) = v4
 refine aS 0 rfl (fun hc_v4 => ?_)
 refine Yy (dO (ψs := [fEq v1, fEq (.slice none 0 0), fEq v4]) rfl aC5 rfl (aU.cons (has rfl) (aT (aD hc_v1)) (aU.cons (has rfl) (aT (aD hc_v4)) aU.nil)) rfl) ?_
 refine Tn (cL rfl tS rfl) fun b6 => ?_
 refine dG (φs' := [fEq v1, fEq (.slice none 0 0), fEq v4]) trivial rfl rfl (has rfl) (has rfl) (aO (aD hc_v1) (aO (aD trivial) (aO (aD hc_v4) bX))) (sz rfl) rfl rfl rfl ?_
 refine Z2 ?_
 refine Yy (dO (ψs := [aA .i64 0, aA .i64 0]) rfl yP rfl aU.nil rfl) ?_
 refine Tn (cJ (t := bC) (xs := [(⟨0, 0⟩ : ScopeChan)]) rfl (et rfl) (aP.cons rfl (has rfl) bJ aP.nil) rfl rfl rfl) fun b7 => ?_
 generalize (Value.slice (some ⟨b7, 0, none⟩) _ _) = v5
 refine aS 0 rfl (fun hc_v5 => ?_)
 refine Tn (cJ (t := (aB .i64)) (xs := [0]) rfl (et rfl) (aP.cons rfl (has rfl) (aT (aD trivial)) aP.nil) rfl rfl rfl) fun b8 => ?_
 generalize (Value.slice (some ⟨b8, 0, none⟩) _ _) = v6
 refine aS 0 rfl (fun hc_v6 => ?_)
 refine Yy (dO (ψs := [aA .i64 0, fEq v6, aA .i64 10]) rfl aB1 rfl (aU.cons (has rfl) (aT (aD hc_v6)) (aU.cons (has rfl) (aT (aD trivial)) aU.nil)) rfl) ?_
 refine cO (φ := fSl (aB .i64) [0]) (v := v6) [15] cG fz ?_
 refine kL 16 (ψ := eD [aA .i64 0, fEq v6, aA .i64 10]) rfl (kC (i := 1) (φs := [aA .i64 0, fEq v6, aA .i64 10]) (φs' := [aA .i64 0, fSl (aB .i64) [0], aA .i64 10]) rfl rfl) ?_
 refine cP ?_
 refine Tn (cJ (t := bH) (xs := [(⟨0, [0], 10⟩ : ScopeRule)]) rfl (et rfl) (aP.cons rfl (has rfl) bJ aP.nil) rfl rfl rfl) fun b9 => ?_
 generalize (Value.slice (some ⟨b9, 0, none⟩) _ _) = v7
 refine aS 0 rfl (fun hc_v7 => ?_)
 refine Yy (dO (ψs := [fEq v5, fEq (.slice none 0 0), fEq v7]) rfl aC5 rfl (aU.cons (has rfl) (aT (aD hc_v5)) (aU.cons (has rfl) (aT (aD hc_v7)) aU.nil)) rfl) ?_
 refine Tn (cL rfl tS rfl) fun b10 => ?_
 refine dG (φs' := [fEq v5, fEq (.slice none 0 0), fEq v7]) trivial rfl rfl (has rfl) (has rfl) (aO (aD hc_v5) (aO (aD trivial) (aO (aD hc_v7) bX))) (sz rfl) rfl rfl rfl ?_
 refine Z1 ?_
 refine aG ?_
 refine nM ?_
 refine cO (φ := fSl bC [(⟨0, 1⟩ : ScopeChan), (⟨0, 1⟩ : ScopeChan), (⟨0, 1⟩ : ScopeChan)]) (v := v1) [6] cG fz ?_
 refine bI ?_
 refine cU ?_
 refine gJ (φs' := [fSl bC [(⟨0, 1⟩ : ScopeChan), (⟨0, 1⟩ : ScopeChan), (⟨0, 1⟩ : ScopeChan)], fEq (.slice none 0 0), fEq v4]) (i := 0) rfl rfl ?_
 refine kL 12 (ψ := eD [fEq v1, fEq (.slice none 0 0), fEq v4]) rfl (kC (i := 0) (φs := [fEq v1, fEq (.slice none 0 0), fEq v4]) (φs' := [fSl bC [(⟨0, 1⟩ : ScopeChan), (⟨0, 1⟩ : ScopeChan), (⟨0, 1⟩ : ScopeChan)], fEq (.slice none 0 0), fEq v4]) rfl rfl) ?_
 refine cP ?_
 refine bI ?_
 refine cO (φ := fSl bH [(⟨0, [0], 1⟩ : ScopeRule), (⟨0, [1, 2], 4⟩ : ScopeRule)]) (v := v4) [11] cG fz ?_
 refine gJ (φs' := [fSl bC [(⟨0, 1⟩ : ScopeChan), (⟨0, 1⟩ : ScopeChan), (⟨0, 1⟩ : ScopeChan)], fEq (.slice none 0 0), fSl bH [(⟨0, [0], 1⟩ : ScopeRule), (⟨0, [1, 2], 4⟩ : ScopeRule)]]) (i := 2) rfl rfl ?_
 refine kL 12 (ψ := eD [fSl bC [(⟨0, 1⟩ : ScopeChan), (⟨0, 1⟩ : ScopeChan), (⟨0, 1⟩ : ScopeChan)], fEq (.slice none 0 0), fEq v4]) rfl (kC (i := 2) (φs := [fSl bC [(⟨0, 1⟩ : ScopeChan), (⟨0, 1⟩ : ScopeChan), (⟨0, 1⟩ : ScopeChan)], fEq (.slice none 0 0), fEq v4]) (φs' := [fSl bC [(⟨0, 1⟩ : ScopeChan), (⟨0, 1⟩ : ScopeChan), (⟨0, 1⟩ : ScopeChan)], fEq (.slice none 0 0), fSl bH [(⟨0, [0], 1⟩ : ScopeRule), (⟨0, [1, 2], 4⟩ : ScopeRule)]]) rfl rfl) ?_
 refine cP ?_
 refine dZ ?_
 refine cO (φ := fSl bC [(⟨0, 0⟩ : ScopeChan)]) (v := v5) [14] cG fz ?_
 refine eB ?_
 refine cU ?_
 refine gJ (φs' := [fSl bC [(⟨0, 0⟩ : ScopeChan)], fEq (.slice none 0 0), fEq v7]) (i := 0) rfl rfl ?_
 refine kL 18 (ψ := eD [fEq v5, fEq (.slice none 0 0), fEq v7]) rfl (kC (i := 0) (φs := [fEq v5, fEq (.slice none 0 0), fEq v7]) (φs' := [fSl bC [(⟨0, 0⟩ : ScopeChan)], fEq (.slice none 0 0), fEq v7]) rfl rfl) ?_
 refine cP ?_
 refine eB ?_
 refine cO (φ := fSl bH [(⟨0, [0], 10⟩ : ScopeRule)]) (v := v7) [17] cG fz ?_
 refine gJ (φs' := [fSl bC [(⟨0, 0⟩ : ScopeChan)], fEq (.slice none 0 0), fSl bH [(⟨0, [0], 10⟩ : ScopeRule)]]) (i := 2) rfl rfl ?_
 refine kL 18 (ψ := eD [fSl bC [(⟨0, 0⟩ : ScopeChan)], fEq (.slice none 0 0), fEq v7]) rfl (kC (i := 2) (φs := [fSl bC [(⟨0, 0⟩ : ScopeChan)], fEq (.slice none 0 0), fEq v7]) (φs' := [fSl bC [(⟨0, 0⟩ : ScopeChan)], fEq (.slice none 0 0), fSl bH [(⟨0, [0], 10⟩ : ScopeRule)]]) rfl rfl) ?_
 refine cP ?_
 revert H; refine bs fun y1 h1 H => ?_
 revert H; refine bs fun y2 h2 H => ?_
 revert H; refine bs fun y3 h3 H => ?_
 revert H; refine bs fun y4 h4 H => ?_
 revert H; refine bs fun y5 h5 H => ?_
 revert H; refine bs fun y6 h6 H => ?_
 apply bE (ods := [_, _, _, _, _, _, _, _, _, _, _, _, _, _, _, _, _, _, _, _, _, _, _, _, _, _, _, _, _, _, _, _, _, _]) 34 0 3 bF rfl rfl rfl
 refine ND ?_
 refine Mf (φ := fSl aN [{ data := #[111, 117, 116] }]) (cJ (t := aN) (xs := [{ data := #[111, 117, 116] }]) rfl (et rfl) (aP.cons rfl (has rfl) (aT (aD trivial)) aP.nil) rfl rfl rfl) (fun b => cG) fun _ => ?_
 refine M2 ?_
 intros
 refine Mf (φ := fSl aI [(⟨[(⟨0, 1⟩ : ScopeChan), (⟨0, 1⟩ : ScopeChan), (⟨0, 1⟩ : ScopeChan)], [], [(⟨0, [0], 1⟩ : ScopeRule), (⟨0, [1, 2], 4⟩ : ScopeRule)]⟩ : ScopeDef), (⟨[(⟨0, 0⟩ : ScopeChan)], [], [(⟨0, [0], 10⟩ : ScopeRule)]⟩ : ScopeDef)]) (cJ (t := aI) (xs := [(⟨[(⟨0, 1⟩ : ScopeChan), (⟨0, 1⟩ : ScopeChan), (⟨0, 1⟩ : ScopeChan)], [], [(⟨0, [0], 1⟩ : ScopeRule), (⟨0, [1, 2], 4⟩ : ScopeRule)]⟩ : ScopeDef), (⟨[(⟨0, 0⟩ : ScopeChan)], [], [(⟨0, [0], 10⟩ : ScopeRule)]⟩ : ScopeDef)]) rfl (et rfl) (aP.cons rfl (cW rfl (fZ (aM.cons Ent.rfl (aM.cons dU (aM.cons Ent.rfl aM.nil))))) bJ (aP.cons rfl (cW rfl (fZ (aM.cons Ent.rfl (aM.cons dU (aM.cons Ent.rfl aM.nil))))) bJ aP.nil)) rfl rfl rfl) (fun b => cG) fun _ => ?_
 refine Mf (φ := fSl (aB .i64) [5]) (cJ (t := (aB .i64)) (xs := [5]) rfl (et rfl) (aP.cons rfl (has rfl) (aT (aD trivial)) aP.nil) rfl rfl rfl) (fun b => cG) fun _ => ?_
 refine My (dO (ψs := [aA .i64 4, aA .i64 0, fEq (.slice none 0 0), fSl (aB .i64) [5]]) rfl iU rfl (aU.cons (has rfl) (aT (aD trivial)) (aU.cons (has rfl) (aT (aZ)) aU.nil)) rfl) fun _ => ?_
 refine Mf (φ := fSl (aB .i64) [2, 3]) (cJ (t := (aB .i64)) (xs := [2, 3]) rfl (et rfl) (aP.cons rfl (has rfl) (aT (aD trivial)) (aP.cons rfl (has rfl) (aT (aD trivial)) aP.nil)) rfl rfl rfl) (fun b => cG) fun _ => ?_
 refine My (dO (ψs := [aA .i64 3, aA .i64 0, fEq (.slice none 0 0), fSl (aB .i64) [2, 3]]) rfl iU rfl (aU.cons (has rfl) (aT (aD trivial)) (aU.cons (has rfl) (aT (aZ)) aU.nil)) rfl) fun _ => ?_
 refine Nc (aET _ _ h1) fun _ => ?_
 refine My (dO (ψs := [aA .i64 2, aA .i64 4, fSl bA y1, fEq (.slice none 0 0)]) rfl iU rfl (aU.cons (has rfl) (aT (aD trivial)) (aU.cons (has rfl) (aT (aD trivial)) (aU.cons (has rfl) (aT (aZ)) aU.nil))) rfl) fun _ => ?_
 refine Nc (aET _ _ h2) fun _ => ?_
 refine My (dO (ψs := [aA .i64 2, aA .i64 4, fSl bA y2, fEq (.slice none 0 0)]) rfl iU rfl (aU.cons (has rfl) (aT (aD trivial)) (aU.cons (has rfl) (aT (aD trivial)) (aU.cons (has rfl) (aT (aZ)) aU.nil))) rfl) fun _ => ?_
 refine Mf (φ := fSl (aB .i64) [5]) (cJ (t := (aB .i64)) (xs := [5]) rfl (et rfl) (aP.cons rfl (has rfl) (aT (aD trivial)) aP.nil) rfl rfl rfl) (fun b => cG) fun _ => ?_
 refine Nc (aAl _ _ _ h3) fun _ => ?_
 refine My (dO (ψs := [aA .i64 2, aA .i64 4, fSl bA y3, fEq (.slice none 0 0)]) rfl iU rfl (aU.cons (has rfl) (aT (aD trivial)) (aU.cons (has rfl) (aT (aD trivial)) (aU.cons (has rfl) (aT (aZ)) aU.nil))) rfl) fun _ => ?_
 refine Mf (φ := fSl (aB .i64) [6, 7]) (cJ (t := (aB .i64)) (xs := [6, 7]) rfl (et rfl) (aP.cons rfl (has rfl) (aT (aD trivial)) (aP.cons rfl (has rfl) (aT (aD trivial)) aP.nil)) rfl rfl rfl) (fun b => cG) fun _ => ?_
 refine My (dO (ψs := [aA .i64 3, aA .i64 0, fEq (.slice none 0 0), fSl (aB .i64) [6, 7]]) rfl iU rfl (aU.cons (has rfl) (aT (aD trivial)) (aU.cons (has rfl) (aT (aZ)) aU.nil)) rfl) fun _ => ?_
 refine Mf (φ := fSl (aB .i64) [0]) (cJ (t := (aB .i64)) (xs := [0]) rfl (et rfl) (aP.cons rfl (has rfl) (aT (aD trivial)) aP.nil) rfl rfl rfl) (fun b => cG) fun _ => ?_
 refine Nc (aAl _ _ _ h4) fun _ => ?_
 refine My (dO (ψs := [aA .i64 2, aA .i64 2, fSl bA y4, fEq (.slice none 0 0)]) rfl iU rfl (aU.cons (has rfl) (aT (aD trivial)) (aU.cons (has rfl) (aT (aD trivial)) (aU.cons (has rfl) (aT (aZ)) aU.nil))) rfl) fun _ => ?_
 refine Mf (φ := fSl (aB .i64) [8, 9]) (cJ (t := (aB .i64)) (xs := [8, 9]) rfl (et rfl) (aP.cons rfl (has rfl) (aT (aD trivial)) (aP.cons rfl (has rfl) (aT (aD trivial)) aP.nil)) rfl rfl rfl) (fun b => cG) fun _ => ?_
 refine My (dO (ψs := [aA .i64 3, aA .i64 0, fEq (.slice none 0 0), fSl (aB .i64) [8, 9]]) rfl iU rfl (aU.cons (has rfl) (aT (aD trivial)) (aU.cons (has rfl) (aT (aZ)) aU.nil)) rfl) fun _ => ?_
 refine Mf (φ := fSl (aB .i64) [1]) (cJ (t := (aB .i64)) (xs := [1]) rfl (et rfl) (aP.cons rfl (has rfl) (aT (aD trivial)) aP.nil) rfl rfl rfl) (fun b => cG) fun _ => ?_
 refine Nc (aAl _ _ _ h5) fun _ => ?_
 refine My (dO (ψs := [aA .i64 2, aA .i64 3, fSl bA y5, fEq (.slice none 0 0)]) rfl iU rfl (aU.cons (has rfl) (aT (aD trivial)) (aU.cons (has rfl) (aT (aD trivial)) (aU.cons (has rfl) (aT (aZ)) aU.nil))) rfl) fun _ => ?_
 refine Mf (φ := fSl (aB .i64) [11]) (cJ (t := (aB .i64)) (xs := [11]) rfl (et rfl) (aP.cons rfl (has rfl) (aT (aD trivial)) aP.nil) rfl rfl rfl) (fun b => cG) fun _ => ?_
 refine My (dO (ψs := [aA .i64 4, aA .i64 1, fEq (.slice none 0 0), fSl (aB .i64) [11]]) rfl iU rfl (aU.cons (has rfl) (aT (aD trivial)) (aU.cons (has rfl) (aT (aD trivial)) (aU.cons (has rfl) (aT (aZ)) aU.nil))) rfl) fun _ => ?_
 refine Mf (φ := fSl (aB .i64) [0]) (cJ (t := (aB .i64)) (xs := [0]) rfl (et rfl) (aP.cons rfl (has rfl) (aT (aD trivial)) aP.nil) rfl rfl rfl) (fun b => cG) fun _ => ?_
 refine Nc (aAl _ _ _ h6) fun _ => ?_
 refine My (dO (ψs := [aA .i64 2, aA .i64 1, fSl bA y6, fEq (.slice none 0 0)]) rfl iU rfl (aU.cons (has rfl) (aT (aD trivial)) (aU.cons (has rfl) (aT (aD trivial)) (aU.cons (has rfl) (aT (aZ)) aU.nil))) rfl) fun _ => ?_
 refine My (dO (ψs := [aA .i64 2, aA .i64 4, fEq (.slice none 0 0), fEq (.slice none 0 0)]) rfl iU rfl (aU.cons (has rfl) (aT (aD trivial)) (aU.cons (has rfl) (aT (aD trivial)) aU.nil)) rfl) fun _ => ?_
 refine Mf (φ := fSl aL [(⟨4, 0, [], [5]⟩ : ScopeNode), (⟨3, 0, [], [2, 3]⟩ : ScopeNode), (⟨2, 4, y1, []⟩ : ScopeNode), (⟨2, 4, y2, []⟩ : ScopeNode), (⟨2, 4, y3, []⟩ : ScopeNode), (⟨3, 0, [], [6, 7]⟩ : ScopeNode), (⟨2, 2, y4, []⟩ : ScopeNode), (⟨3, 0, [], [8, 9]⟩ : ScopeNode), (⟨2, 3, y5, []⟩ : ScopeNode), (⟨4, 1, [], [11]⟩ : ScopeNode), (⟨2, 1, y6, []⟩ : ScopeNode), (⟨2, 4, [], []⟩ : ScopeNode)]) (cJ (t := aL) (xs := [(⟨4, 0, [], [5]⟩ : ScopeNode), (⟨3, 0, [], [2, 3]⟩ : ScopeNode), (⟨2, 4, y1, []⟩ : ScopeNode), (⟨2, 4, y2, []⟩ : ScopeNode), (⟨2, 4, y3, []⟩ : ScopeNode), (⟨3, 0, [], [6, 7]⟩ : ScopeNode), (⟨2, 2, y4, []⟩ : ScopeNode), (⟨3, 0, [], [8, 9]⟩ : ScopeNode), (⟨2, 3, y5, []⟩ : ScopeNode), (⟨4, 1, [], [11]⟩ : ScopeNode), (⟨2, 1, y6, []⟩ : ScopeNode), (⟨2, 4, [], []⟩ : ScopeNode)]) rfl (et rfl) (aP.cons rfl (cW rfl (fZ (aM.cons Ent.rfl (aM.cons Ent.rfl (aM.cons dU (aM.cons Ent.rfl aM.nil)))))) bJ (aP.cons rfl (cW rfl (fZ (aM.cons Ent.rfl (aM.cons Ent.rfl (aM.cons dU (aM.cons Ent.rfl aM.nil)))))) bJ (aP.cons rfl (cW rfl (fZ (aM.cons Ent.rfl (aM.cons Ent.rfl (aM.cons Ent.rfl (aM.cons dU aM.nil)))))) bJ (aP.cons rfl (cW rfl (fZ (aM.cons Ent.rfl (aM.cons Ent.rfl (aM.cons Ent.rfl (aM.cons dU aM.nil)))))) bJ (aP.cons rfl (cW rfl (fZ (aM.cons Ent.rfl (aM.cons Ent.rfl (aM.cons Ent.rfl (aM.cons dU aM.nil)))))) bJ (aP.cons rfl (cW rfl (fZ (aM.cons Ent.rfl (aM.cons Ent.rfl (aM.cons dU (aM.cons Ent.rfl aM.nil)))))) bJ (aP.cons rfl (cW rfl (fZ (aM.cons Ent.rfl (aM.cons Ent.rfl (aM.cons Ent.rfl (aM.cons dU aM.nil)))))) bJ (aP.cons rfl (cW rfl (fZ (aM.cons Ent.rfl (aM.cons Ent.rfl (aM.cons dU (aM.cons Ent.rfl aM.nil)))))) bJ (aP.cons rfl (cW rfl (fZ (aM.cons Ent.rfl (aM.cons Ent.rfl (aM.cons Ent.rfl (aM.cons dU aM.nil)))))) bJ (aP.cons rfl (cW rfl (fZ (aM.cons Ent.rfl (aM.cons Ent.rfl (aM.cons dU (aM.cons Ent.rfl aM.nil)))))) bJ (aP.cons rfl (cW rfl (fZ (aM.cons Ent.rfl (aM.cons Ent.rfl (aM.cons Ent.rfl (aM.cons dU aM.nil)))))) bJ (aP.cons rfl (cW rfl (fZ (aM.cons Ent.rfl (aM.cons Ent.rfl (aM.cons dU (aM.cons dU aM.nil)))))) bJ aP.nil)))))))))))) rfl rfl rfl) (fun b => cG) fun _ => ?_
 refine My (dO (ψs := [fSl aN [{ data := #[111, 117, 116] }], fSl aL [(⟨4, 0, [], [5]⟩ : ScopeNode), (⟨3, 0, [], [2, 3]⟩ : ScopeNode), (⟨2, 4, y1, []⟩ : ScopeNode), (⟨2, 4, y2, []⟩ : ScopeNode), (⟨2, 4, y3, []⟩ : ScopeNode), (⟨3, 0, [], [6, 7]⟩ : ScopeNode), (⟨2, 2, y4, []⟩ : ScopeNode), (⟨3, 0, [], [8, 9]⟩ : ScopeNode), (⟨2, 3, y5, []⟩ : ScopeNode), (⟨4, 1, [], [11]⟩ : ScopeNode), (⟨2, 1, y6, []⟩ : ScopeNode), (⟨2, 4, [], []⟩ : ScopeNode)], fSl aI [(⟨[(⟨0, 1⟩ : ScopeChan), (⟨0, 1⟩ : ScopeChan), (⟨0, 1⟩ : ScopeChan)], [], [(⟨0, [0], 1⟩ : ScopeRule), (⟨0, [1, 2], 4⟩ : ScopeRule)]⟩ : ScopeDef), (⟨[(⟨0, 0⟩ : ScopeChan)], [], [(⟨0, [0], 10⟩ : ScopeRule)]⟩ : ScopeDef)], aA .i64 0]) rfl ty_bu_26 rfl (aU.cons (has rfl) (aT (aZ)) (aU.cons (has rfl) (aT (aZ)) (aU.cons (has rfl) (aT (aZ)) aU.nil))) rfl) fun _ => ?_
 refine vV (od := odC [2] true (fAny) [aC b1 26 [fSl aN [{ data := #[111, 117, 116] }], fSl aL [(⟨4, 0, [], [5]⟩ : ScopeNode), (⟨3, 0, [], [2, 3]⟩ : ScopeNode), (⟨2, 4, y1, []⟩ : ScopeNode), (⟨2, 4, y2, []⟩ : ScopeNode), (⟨2, 4, y3, []⟩ : ScopeNode), (⟨3, 0, [], [6, 7]⟩ : ScopeNode), (⟨2, 2, y4, []⟩ : ScopeNode), (⟨3, 0, [], [8, 9]⟩ : ScopeNode), (⟨2, 3, y5, []⟩ : ScopeNode), (⟨4, 1, [], [11]⟩ : ScopeNode), (⟨2, 1, y6, []⟩ : ScopeNode), (⟨2, 4, [], []⟩ : ScopeNode)], fSl aI [(⟨[(⟨0, 1⟩ : ScopeChan), (⟨0, 1⟩ : ScopeChan), (⟨0, 1⟩ : ScopeChan)], [], [(⟨0, [0], 1⟩ : ScopeRule), (⟨0, [1, 2], 4⟩ : ScopeRule)]⟩ : ScopeDef), (⟨[(⟨0, 0⟩ : ScopeChan)], [], [(⟨0, [0], 10⟩ : ScopeRule)]⟩ : ScopeDef)], aA .i64 0]]) (p := 2) (φs' := [fSl aN [{ data := #[111, 117, 116] }], fSl aL [(⟨4, 0, [], [5]⟩ : ScopeNode), (⟨3, 0, [], [2, 3]⟩ : ScopeNode), (⟨2, 4, y1, []⟩ : ScopeNode), (⟨2, 4, y2, []⟩ : ScopeNode), (⟨2, 4, y3, []⟩ : ScopeNode), (⟨3, 0, [], [6, 7]⟩ : ScopeNode), (⟨2, 2, y4, []⟩ : ScopeNode), (⟨3, 0, [], [8, 9]⟩ : ScopeNode), (⟨2, 3, y5, []⟩ : ScopeNode), (⟨4, 1, [], [11]⟩ : ScopeNode), (⟨2, 1, y6, []⟩ : ScopeNode), (⟨2, 4, [], []⟩ : ScopeNode)], fSl aI [(⟨[(⟨0, 1⟩ : ScopeChan), (⟨0, 1⟩ : ScopeChan), (⟨0, 1⟩ : ScopeChan)], [], [(⟨0, [0], 1⟩ : ScopeRule), (⟨0, [1, 2], 4⟩ : ScopeRule)]⟩ : ScopeDef), (⟨[(⟨0, 0⟩ : ScopeChan)], [], [(⟨0, [0], 10⟩ : ScopeRule)]⟩ : ScopeDef)], aA .i64 0]) rfl (fun _ => rfl) (fun _ => rfl) trivial rfl rfl rfl (has rfl) (has rfl) (aO (aZ) (aO (aZ) (aO (aZ) (aO (aD trivial) bX)))) (sz rfl) rfl rfl rfl (fun _ => ?_)
 refine Z3 ?_
 cases H
 refine aJ [2] (by decide) ?_
 exact T_outCS rfl (ag rfl) rfl (bM rfl) Ent.rfl rfl
 exact fk
 kernel_rfl
def qW  : Option (List UsageDef) :=
 some ([(⟨[4, 2, 2], [4, 3], ([[4], [3], [4]] : List (List Int))⟩ : UsageDef), (⟨[2], [3], ([([] : List Int)] : List (List Int))⟩ : UsageDef)] : List UsageDef)
theorem aBs   (r : List UsageDef) (H : qW = some r) : FnS Tryz.prog 24 [] [] fAny (fun v => [(fun v => bR v 61 dM r) v]) := by
 unfold qW at H
 refine bB Tryz.func24 rfl Tryz.ntmps24 rfl (fun β => ?_)
 refine Z12 ?_
 refine Z4 ?_
 refine Tn (cJ (t := (aB .i64)) (xs := [4, 2, 2]) rfl (et rfl) (aP.cons rfl (has rfl) (aT (aD trivial)) (aP.cons rfl (has rfl) (aT (aD trivial)) (aP.cons rfl (has rfl) (aT (aD trivial)) aP.nil))) rfl rfl rfl) fun b1 => ?_
 generalize (Value.slice (some ⟨b1, 0, none⟩) _ _) = v1
 refine aS 0 rfl (fun hc_v1 => ?_)
 refine Z2 ?_
 refine Tn (cJ (t := (aB .i64)) (xs := [4, 3]) rfl (et rfl) (aP.cons rfl (has rfl) (aT (aD trivial)) (aP.cons rfl (has rfl) (aT (aD trivial)) aP.nil)) rfl rfl rfl) fun b2 => ?_
 generalize (Value.slice (some ⟨b2, 0, none⟩) _ _) = v2
 refine aS 0 rfl (fun hc_v2 => ?_)
 refine Z1 ?_
 refine Tn (cJ (t := (aB .i64)) (xs := [4]) rfl (et rfl) (aP.cons rfl (has rfl) (aT (aD trivial)) aP.nil) rfl rfl rfl) fun b3 => ?_
 generalize (Value.slice (some ⟨b3, 0, none⟩) _ _) = v3
 refine aS 0 rfl (fun hc_v3 => ?_)
 refine Z1 ?_
 refine Tn (cJ (t := (aB .i64)) (xs := [3]) rfl (et rfl) (aP.cons rfl (has rfl) (aT (aD trivial)) aP.nil) rfl rfl rfl) fun b4 => ?_
 generalize (Value.slice (some ⟨b4, 0, none⟩) _ _) = v4
 refine aS 0 rfl (fun hc_v4 => ?_)
 refine Z1 ?_
 refine Tn (cJ (t := (aB .i64)) (xs := [4]) rfl (et rfl) (aP.cons rfl (has rfl) (aT (aD trivial)) aP.nil) rfl rfl rfl) fun b5 => ?_
 generalize (Value.slice (some ⟨b5, 0, none⟩) _ _) = v5
 refine aS 0 rfl (fun hc_v5 => ?_)
 refine Tn (cJ (t := tF 1) (xs := [[⟨fEq v3, aD hc_v3⟩], [⟨fEq v4, aD hc_v4⟩], [⟨fEq v5, aD hc_v5⟩]]) rfl (et rfl) (aP.cons rfl (has rfl) (aT (aD hc_v3)) (aP.cons rfl (has rfl) (aT (aD hc_v4)) (aP.cons rfl (has rfl) (aT (aD hc_v5)) aP.nil))) rfl rfl rfl) fun b6 => ?_
 generalize (Value.slice (some ⟨b6, 0, none⟩) _ _) = v6
 refine sE ?_
 refine dZ ?_
 refine gP (p := 0) (f := (fun v => aE v 30 (aB .i64) [4])) (hf := (fun _ => dS)) rfl Ent.rfl ?_
 refine eB ?_
 refine gP (p := 1) (f := (fun v => aE v 30 (aB .i64) [3])) (hf := (fun _ => dS)) rfl Ent.rfl ?_
 refine cU ?_
 refine gP (p := 2) (f := (fun v => aE v 30 (aB .i64) [4])) (hf := (fun _ => dS)) rfl Ent.rfl ?_
 refine rT (o := (cN 30 (aB .i64))) (xs := ([[4], [3], [4]] : List (List Int))) rfl rfl rfl ?_
 refine eG 0 rfl (fun hc_v6 => ?_)
 refine Yy (dO (ψs := [fEq v1, fEq v2, fEq v6]) rfl aAT rfl (aU.cons (has rfl) (aT (aD hc_v1)) (aU.cons (has rfl) (aT (aD hc_v2)) (aU.cons (has rfl) (aT (aD hc_v6)) aU.nil))) rfl) ?_
 refine Z1 ?_
 refine Tn (cJ (t := (aB .i64)) (xs := [2]) rfl (et rfl) (aP.cons rfl (has rfl) (aT (aD trivial)) aP.nil) rfl rfl rfl) fun b7 => ?_
 generalize (Value.slice (some ⟨b7, 0, none⟩) _ _) = v7
 refine aS 0 rfl (fun hc_v7 => ?_)
 refine Z1 ?_
 refine Tn (cJ (t := (aB .i64)) (xs := [3]) rfl (et rfl) (aP.cons rfl (has rfl) (aT (aD trivial)) aP.nil) rfl rfl rfl) fun b8 => ?_
 generalize (Value.slice (some ⟨b8, 0, none⟩) _ _) = v8
 refine aS 0 rfl (fun hc_v8 => ?_)
 refine Tn (cJ (t := (aB .i64)) (xs := ([] : List Int)) rfl (et rfl) aP.nil rfl rfl rfl) fun b9 => ?_
 generalize (Value.slice (some ⟨b9, 0, none⟩) _ _) = v9
 refine aS 0 rfl (fun hc_v9 => ?_)
 refine Tn (cJ (t := tF 1) (xs := [[⟨fEq v9, aD hc_v9⟩]]) rfl (et rfl) (aP.cons rfl (has rfl) (aT (aD hc_v9)) aP.nil) rfl rfl rfl) fun b10 => ?_
 generalize (Value.slice (some ⟨b10, 0, none⟩) _ _) = v10
 refine sE ?_
 refine cU ?_
 refine gP (p := 0) (f := (fun v => aE v 30 (aB .i64) ([] : List Int))) (hf := (fun _ => dS)) rfl Ent.rfl ?_
 refine rT (o := (cN 30 (aB .i64))) (xs := ([([] : List Int)] : List (List Int))) rfl rfl rfl ?_
 refine eG 0 rfl (fun hc_v10 => ?_)
 refine Yy (dO (ψs := [fEq v7, fEq v8, fEq v10]) rfl aAT rfl (aU.cons (has rfl) (aT (aD hc_v7)) (aU.cons (has rfl) (aT (aD hc_v8)) (aU.cons (has rfl) (aT (aD hc_v10)) aU.nil))) rfl) ?_
 refine Tn (cJ (t := tF 3) (xs := [[⟨fEq v1, aD hc_v1⟩, ⟨fEq v2, aD hc_v2⟩, ⟨fEq v6, aD hc_v6⟩], [⟨fEq v7, aD hc_v7⟩, ⟨fEq v8, aD hc_v8⟩, ⟨fEq v10, aD hc_v10⟩]]) rfl (et rfl) (aP.cons rfl (has rfl) bJ (aP.cons rfl (has rfl) bJ aP.nil)) rfl rfl rfl) fun b11 => ?_
 generalize (Value.slice (some ⟨b11, 0, none⟩) _ _) = v11
 refine sE ?_
 refine mX ?_
 refine gP (p := 0) (f := (fun v => aE v 30 (aB .i64) [4, 2, 2])) (hf := (fun _ => dS)) rfl Ent.rfl ?_
 refine nM ?_
 refine gP (p := 1) (f := (fun v => aE v 30 (aB .i64) [4, 3])) (hf := (fun _ => dS)) rfl Ent.rfl ?_
 refine bI ?_
 refine gP (p := 2) (f := (fun v => bR v 58 (cN 30 (aB .i64)) ([[4], [3], [4]] : List (List Int)))) (hf := (fun _ => lG)) rfl Ent.rfl ?_
 refine dZ ?_
 refine gP (p := 3) (f := (fun v => aE v 30 (aB .i64) [2])) (hf := (fun _ => dS)) rfl Ent.rfl ?_
 refine eB ?_
 refine gP (p := 4) (f := (fun v => aE v 30 (aB .i64) [3])) (hf := (fun _ => dS)) rfl Ent.rfl ?_
 refine cU ?_
 refine gP (p := 5) (f := (fun v => bR v 58 (cN 30 (aB .i64)) ([([] : List Int)] : List (List Int)))) (hf := (fun _ => lG)) rfl Ent.rfl ?_
 refine rT (o := dM) (xs := ([(⟨[4, 2, 2], [4, 3], ([[4], [3], [4]] : List (List Int))⟩ : UsageDef), (⟨[2], [3], ([([] : List Int)] : List (List Int))⟩ : UsageDef)] : List UsageDef)) rfl rfl rfl ?_
 refine eG 0 rfl (fun hc_v11 => ?_)
 refine Z3 ?_
 cases H
 exact pH rfl (bM rfl) (fun _ _ _ => trivial) rfl
theorem aFk   (r : List UsageDef) (H : qW = some r) : FnS Tryz.prog 24 [] [] (fSl bD r) (fun _ => []) := (aBs r H).frz (fun v => (mM rfl oH))
def oQ (fuel : Nat)  : Option (Bool) :=
 (aCI fuel).bind fun y1 =>
 (pZ fuel (⟨y1.Free, y1.Nodes, y1.Defs, y1.Main⟩ : ScopeProg)).bind fun y2 =>
 (qW).bind fun y3 =>
 (wZ fuel (⟨y1.Free, y1.Nodes, y1.Defs, y1.Main⟩ : ScopeProg) y3).bind fun y4 =>
 (qW).bind fun y5 =>
 (aBH fuel (⟨y1.Free, y1.Nodes, y1.Defs, y1.Main⟩ : ScopeProg) y5 7 1).bind fun y6 =>
 (aBx fuel (⟨y1.Free, y1.Nodes, y1.Defs, y1.Main⟩ : ScopeProg) 5 3).bind fun y7 =>
 if y2.2 ≠ 0 then
  some false
 else
  if y4.2 ≠ 0 then
   some false
  else
   if y6.2 ≠ 0 then
    some false
   else
    if y7.2 ≠ 0 then
     some false
    else
     bif !y4.1 then
      some false
     else
      (qW).bind fun y8 =>
      (sP fuel y2.1 y8).bind fun y9 =>
      bif !y9 then
       some false
      else
       if y6.1 ≠ 4 then
        some false
       else
        if y7.1 ≠ 1 then
         some false
        else
         (qW).bind fun y10 =>
         (idx y10 0).bind fun y11 =>
         (idx y11.Args 2).bind fun y12 =>
         (idx y12 0).bind fun y13 =>
         (wZ fuel (⟨y1.Free, y1.Nodes, y1.Defs, y1.Main⟩ : ScopeProg) (y10.set ((0 : Int).toNat) ({ y11 with Args := y11.Args.set ((2 : Int).toNat) (y12.set ((0 : Int).toNat) 3) }))).bind fun y14 =>
         (idx (y10.set ((0 : Int).toNat) ({ y11 with Args := y11.Args.set ((2 : Int).toNat) (y12.set ((0 : Int).toNat) 3) })) 0).bind fun y15 =>
         (idx y15.Args 2).bind fun y16 =>
         (idx y16 0).bind fun y17 =>
         (wZ fuel (⟨y1.Free, y1.Nodes, y1.Defs, y1.Main⟩ : ScopeProg) ((y10.set ((0 : Int).toNat) ({ y11 with Args := y11.Args.set ((2 : Int).toNat) (y12.set ((0 : Int).toNat) 3) })).set ((0 : Int).toNat) ({ y15 with Args := y15.Args.set ((2 : Int).toNat) (y16.set ((0 : Int).toNat) 2) }))).bind fun y18 =>
         (if y14.2 = 0 then
          bif !y14.1 then
           some (decide (y18.2 = 2))
          else
           some false
         else
          some false).bind fun x1 =>
         some x1
theorem xE (fuel : Nat)   (r : Bool) (H : oQ fuel = some r) : FnS Tryz.prog 9 [] [] (aH r) (fun _ => []) := by
 unfold oQ at H
 refine bB Tryz.func9 rfl Tryz.ntmps9 rfl (fun β => ?_)
 revert H; refine B4 fun y1 h1 H => ?_
 refine Tc (aHL _ _ h1) ?_
 refine Tn (cL rfl aAr rfl) fun b1 => ?_
 refine dG (φs' := [fSl aN y1.Free, fSl aL y1.Nodes, fSl aI y1.Defs, aA .i64 y1.Main]) trivial rfl rfl (has rfl) (has rfl) (aO (aZ) (aO (aZ) (aO (aZ) (aO (aD trivial) bX)))) (sz rfl) rfl rfl rfl ?_
 revert H; refine B3 fun y2 h2 H => ?_
 refine gI trivial rfl rfl rfl (has rfl) (aK.cons (has rfl) aK.nil) rfl (cb rfl) (aBl fuel (⟨y1.Free, y1.Nodes, y1.Defs, y1.Main⟩ : ScopeProg) y2 h2) rfl ?_
 refine Z6 ?_
 refine aG ?_
 revert H; refine bs fun y3 h3 H => ?_
 revert H; refine bs fun y4 h4 H => ?_
 apply bE (ods := [_, _, _, _, _, _, _, _]) 8 0 1 bF rfl rfl rfl
 refine ND ?_
 refine M1 ?_
 intros
 refine aB8 (od := odC [] true (fSl bD y3) []) (Φ := fSl bD y3) rfl (fun _ => rfl) trivial rfl rfl (has rfl) aK.nil rfl (cb rfl) (aFk y3 h3) (fun _ => ?_)
 refine Nc (aCN _ _ _ _ h4) fun _ => ?_
 refine M5 ?_
 intros
 refine Z2 ?_
 refine aG ?_
 revert H; refine bs fun y5 h5 H => ?_
 revert H; refine bs fun y6 h6 H => ?_
 apply bE (ods := [_, _, _, _, _, _, _, _]) 8 0 1 bF rfl rfl rfl
 refine ND ?_
 refine M1 ?_
 intros
 refine aB8 (od := odC [] true (fSl bD y5) []) (Φ := fSl bD y5) rfl (fun _ => rfl) trivial rfl rfl (has rfl) aK.nil rfl (cb rfl) (aFk y5 h5) (fun _ => ?_)
 refine Nc (aG8 _ _ _ _ _ _ h6) fun _ => ?_
 refine M5 ?_
 intros
 revert H; refine B4 fun y7 h7 H => ?_
 refine Tc (aF2 _ _ _ _ _ h7) ?_
 refine Z6 ?_
 refine aG ?_
 revert H; refine I4 (fun c1 H => ?_) fun c1 H => ?_
 refine Z12 ?_
 refine Z12 ?_
 refine Z11 ?_
 cases H
 refine aJ [] (by decide) ?_
 exact To
 revert H; refine I4 (fun c2 H => ?_) fun c2 H => ?_
 refine Z12 ?_
 refine Z12 ?_
 refine Z7 ?_
 cases H
 refine aJ [] (by decide) ?_
 exact To
 revert H; refine I4 (fun c3 H => ?_) fun c3 H => ?_
 refine Z12 ?_
 refine Z12 ?_
 refine Z3 ?_
 cases H
 refine aJ [] (by decide) ?_
 exact To
 revert H; refine I4 (fun c4 H => ?_) fun c4 H => ?_
 refine Z12 ?_
 refine Z11 ?_
 cases H
 refine aJ [] (by decide) ?_
 exact To
 refine Z4 ?_
 revert H; refine cs (fun c5 H => ?_) fun c5 H => ?_
 refine Z12 ?_
 refine Z7 ?_
 cases H
 refine aJ [] (by decide) ?_
 exact To
 revert H; refine B1 fun y8 h8 H => ?_
 refine rK ⟨_, _, rfl, rfl, c5⟩ rfl rfl rfl (has rfl) aK.nil rfl (cb rfl) (aBs y8 h8) (Δi := []) rfl (fun v1 => ?_)
 dsimp only [List.append, List.cons_append, List.nil_append]
 refine eG 0 rfl (fun hc_v1 => ?_)
 revert H; refine bs fun y9 h9 H => ?_
 refine xB (Δl := [bR v1 61 dM y8]) (Δi := []) (Δo := []) [(v1, fSl bD y8)] ⟨_, _, rfl, rfl, c5⟩ rfl rfl rfl (has rfl) (eE.cons rfl (qP Ent.rfl) (eE.cons rfl (pX 0 rfl) eE.nil)) (cb rfl) (aIy fuel y2.1 y8 y9 h9) sR (fun _ h => nomatch h) (fV.cons (mM rfl oH) fV.nil) rfl ?_
 dsimp only [List.append, List.cons_append, List.nil_append]
 refine Z3 ?_
 revert H; refine cs (fun c6 H => ?_) fun c6 H => ?_
 refine Z12 ?_
 refine Z1 ?_
 cases H
 refine aJ [] (by decide) ?_
 exact To
 revert H; refine I4 (fun c7 H => ?_) fun c7 H => ?_
 refine Z9 ?_
 cases H
 refine aJ [] (by decide) ?_
 exact To
 revert H; refine I4 (fun c8 H => ?_) fun c8 H => ?_
 refine Z5 ?_
 cases H
 refine aJ [] (by decide) ?_
 exact To
 revert H; refine B4 fun y10 h10 H => ?_
 refine rK trivial rfl rfl rfl (has rfl) aK.nil rfl (cb rfl) (aBs y10 h10) (Δi := []) rfl (fun v2 => ?_)
 dsimp only [List.append, List.cons_append, List.nil_append]
 refine eG 0 rfl (fun hc_v2 => ?_)
 revert H; refine B4 fun y11 h11 H => ?_
 refine Yo 0 rfl (lM rfl hh hh (el rfl) h11) ?_
 refine Yy (nB 2 rfl hh (fa rfl) rfl) ?_
 refine rR (i := ((0 : Int).toNat)) (k := 2) (y := y11) (f := (fun v => bR v 58 (cN 30 (aB .i64)) y11.Args)) (bN h11) rfl (fun v3 => ?_)
 refine eG 0 rfl (fun hc_v3 => ?_)
 refine Yo 1 rfl (nQ rfl rfl hh (sc rfl) (bN h11) rfl) ?_
 revert H; refine bs fun y12 h12 H => ?_
 refine Yo 0 rfl (lM rfl hh hh (el rfl) h12) ?_
 refine rR (i := ((2 : Int).toNat)) (k := 0) (y := y12) (f := (fun v => aE v 30 (aB .i64) y12)) (bN h12) rfl (fun v4 => ?_)
 refine aS 0 rfl (fun hc_v4 => ?_)
 refine Yo 1 rfl (nQ rfl rfl hh (sc rfl) (bN h12) rfl) ?_
 revert H; refine bs fun y13 h13 H => ?_
 refine Z1 ?_
 refine tR (z' := 3) trivial rfl rfl rfl (has rfl) (has rfl) (aD trivial) (sz rfl) (bN h13) rfl rfl ?_
 refine Z4 ?_
 refine pU (o := (cN 30 (aB .i64))) (i := ((2 : Int).toNat)) (k := 0) (y := y12) (y' := y12.set ((0 : Int).toNat) 3) (f := (fun v => aE v 30 (aB .i64) (y12.set ((0 : Int).toNat) 3))) (hf := (fun _ => dS)) (bN h12) rfl rfl ?_
 refine pU (o := dM) (i := ((0 : Int).toNat)) (k := 2) (y := y11) (y' := { y11 with Args := y11.Args.set ((2 : Int).toNat) (y12.set ((0 : Int).toNat) 3) }) (f := (fun v => bR v 58 (cN 30 (aB .i64)) (y11.Args.set ((2 : Int).toNat) (y12.set ((0 : Int).toNat) 3)))) (hf := (fun _ => lG)) (bN h11) rfl rfl ?_
 revert H; refine bs fun y14 h14 H => ?_
 refine xB (Δl := [bR v2 61 dM (y10.set ((0 : Int).toNat) ({ y11 with Args := y11.Args.set ((2 : Int).toNat) (y12.set ((0 : Int).toNat) 3) }))]) (Δi := []) (Δo := []) [(v2, fSl bD (y10.set ((0 : Int).toNat) ({ y11 with Args := y11.Args.set ((2 : Int).toNat) (y12.set ((0 : Int).toNat) 3) })))] trivial rfl rfl rfl (has rfl) (eE.cons rfl (qP Ent.rfl) (eE.cons rfl (pX 0 rfl) eE.nil)) (cb rfl) (aCN fuel (⟨y1.Free, y1.Nodes, y1.Defs, y1.Main⟩ : ScopeProg) (y10.set ((0 : Int).toNat) ({ y11 with Args := y11.Args.set ((2 : Int).toNat) (y12.set ((0 : Int).toNat) 3) })) y14 h14) (aEx (by intro φ h; simp only [List.mem_cons, List.not_mem_nil, or_false] at h; rcases h with rfl | rfl <;> exact sR)) (fun _ h => nomatch h) (fV.cons (mM rfl oH) fV.nil) rfl ?_
 dsimp only [List.append, List.cons_append, List.nil_append]
 revert H; refine B8 fun y15 h15 H => ?_
 refine Yo 0 rfl (lM rfl hh hh (el rfl) h15) ?_
 refine Yy (nB 2 rfl hh (fa rfl) rfl) ?_
 refine rR (i := ((0 : Int).toNat)) (k := 2) (y := y15) (f := (fun v => bR v 58 (cN 30 (aB .i64)) y15.Args)) (bN h15) rfl (fun v5 => ?_)
 refine eG 0 rfl (fun hc_v5 => ?_)
 refine Yo 1 rfl (nQ rfl rfl hh (sc rfl) (bN h15) rfl) ?_
 revert H; refine bs fun y16 h16 H => ?_
 refine Yo 0 rfl (lM rfl hh hh (el rfl) h16) ?_
 refine rR (i := ((2 : Int).toNat)) (k := 0) (y := y16) (f := (fun v => aE v 30 (aB .i64) y16)) (bN h16) rfl (fun v6 => ?_)
 refine aS 0 rfl (fun hc_v6 => ?_)
 refine Yo 1 rfl (nQ rfl rfl hh (sc rfl) (bN h16) rfl) ?_
 revert H; refine bs fun y17 h17 H => ?_
 refine Z1 ?_
 refine tR (z' := 2) trivial rfl rfl rfl (has rfl) (has rfl) (aD trivial) (sz rfl) (bN h17) rfl rfl ?_
 refine Z4 ?_
 refine pU (o := (cN 30 (aB .i64))) (i := ((2 : Int).toNat)) (k := 0) (y := y16) (y' := y16.set ((0 : Int).toNat) 2) (f := (fun v => aE v 30 (aB .i64) (y16.set ((0 : Int).toNat) 2))) (hf := (fun _ => dS)) (bN h16) rfl rfl ?_
 refine pU (o := dM) (i := ((0 : Int).toNat)) (k := 2) (y := y15) (y' := { y15 with Args := y15.Args.set ((2 : Int).toNat) (y16.set ((0 : Int).toNat) 2) }) (f := (fun v => bR v 58 (cN 30 (aB .i64)) (y15.Args.set ((2 : Int).toNat) (y16.set ((0 : Int).toNat) 2)))) (hf := (fun _ => lG)) (bN h15) rfl rfl ?_
 revert H; refine bs fun y18 h18 H => ?_
 refine xB (Δl := [bR v2 61 dM ((y10.set ((0 : Int).toNat) ({ y11 with Args := y11.Args.set ((2 : Int).toNat) (y12.set ((0 : Int).toNat) 3) })).set ((0 : Int).toNat) ({ y15 with Args := y15.Args.set ((2 : Int).toNat) (y16.set ((0 : Int).toNat) 2) }))]) (Δi := []) (Δo := []) [(v2, fSl bD ((y10.set ((0 : Int).toNat) ({ y11 with Args := y11.Args.set ((2 : Int).toNat) (y12.set ((0 : Int).toNat) 3) })).set ((0 : Int).toNat) ({ y15 with Args := y15.Args.set ((2 : Int).toNat) (y16.set ((0 : Int).toNat) 2) })))] trivial rfl rfl rfl (has rfl) (eE.cons rfl (qP Ent.rfl) (eE.cons rfl (pX 0 rfl) eE.nil)) (cb rfl) (aCN fuel (⟨y1.Free, y1.Nodes, y1.Defs, y1.Main⟩ : ScopeProg) ((y10.set ((0 : Int).toNat) ({ y11 with Args := y11.Args.set ((2 : Int).toNat) (y12.set ((0 : Int).toNat) 3) })).set ((0 : Int).toNat) ({ y15 with Args := y15.Args.set ((2 : Int).toNat) (y16.set ((0 : Int).toNat) 2) })) y18 h18) (aEx (by intro φ h; simp only [List.mem_cons, List.not_mem_nil, or_false] at h; rcases h with rfl | rfl <;> exact sR)) (fun _ h => nomatch h) (fV.cons (mM rfl oH) fV.nil) rfl ?_
 dsimp only [List.append, List.cons_append, List.nil_append]
 revert H; refine B5 fun o1 H Hr1 => ?_
 refine aW (ι := Bool) (fun i => o1 = i) (fun i => [(0, aH i)]) (fun i => [aC b1 26 [fSl aN y1.Free, fSl aL y1.Nodes, fSl aI y1.Defs, aA .i64 y1.Main]]) ?_ ?_
 revert H; refine I4 (fun c9 H => ?_) fun c9 H => ?_
 refine Z4 ?_
 revert H; refine cs (fun c10 H => ?_) fun c10 H => ?_
 refine Z5 ?_
 refine aJ [2] (by decide) ?_
 exact Tm (decide (y18.2 = 2)) (ij H)
 refine Z5 ?_
 refine aJ [2] (by decide) ?_
 exact Tm (false) (ij H)
 refine Z9 ?_
 refine aJ [2] (by decide) ?_
 exact Tm (false) (ij H)
 clear H; intro x1 hi; subst o1; have H := Hr1; clear Hr1; try dsimp only at H
 try dsimp only
 refine Z1 ?_
 cases H
 refine aJ [] (by decide) ?_
 exact To
 exact fk
 kernel_rfl
 exact fk
 kernel_rfl
def oR (a0 : List ByteArray) (a1 : ByteArray) : Nat → Int → Option ((Unit) ⊕ (Bool))
| 0, _ => none
| k + 1, x2 =>
 if x2 < (a0.length : Int) then
  (idx a0 x2).bind fun y1 =>
  if y1 = a1 then
   (some true).bind fun r => some (Sum.inr r)
  else
   (chk (x2 + 1)).bind fun z1 =>
   oR a0 a1 k z1
 else
  some (Sum.inl ())
def xX (fuel : Nat) (a0 : List ByteArray) (a1 : ByteArray) : Option (Bool) :=
 (oR a0 a1 fuel 0).bind fun o => match o with
 | Sum.inr r => some r
 | Sum.inl _ =>
 some false
theorem aGY (fuel : Nat)  (a0 : List ByteArray) (a1 : ByteArray) (r : Bool) (H : xX fuel a0 a1 = some r) : FnS Tryz.prog 103 [fSl aN a0, gT a1] [] (aH r) (fun _ => []) := by
 unfold xX at H
 refine bB Tryz.func103 rfl Tryz.ntmps103 rfl (fun β => ?_)
 revert H; refine B3 fun o1 H Hr1 => ?_
 refine aW (ι := Unit) (fun i => o1 = Sum.inl ()) (fun i => []) (fun i => []) ?_ ?_
 refine Z4 ?_
 refine Tl (ι := Nat × Int) (fun i => oR a0 a1 i.1 i.2 = _) (fun i => i.1) (fun i => [(0, fSl aN a0), (1, gT a1), (5, aA .i64 i.2)]) (fun i => []) (fuel, 0) H ?_
 clear H; rintro ⟨k1, x2⟩ H
 replace H : oR a0 a1 k1 x2 = _ := H
 try dsimp only
 obtain _ | k1 := k1
 rw [oR] at H; cases H
 rw [oR] at H
 refine aG ?_
 revert H; refine I6 (fun c1 H => ?_) fun c1 H => ?_
 refine Z3 ?_
 refine aG ?_
 revert H; refine B4 fun y1 h1 H => ?_
 refine Z3 ?_
 refine Yy (o_eqlS rfl hh hh) ?_
 revert H; refine I1 (fun c2 H => ?_) fun c2 H => ?_
 revert H; refine B10 fun r1 H e1 => ?_
 cases e1; cases Hr1
 cases H
 exact To
 revert H; refine B6 fun z1 h2 H => ?_
 refine Z3 ?_
 exact Tm ((k1, z1)) ⟨H, ls⟩
 refine Z6 ?_
 exact Tm (()) (ij H)
 clear H; intro i hi; subst o1; have H := Hr1; clear Hr1; try dsimp only at H
 try dsimp only
 refine Z4 ?_
 cases H
 exact To
end Go.Proofs.YtmnbfgeljmhekaaGreat
set_option maxRecDepth 100000
set_option maxHeartbeats 2000000
namespace Go.Proofs.YtmnbfgeljmhekaaGreat
open Go.SX Go.SW Go.Dt
attribute [local irreducible] Code.wpIn wpListIn Exit.then Exit.inBlock
def qI (a0 : ByteArray) : Nat → Int → Option ((Unit) ⊕ (Bool))
| 0, _ => none
| k + 1, x2 =>
 if x2 < (a0.size : Int) then
  (sidx a0 x2).bind fun z1 =>
  if z1 < 97 then
   (some false).bind fun r => some (Sum.inr r)
  else
   (sidx a0 x2).bind fun z2 =>
   if 122 < z2 then
    (some false).bind fun r => some (Sum.inr r)
   else
    (chk (x2 + 1)).bind fun z3 =>
    qI a0 k z3
 else
  some (Sum.inl ())
def vO (fuel : Nat) (a0 : ByteArray) : Option (Bool) :=
 if (a0.size : Int) < 1 then
  some false
 else
  if 8 < (a0.size : Int) then
   some false
  else
   (qI a0 fuel 0).bind fun o => match o with
   | Sum.inr r => some r
   | Sum.inl _ =>
   (xX fuel [{ data := #[97, 110, 100] }, { data := #[100, 101, 102] }, { data := #[101, 108, 115, 101] }, { data := #[103, 111] }, { data := #[105, 102] }, { data := #[105, 110] }, { data := #[112, 108, 97, 99, 101] }, { data := #[115, 116, 111, 112] }, { data := #[116, 104, 101, 110] }, { data := #[119, 97, 116, 99, 104] }] a0).bind fun y1 =>
   some (!y1)
theorem aBk (fuel : Nat)  (a0 : ByteArray) (r : Bool) (H : vO fuel a0 = some r) : FnS Tryz.prog 87 [gT a0] [] (aH r) (fun _ => []) := by
 unfold vO at H
 refine bB Tryz.func87 rfl Tryz.ntmps87 rfl (fun β => ?_)
 refine Z3 ?_
 refine aG ?_
 refine Z2 ?_
 refine Yy (tY rfl hh nR) ?_
 revert H; refine I2 (fun c1 H => ?_) fun c1 H => ?_
 refine Z10 ?_
 cases H
 exact To
 refine Z1 ?_
 refine Yg c1 (tY rfl hh nR) ?_
 revert H; refine I3 (fun c2 H => ?_) fun c2 H => ?_
 refine Z5 ?_
 cases H
 exact To
 revert H; refine B3 fun o1 H Hr1 => ?_
 refine aW (ι := Unit) (fun i => o1 = Sum.inl ()) (fun i => [(0, gT a0)]) (fun i => []) ?_ ?_
 refine Z4 ?_
 refine Tl (ι := Nat × Int) (fun i => qI a0 i.1 i.2 = _) (fun i => i.1) (fun i => [(0, gT a0), (3, aA .i64 i.2)]) (fun i => []) (fuel, 0) H ?_
 clear H; rintro ⟨k1, x2⟩ H
 replace H : qI a0 k1 x2 = _ := H
 try dsimp only
 obtain _ | k1 := k1
 rw [qI] at H; cases H
 rw [qI] at H
 refine aG ?_
 refine Z3 ?_
 refine Yy (tY rfl hh nR) ?_
 revert H; refine I2 (fun c3 H => ?_) fun c3 H => ?_
 refine Z3 ?_
 refine aG ?_
 revert H; refine B4 fun z1 h1 H => ?_
 refine Yy (yM rfl hh hh nR h1) ?_
 revert H; refine I2 (fun c4 H => ?_) fun c4 H => ?_
 refine Z12 ?_
 revert H; refine B4 fun r1 H e1 => ?_
 cases e1; cases Hr1
 cases H
 exact To
 revert H; refine B2 fun z2 h2 H => ?_
 refine Yg c4 (yM rfl hh hh nR h2) ?_
 revert H; refine I3 (fun c5 H => ?_) fun c5 H => ?_
 revert H; refine B10 fun r2 H e2 => ?_
 cases e2; cases Hr1
 cases H
 exact To
 revert H; refine B6 fun z3 h3 H => ?_
 refine Z3 ?_
 exact Tm ((k1, z3)) ⟨H, ls⟩
 refine Z6 ?_
 exact Tm (()) (ij H)
 clear H; intro i hi; subst o1; have H := Hr1; clear Hr1; try dsimp only at H
 try dsimp only
 refine Z1 ?_
 refine Tn (cJ (t := aN) (xs := [{ data := #[97, 110, 100] }, { data := #[100, 101, 102] }, { data := #[101, 108, 115, 101] }, { data := #[103, 111] }, { data := #[105, 102] }, { data := #[105, 110] }, { data := #[112, 108, 97, 99, 101] }, { data := #[115, 116, 111, 112] }, { data := #[116, 104, 101, 110] }, { data := #[119, 97, 116, 99, 104] }]) rfl (et rfl) (aP.cons rfl (has rfl) (aT (aD trivial)) (aP.cons rfl (has rfl) (aT (aD trivial)) (aP.cons rfl (has rfl) (aT (aD trivial)) (aP.cons rfl (has rfl) (aT (aD trivial)) (aP.cons rfl (has rfl) (aT (aD trivial)) (aP.cons rfl (has rfl) (aT (aD trivial)) (aP.cons rfl (has rfl) (aT (aD trivial)) (aP.cons rfl (has rfl) (aT (aD trivial)) (aP.cons rfl (has rfl) (aT (aD trivial)) (aP.cons rfl (has rfl) (aT (aD trivial)) aP.nil)))))))))) rfl rfl rfl) fun b1 => ?_
 generalize (Value.slice (some ⟨b1, 0, none⟩) _ _) = v1
 refine aS 0 rfl (fun hc_v1 => ?_)
 refine Z1 ?_
 refine cO (φ := fSl aN [{ data := #[97, 110, 100] }, { data := #[100, 101, 102] }, { data := #[101, 108, 115, 101] }, { data := #[103, 111] }, { data := #[105, 102] }, { data := #[105, 110] }, { data := #[112, 108, 97, 99, 101] }, { data := #[115, 116, 111, 112] }, { data := #[116, 104, 101, 110] }, { data := #[119, 97, 116, 99, 104] }]) (v := v1) [28] cG fz ?_
 refine cP ?_
 revert H; refine bs fun y1 h4 H => ?_
 refine Tc (aGY _ _ _ _ h4) ?_
 refine Z4 ?_
 cases H
 exact To
end Go.Proofs.YtmnbfgeljmhekaaGreat
set_option maxRecDepth 100000
set_option maxHeartbeats 2000000
namespace Go.Proofs.YtmnbfgeljmhekaaGreat
open Go.SX Go.SW Go.Dt
attribute [local irreducible] Code.wpIn wpListIn Exit.then Exit.inBlock
def oM (a0 : ScopeDef) : Nat → Int → Option ((Unit) ⊕ (Bool))
| 0, _ => none
| k + 1, x2 =>
 if x2 < (a0.Chans.length : Int) then
  (idx a0.Chans x2).bind fun y1 =>
  if y1.At < 0 then
   (some false).bind fun r => some (Sum.inr r)
  else
   (idx a0.Chans x2).bind fun y2 =>
   if (a0.Spots.length : Int) < y2.At then
    (some false).bind fun r => some (Sum.inr r)
   else
    (idx a0.Chans x2).bind fun y3 =>
    if y3.Many < 0 then
     (some false).bind fun r => some (Sum.inr r)
    else
     (idx a0.Chans x2).bind fun y4 =>
     if 3 < y4.Many then
      (some false).bind fun r => some (Sum.inr r)
     else
      (chk (x2 + 1)).bind fun z1 =>
      oM a0 k z1
 else
  some (Sum.inl ())
def oA (a0 : ScopeDef) : Nat → Int → Option ((Unit) ⊕ (Bool))
| 0, _ => none
| k + 1, x4 =>
 if x4 < (a0.Spots.length : Int) then
  (idx a0.Spots x4).bind fun y5 =>
  if y5.In < 0 then
   (some false).bind fun r => some (Sum.inr r)
  else
   (idx a0.Spots x4).bind fun y6 =>
   if x4 < y6.In then
    (some false).bind fun r => some (Sum.inr r)
   else
    (chk (x4 + 1)).bind fun z2 =>
    oA a0 k z2
 else
  some (Sum.inl ())
def pB (y8 : ScopeRule) (x14 : Int) (y9 : Int) : Nat → Int → Option ((Unit) ⊕ ((List Bool) ⊕ ((List Bool) ⊕ ((List Bool) ⊕ (Bool)))))
| 0, _ => none
| k + 1, x17 =>
 if x17 < x14 then
  (idx y8.Joins x17).bind fun y11 =>
  if y11 = y9 then
   ((((some false).bind fun r => some (Sum.inr r)).bind fun r => some (Sum.inr r)).bind fun r => some (Sum.inr r)).bind fun r => some (Sum.inr r)
  else
   (chk (x17 + 1)).bind fun z3 =>
   pB y8 x14 y9 k z3
 else
  some (Sum.inl ())
def kI (fuel : Nat) (a0 : ScopeDef) (y8 : ScopeRule) : Nat → (List Bool) → Int → Option ((List Bool) ⊕ ((List Bool) ⊕ (Bool)))
| 0, _, _ => none
| k + 1, x13, x14 =>
 if x14 < (y8.Joins.length : Int) then
  ((idx y8.Joins x14).bind fun y9 =>
  if y9 < 0 then
   (((some false).bind fun r => some (Sum.inr r)).bind fun r => some (Sum.inr r)).bind fun r => some (Sum.inr r)
  else
   if (a0.Chans.length : Int) ≤ y9 then
    (((some false).bind fun r => some (Sum.inr r)).bind fun r => some (Sum.inr r)).bind fun r => some (Sum.inr r)
   else
    (idx a0.Chans y9).bind fun y10 =>
    if y10.At ≠ y8.At then
     (((some false).bind fun r => some (Sum.inr r)).bind fun r => some (Sum.inr r)).bind fun r => some (Sum.inr r)
    else
     (pB y8 x14 y9 fuel 0).bind fun o => match o with
     | Sum.inr r => some r
     | Sum.inl _ =>
     (idx x13 y9).bind fun y12 =>
     some (Sum.inl (x13.set y9.toNat true))).bind fun o => match o with
  | Sum.inr r => some r
  | Sum.inl x15 =>
  (chk (x14 + 1)).bind fun z4 =>
  kI fuel a0 y8 k x15 z4
 else
  some (Sum.inl x13)
def mQ (fuel : Nat) (a0 : ScopeDef) : Nat → (List Bool) → Int → Option ((List Bool) ⊕ (Bool))
| 0, _, _ => none
| k + 1, x8, x9 =>
 if x9 < (a0.Rules.length : Int) then
  ((idx a0.Rules x9).bind fun y8 =>
  if y8.At < 0 then
   ((some false).bind fun r => some (Sum.inr r)).bind fun r => some (Sum.inr r)
  else
   if (a0.Spots.length : Int) < y8.At then
    ((some false).bind fun r => some (Sum.inr r)).bind fun r => some (Sum.inr r)
   else
    if (y8.Joins.length : Int) < 1 then
     ((some false).bind fun r => some (Sum.inr r)).bind fun r => some (Sum.inr r)
    else
     if 3 < (y8.Joins.length : Int) then
      ((some false).bind fun r => some (Sum.inr r)).bind fun r => some (Sum.inr r)
     else
      kI fuel a0 y8 fuel x8 0).bind fun o => match o with
  | Sum.inr r => some r
  | Sum.inl x10 =>
  (chk (x9 + 1)).bind fun z5 =>
  mQ fuel a0 k x10 z5
 else
  some (Sum.inl x8)
def oK (x5 : List Bool) : Nat → Int → Option ((Unit) ⊕ (Bool))
| 0, _ => none
| k + 1, x19 =>
 if x19 < (x5.length : Int) then
  (idx x5 x19).bind fun y13 =>
  bif y13 then
   (chk (x19 + 1)).bind fun z6 =>
   oK x5 k z6
  else
   (some false).bind fun r => some (Sum.inr r)
 else
  some (Sum.inl ())
def xA (fuel : Nat) (a0 : ScopeDef) : Option (Bool) :=
 if 30 < (a0.Chans.length : Int) then
  some false
 else
  if 30 < (a0.Spots.length : Int) then
   some false
  else
   if 30 < (a0.Rules.length : Int) then
    some false
   else
    (oM a0 fuel 0).bind fun o => match o with
    | Sum.inr r => some r
    | Sum.inl _ =>
    (oA a0 fuel 0).bind fun o => match o with
    | Sum.inr r => some r
    | Sum.inl _ =>
    (mk false (a0.Chans.length : Int)).bind fun y7 =>
    (mQ fuel a0 fuel y7 0).bind fun o => match o with
    | Sum.inr r => some r
    | Sum.inl x5 =>
    (oK x5 fuel 0).bind fun o => match o with
    | Sum.inr r => some r
    | Sum.inl _ =>
    some true
theorem aGr (fuel : Nat)  (a0 : ScopeDef) (r : Bool) (H : xA fuel a0 = some r) : FnS Tryz.prog 88 [fSt aI a0] [] (aH r) (fun _ => []) := by
 unfold xA at H
 refine bB Tryz.func88 rfl Tryz.ntmps88 rfl (fun β => ?_)
 refine Z1 ?_
 refine Tn (cD rfl (has rfl) bJ) fun b1 => ?_
 refine Z2 ?_
 refine aG ?_
 revert H; refine I6 (fun c1 H => ?_) fun c1 H => ?_
 refine Yt c1 ?_
 refine Yt c1 ?_
 refine Yt c1 ?_
 refine Yt c1 ?_
 refine Yy (dI rfl hh c1 hh) ?_
 refine Z12 ?_
 cases H
 refine aJ [] (by decide) ?_
 exact To
 refine Yg c1 (cI 1 rfl hh (fa rfl) rfl) ?_
 refine Yh 0 rfl c1 (bY rfl hh (sc rfl) rfl Ent.rfl) ?_
 refine Yg c1 (fR rfl hh (us rfl)) ?_
 refine Yg c1 (gV rfl hh hh) ?_
 refine Yy (cM rfl hh c1 hh) ?_
 revert H; refine I1 (fun c2 H => ?_) fun c2 H => ?_
 refine Yt c2 ?_
 refine Yt c2 ?_
 refine Yt c2 ?_
 refine Yt c2 ?_
 refine Yy (dI rfl hh c2 hh) ?_
 refine Z6 ?_
 cases H
 refine aJ [] (by decide) ?_
 exact To
 refine Yg c2 (cI 2 rfl hh (fa rfl) rfl) ?_
 refine Yh 0 rfl c2 (bY rfl hh (sc rfl) rfl Ent.rfl) ?_
 refine Yg c2 (fR rfl hh (us rfl)) ?_
 refine Yg c2 (gV rfl hh hh) ?_
 refine Yy (cM rfl hh c2 hh) ?_
 revert H; refine I1 (fun c3 H => ?_) fun c3 H => ?_
 refine dB (has rfl) c3 ?_
 refine Z4 ?_
 cases H
 refine aJ [] (by decide) ?_
 exact To
 refine dF (has rfl) c3 ?_
 revert H; refine B2 fun o1 H Hr1 => ?_
 refine aW (ι := Unit) (fun i => o1 = Sum.inl ()) (fun i => [(1, fEq (ptr b1))]) (fun i => [aC b1 99 [fSl bC a0.Chans, fSl bV a0.Spots, fSl bH a0.Rules]]) ?_ ?_
 refine Z4 ?_
 refine Tl (ι := Nat × Int) (fun i => oM a0 i.1 i.2 = _) (fun i => i.1) (fun i => [(1, fEq (ptr b1)), (3, aA .i64 i.2)]) (fun i => [aC b1 99 [fSl bC a0.Chans, fSl bV a0.Spots, fSl bH a0.Rules]]) (fuel, 0) H ?_
 clear H; rintro ⟨k1, x2⟩ H
 replace H : oM a0 k1 x2 = _ := H
 try dsimp only
 obtain _ | k1 := k1
 rw [oM] at H; cases H
 rw [oM] at H
 refine aG ?_
 revert H; refine I7 (fun c4 H => ?_) fun c4 H => ?_
 refine dB (has rfl) c4 ?_
 refine Z2 ?_
 refine aG ?_
 refine Z1 ?_
 refine aG ?_
 revert H; refine bs fun y1 h1 H => ?_
 revert H; refine is (fun c5 H => ?_) fun c5 H => ?_
 apply bE (ods := [_, _, _, _, _, _, _, _, _, _, _, _, _, _, _, _, _, _, _, _, _, _, _, _, _, _, _, _, _, _, _, _, _, _, _, _, _]) 37 0 1 bF rfl rfl rfl
 refine ND ?_
 refine M3 ?_
 intros
 refine My (cB rfl hh hh (el rfl) h1) fun _ => ?_
 refine M4 ?_
 intros
 refine Mt c5 fun _ => ?_
 refine Mt c5 fun _ => ?_
 refine Mt c5 fun _ => ?_
 refine Mt c5 fun _ => ?_
 refine Mt c5 fun _ => ?_
 refine Mt c5 fun _ => ?_
 refine Mt c5 fun _ => ?_
 refine Mt c5 fun _ => ?_
 refine Mt c5 fun _ => ?_
 refine Mt c5 fun _ => ?_
 refine My (dI rfl hh c5 hh) fun _ => ?_
 refine M8 ?_
 intros
 refine M8 ?_
 intros
 refine M2 ?_
 intros
 revert H; refine B12 fun r1 H e1 => ?_
 cases e1; cases Hr1
 cases H
 refine aJ [] (by decide) ?_
 exact To
 exact fk
 kernel_rfl
 revert H; refine bs fun y2 h2 H => ?_
 revert H; refine is (fun c6 H => ?_) fun c6 H => ?_
 apply bE (ods := [_, _, _, _, _, _, _, _, _, _, _, _, _, _, _, _, _, _, _, _, _, _, _, _, _, _, _, _, _, _, _, _, _, _, _, _, _]) 37 0 1 bF rfl rfl rfl
 refine ND ?_
 refine M3 ?_
 intros
 refine My (cB rfl hh hh (el rfl) h1) fun _ => ?_
 refine M4 ?_
 intros
 refine Mg c5 (cI 0 rfl hh (fa rfl) rfl) fun _ => ?_
 refine eF (od := odC [0] false (fSl bC a0.Chans) [dK]) (ps := [0]) (φ := fSl bC a0.Chans) rfl (fun _ => rfl) ⟨_, _, rfl, rfl, c5⟩ rfl rfl (bY rfl (has rfl) (sc rfl) rfl Ent.rfl) (fun _ => ?_)
 refine Mg c5 (bW rfl hh) fun _ => ?_
 refine Mg c5 (cB rfl hh hh (el rfl) h2) fun _ => ?_
 refine Mg c5 (fU (t' := (aB .i64)) (z := y2.At) rfl hh (fa rfl) rfl) fun _ => ?_
 refine Mg c5 (fD rfl hh (sc rfl) rfl) fun _ => ?_
 refine Mg c5 (cI 1 rfl hh (fa rfl) rfl) fun _ => ?_
 refine eF (od := odC [0] false (fSl bV a0.Spots) [dK]) (ps := [0]) (φ := fSl bV a0.Spots) rfl (fun _ => rfl) ⟨_, _, rfl, rfl, c5⟩ rfl rfl (bY rfl (has rfl) (sc rfl) rfl Ent.rfl) (fun _ => ?_)
 refine Mg c5 (fR rfl hh (us rfl)) fun _ => ?_
 refine Mg c5 (gV rfl hh hh) fun _ => ?_
 refine My (cM rfl hh c5 hh) fun _ => ?_
 refine M1 ?_
 intros
 refine Mt c6 fun _ => ?_
 refine Mt c6 fun _ => ?_
 refine Mt c6 fun _ => ?_
 refine Mt c6 fun _ => ?_
 refine Mt c6 fun _ => ?_
 refine Mt c6 fun _ => ?_
 refine Mt c6 fun _ => ?_
 refine My (dI rfl hh c6 hh) fun _ => ?_
 refine M8 ?_
 intros
 refine M1 ?_
 intros
 revert H; refine B12 fun r2 H e2 => ?_
 cases e2; cases Hr1
 cases H
 refine aJ [] (by decide) ?_
 exact To
 exact fk
 kernel_rfl
 revert H; refine bs fun y3 h3 H => ?_
 revert H; refine is (fun c7 H => ?_) fun c7 H => ?_
 apply bE (ods := [_, _, _, _, _, _, _, _, _, _, _, _, _, _, _, _, _, _, _, _, _, _, _, _, _, _, _, _, _, _, _, _, _, _, _, _, _]) 37 0 1 bF rfl rfl rfl
 refine ND ?_
 refine M3 ?_
 intros
 refine My (cB rfl hh hh (el rfl) h1) fun _ => ?_
 refine M4 ?_
 intros
 refine Mg c5 (cI 0 rfl hh (fa rfl) rfl) fun _ => ?_
 refine eF (od := odC [0] false (fSl bC a0.Chans) [dK]) (ps := [0]) (φ := fSl bC a0.Chans) rfl (fun _ => rfl) ⟨_, _, rfl, rfl, c5⟩ rfl rfl (bY rfl (has rfl) (sc rfl) rfl Ent.rfl) (fun _ => ?_)
 refine Mg c5 (bW rfl hh) fun _ => ?_
 refine Mg c5 (cB rfl hh hh (el rfl) h2) fun _ => ?_
 refine Mg c5 (fU (t' := (aB .i64)) (z := y2.At) rfl hh (fa rfl) rfl) fun _ => ?_
 refine Mg c5 (fD rfl hh (sc rfl) rfl) fun _ => ?_
 refine Mg c5 (cI 1 rfl hh (fa rfl) rfl) fun _ => ?_
 refine eF (od := odC [0] false (fSl bV a0.Spots) [dK]) (ps := [0]) (φ := fSl bV a0.Spots) rfl (fun _ => rfl) ⟨_, _, rfl, rfl, c5⟩ rfl rfl (bY rfl (has rfl) (sc rfl) rfl Ent.rfl) (fun _ => ?_)
 refine Mg c5 (fR rfl hh (us rfl)) fun _ => ?_
 refine Mg c5 (gV rfl hh hh) fun _ => ?_
 refine My (cM rfl hh c5 hh) fun _ => ?_
 refine M1 ?_
 intros
 refine Mg c6 (cI 0 rfl hh (fa rfl) rfl) fun _ => ?_
 refine eF (od := odC [0] false (fSl bC a0.Chans) [dK]) (ps := [0]) (φ := fSl bC a0.Chans) rfl (fun _ => rfl) ⟨_, _, rfl, rfl, c6⟩ rfl rfl (bY rfl (has rfl) (sc rfl) rfl Ent.rfl) (fun _ => ?_)
 refine Mg c6 (bW rfl hh) fun _ => ?_
 refine Mg c6 (cB rfl hh hh (el rfl) h3) fun _ => ?_
 refine Mg c6 (fU (t' := (aB .i64)) (z := y3.Many) rfl hh (fa rfl) rfl) fun _ => ?_
 refine Mg c6 (fD rfl hh (sc rfl) rfl) fun _ => ?_
 refine Mg c6 (uQ rfl hh hh) fun _ => ?_
 refine My (cM rfl hh c6 hh) fun _ => ?_
 refine M1 ?_
 intros
 refine Mt c7 fun _ => ?_
 refine Mt c7 fun _ => ?_
 refine Mt c7 fun _ => ?_
 refine Mt c7 fun _ => ?_
 refine Mt c7 fun _ => ?_
 refine Mt c7 fun _ => ?_
 refine Mt c7 fun _ => ?_
 refine My (dI rfl hh c7 hh) fun _ => ?_
 revert H; refine B12 fun r3 H e3 => ?_
 cases e3; cases Hr1
 cases H
 refine aJ [] (by decide) ?_
 exact To
 exact fk
 kernel_rfl
 revert H; refine bs fun y4 h4 H => ?_
 apply bE (ods := [_, _, _, _, _, _, _, _, _, _, _, _, _, _, _, _, _, _, _, _, _, _, _, _, _, _, _, _, _, _, _, _, _, _, _, _, _]) 37 0 1 bF rfl rfl rfl
 refine ND ?_
 refine M3 ?_
 intros
 refine My (cB rfl hh hh (el rfl) h1) fun _ => ?_
 refine M4 ?_
 intros
 refine Mg c5 (cI 0 rfl hh (fa rfl) rfl) fun _ => ?_
 refine eF (od := odC [0] false (fSl bC a0.Chans) [dK]) (ps := [0]) (φ := fSl bC a0.Chans) rfl (fun _ => rfl) ⟨_, _, rfl, rfl, c5⟩ rfl rfl (bY rfl (has rfl) (sc rfl) rfl Ent.rfl) (fun _ => ?_)
 refine Mg c5 (bW rfl hh) fun _ => ?_
 refine Mg c5 (cB rfl hh hh (el rfl) h2) fun _ => ?_
 refine Mg c5 (fU (t' := (aB .i64)) (z := y2.At) rfl hh (fa rfl) rfl) fun _ => ?_
 refine Mg c5 (fD rfl hh (sc rfl) rfl) fun _ => ?_
 refine Mg c5 (cI 1 rfl hh (fa rfl) rfl) fun _ => ?_
 refine eF (od := odC [0] false (fSl bV a0.Spots) [dK]) (ps := [0]) (φ := fSl bV a0.Spots) rfl (fun _ => rfl) ⟨_, _, rfl, rfl, c5⟩ rfl rfl (bY rfl (has rfl) (sc rfl) rfl Ent.rfl) (fun _ => ?_)
 refine Mg c5 (fR rfl hh (us rfl)) fun _ => ?_
 refine Mg c5 (gV rfl hh hh) fun _ => ?_
 refine My (cM rfl hh c5 hh) fun _ => ?_
 refine M1 ?_
 intros
 refine Mg c6 (cI 0 rfl hh (fa rfl) rfl) fun _ => ?_
 refine eF (od := odC [0] false (fSl bC a0.Chans) [dK]) (ps := [0]) (φ := fSl bC a0.Chans) rfl (fun _ => rfl) ⟨_, _, rfl, rfl, c6⟩ rfl rfl (bY rfl (has rfl) (sc rfl) rfl Ent.rfl) (fun _ => ?_)
 refine Mg c6 (bW rfl hh) fun _ => ?_
 refine Mg c6 (cB rfl hh hh (el rfl) h3) fun _ => ?_
 refine Mg c6 (fU (t' := (aB .i64)) (z := y3.Many) rfl hh (fa rfl) rfl) fun _ => ?_
 refine Mg c6 (fD rfl hh (sc rfl) rfl) fun _ => ?_
 refine Mg c6 (uQ rfl hh hh) fun _ => ?_
 refine My (cM rfl hh c6 hh) fun _ => ?_
 refine M1 ?_
 intros
 refine Mg c7 (cI 0 rfl hh (fa rfl) rfl) fun _ => ?_
 refine eF (od := odC [0] false (fSl bC a0.Chans) [dK]) (ps := [0]) (φ := fSl bC a0.Chans) rfl (fun _ => rfl) ⟨_, _, rfl, rfl, c7⟩ rfl rfl (bY rfl (has rfl) (sc rfl) rfl Ent.rfl) (fun _ => ?_)
 refine Mg c7 (bW rfl hh) fun _ => ?_
 refine Mg c7 (cB rfl hh hh (el rfl) h4) fun _ => ?_
 refine Mg c7 (fU (t' := (aB .i64)) (z := y4.Many) rfl hh (fa rfl) rfl) fun _ => ?_
 refine Mg c7 (fD rfl hh (sc rfl) rfl) fun _ => ?_
 refine Mg c7 (gV rfl hh hh) fun _ => ?_
 refine My (cM rfl hh c7 hh) fun _ => ?_
 revert H; refine I2 (fun c8 H => ?_) fun c8 H => ?_
 refine dB (has rfl) c8 ?_
 revert H; refine B9 fun r4 H e4 => ?_
 cases e4; cases Hr1
 cases H
 refine aJ [] (by decide) ?_
 exact To
 refine dF (has rfl) c8 ?_
 revert H; refine B5 fun z1 h5 H => ?_
 refine Yy (fF rfl hh hh h5) ?_
 refine Z2 ?_
 exact Tm ((k1, z1)) ⟨H, ls⟩
 exact fk
 kernel_rfl
 refine dF (has rfl) c4 ?_
 refine Z5 ?_
 exact Tm (()) (ij H)
 clear H; intro i hi; subst o1; have H := Hr1; clear Hr1; try dsimp only at H
 try dsimp only
 revert H; refine bs fun o2 H Hr2 => ?_
 refine aW (ι := Unit) (fun i => o2 = Sum.inl ()) (fun i => [(1, fEq (ptr b1))]) (fun i => [aC b1 99 [fSl bC a0.Chans, fSl bV a0.Spots, fSl bH a0.Rules]]) ?_ ?_
 refine Z4 ?_
 refine Tl (ι := Nat × Int) (fun i => oA a0 i.1 i.2 = _) (fun i => i.1) (fun i => [(1, fEq (ptr b1)), (4, aA .i64 i.2)]) (fun i => [aC b1 99 [fSl bC a0.Chans, fSl bV a0.Spots, fSl bH a0.Rules]]) (fuel, 0) H ?_
 clear H; rintro ⟨k2, x4⟩ H
 replace H : oA a0 k2 x4 = _ := H
 try dsimp only
 obtain _ | k2 := k2
 rw [oA] at H; cases H
 rw [oA] at H
 refine aG ?_
 revert H; refine I7 (fun c9 H => ?_) fun c9 H => ?_
 refine dB (has rfl) c9 ?_
 refine Z2 ?_
 refine aG ?_
 revert H; refine B5 fun y5 h6 H => ?_
 refine Yy (cB rfl hh hh (el rfl) h6) ?_
 revert H; refine I4 (fun c10 H => ?_) fun c10 H => ?_
 refine Yt c10 ?_
 refine Yt c10 ?_
 refine Yt c10 ?_
 refine Yt c10 ?_
 refine Yt c10 ?_
 refine Yt c10 ?_
 refine Yt c10 ?_
 refine Yt c10 ?_
 refine Yy (dI rfl hh c10 hh) ?_
 revert H; refine B11 fun r5 H e5 => ?_
 cases e5; cases Hr2
 cases H
 refine aJ [] (by decide) ?_
 exact To
 refine Yg c10 (cI 1 rfl hh (fa rfl) rfl) ?_
 refine Yh 0 rfl c10 (bY rfl hh (sc rfl) rfl Ent.rfl) ?_
 refine Yg c10 (bW rfl hh) ?_
 revert H; refine bs fun y6 h7 H => ?_
 refine Yg c10 (cB rfl hh hh (el rfl) h7) ?_
 refine Yg c10 (fU (t' := (aB .i64)) (z := y6.In) rfl hh (fa rfl) rfl) ?_
 refine Yg c10 (fD rfl hh (sc rfl) rfl) ?_
 refine Yg c10 (bW rfl hh) ?_
 refine Yg c10 (gV rfl hh hh) ?_
 refine Yy (cM rfl hh c10 hh) ?_
 revert H; refine I1 (fun c11 H => ?_) fun c11 H => ?_
 refine dB (has rfl) c11 ?_
 revert H; refine B9 fun r6 H e6 => ?_
 cases e6; cases Hr2
 cases H
 refine aJ [] (by decide) ?_
 exact To
 refine dF (has rfl) c11 ?_
 revert H; refine B5 fun z2 h8 H => ?_
 refine Yy (fF rfl hh hh h8) ?_
 refine Z2 ?_
 exact Tm ((k2, z2)) ⟨H, ls⟩
 refine dF (has rfl) c9 ?_
 refine Z5 ?_
 exact Tm (()) (ij H)
 clear H; intro i hi; subst o2; have H := Hr2; clear Hr2; try dsimp only at H
 try dsimp only
 revert H; refine B4 fun y7 h9 H => ?_
 refine Tn (lA (t := cA) (z := false) rfl (has rfl) (et rfl) rfl aCa rfl h9) fun b2 => ?_
 generalize (Value.slice (some ⟨b2, 0, none⟩) _ _) = v1
 refine aS 0 rfl (fun hc_v1 => ?_)
 revert H; refine B2 fun o3 H Hr3 => ?_
 refine aW (ι := List Bool) (fun i => o3 = Sum.inl i) (fun i => [(5, fEq v1)]) (fun i => [aC b1 99 [fSl bC a0.Chans, fSl bV a0.Spots, fSl bH a0.Rules], aE v1 4 cA i]) ?_ ?_
 refine Z4 ?_
 refine aJ [1, 0] (by decide) ?_
 refine Tl (ι := Nat × List Bool × Int) (fun i => mQ fuel a0 i.1 i.2.1 i.2.2 = _) (fun i => i.1) (fun i => [(1, fEq (ptr b1)), (5, fEq v1), (6, aA .i64 i.2.2)]) (fun i => [aC b1 99 [fSl bC a0.Chans, fSl bV a0.Spots, fSl bH a0.Rules], aE v1 4 cA i.2.1]) (fuel, y7, 0) H ?_
 clear H; rintro ⟨k3, x8, x9⟩ H
 replace H : mQ fuel a0 k3 x8 x9 = _ := H
 try dsimp only
 obtain _ | k3 := k3
 rw [mQ] at H; cases H
 rw [mQ] at H
 refine aG ?_
 revert H; refine I7 (fun c12 H => ?_) fun c12 H => ?_
 refine dB (has rfl) c12 ?_
 revert H; refine B2 fun o4 H Hr4 => ?_
 refine aW (ι := List Bool) (fun i => o4 = Sum.inl i) (fun i => [(1, fEq (ptr b1)), (5, fEq v1), (6, aA .i64 x9)]) (fun i => [aC b1 99 [fSl bC a0.Chans, fSl bV a0.Spots, fSl bH a0.Rules], aE v1 4 cA i]) ?_ ?_
 revert H; refine B5 fun y8 h10 H => ?_
 refine Yy (cB rfl hh hh (el rfl) h10) ?_
 refine Z1 ?_
 refine Tn (cL rfl vD rfl) fun b3 => ?_
 refine dG (φs' := [aA .i64 y8.At, fSl (aB .i64) y8.Joins, aA .i64 y8.Node]) trivial rfl rfl (has rfl) (has rfl) (aO (aD trivial) (aO (aZ) (aO (aD trivial) bX))) (sz rfl) rfl rfl rfl ?_
 refine Z1 ?_
 refine aG ?_
 revert H; refine I5 (fun c13 H => ?_) fun c13 H => ?_
 refine Yt c13 ?_
 refine Yt c13 ?_
 refine Yt c13 ?_
 refine Yt c13 ?_
 refine Yt c13 ?_
 refine Yt c13 ?_
 refine Yy (dI rfl hh c13 hh) ?_
 refine Z12 ?_
 revert H; refine B8 fun r7 H e7 => ?_
 cases e7; cases Hr4
 revert H; refine B3 fun r8 H e8 => ?_
 cases e8; cases Hr3
 cases H
 refine aJ [] (by decide) ?_
 exact To
 refine Yg c13 (cI 0 rfl hh (fa rfl) rfl) ?_
 refine Yh 0 rfl c13 (bY rfl hh (sc rfl) rfl Ent.rfl) ?_
 refine Yg c13 (cI 1 rfl hh (fa rfl) rfl) ?_
 refine Yh 1 rfl c13 (bY rfl hh (sc rfl) rfl Ent.rfl) ?_
 refine Yg c13 (fR rfl hh (us rfl)) ?_
 refine Yg c13 (gV rfl hh hh) ?_
 refine Yy (cM rfl hh c13 hh) ?_
 revert H; refine I1 (fun c14 H => ?_) fun c14 H => ?_
 refine Yt c14 ?_
 refine Yt c14 ?_
 refine Yt c14 ?_
 refine Yt c14 ?_
 refine Yy (dI rfl hh c14 hh) ?_
 refine Z12 ?_
 revert H; refine B2 fun r9 H e9 => ?_
 cases e9; cases Hr4
 revert H; refine B3 fun r10 H e10 => ?_
 cases e10; cases Hr3
 cases H
 refine aJ [] (by decide) ?_
 exact To
 refine Yg c14 (cI 1 rfl hh (fa rfl) rfl) ?_
 refine Yh 0 rfl c14 (bY rfl hh (sc rfl) rfl Ent.rfl) ?_
 refine Yg c14 (fR rfl hh (us rfl)) ?_
 refine Yg c14 (uQ rfl hh hh) ?_
 refine Yy (cM rfl hh c14 hh) ?_
 revert H; refine I1 (fun c15 H => ?_) fun c15 H => ?_
 refine Yt c15 ?_
 refine Yt c15 ?_
 refine Yt c15 ?_
 refine Yt c15 ?_
 refine Yy (dI rfl hh c15 hh) ?_
 revert H; refine B8 fun r11 H e11 => ?_
 cases e11; cases Hr4
 revert H; refine B3 fun r12 H e12 => ?_
 cases e12; cases Hr3
 cases H
 refine aJ [] (by decide) ?_
 exact To
 refine Yg c15 (cI 1 rfl hh (fa rfl) rfl) ?_
 refine Yh 0 rfl c15 (bY rfl hh (sc rfl) rfl Ent.rfl) ?_
 refine Yg c15 (fR rfl hh (us rfl)) ?_
 refine Yg c15 (gV rfl hh hh) ?_
 refine Yy (cM rfl hh c15 hh) ?_
 revert H; refine I1 (fun c16 H => ?_) fun c16 H => ?_
 refine dB (has rfl) c16 ?_
 revert H; refine B6 fun r13 H e13 => ?_
 cases e13; cases Hr4
 revert H; refine B3 fun r14 H e14 => ?_
 cases e14; cases Hr3
 cases H
 refine aJ [] (by decide) ?_
 exact To
 refine dF (has rfl) c16 ?_
 refine Z6 ?_
 refine Tl (ι := Nat × List Bool × Int) (fun i => kI fuel a0 y8 i.1 i.2.1 i.2.2 = _) (fun i => i.1) (fun i => [(1, fEq (ptr b1)), (5, fEq v1), (6, aA .i64 x9), (7, fEq (ptr b3)), (8, aA .i64 i.2.2)]) (fun i => [aC b3 105 [aA .i64 y8.At, fSl (aB .i64) y8.Joins, aA .i64 y8.Node], aC b1 99 [fSl bC a0.Chans, fSl bV a0.Spots, fSl bH a0.Rules], aE v1 4 cA i.2.1]) (fuel, x8, 0) H ?_
 clear H; rintro ⟨k4, x13, x14⟩ H
 replace H : kI fuel a0 y8 k4 x13 x14 = _ := H
 try dsimp only
 obtain _ | k4 := k4
 rw [kI] at H; cases H
 rw [kI] at H
 refine aG ?_
 revert H; refine I7 (fun c17 H => ?_) fun c17 H => ?_
 refine dB (has rfl) c17 ?_
 revert H; refine B2 fun o5 H Hr5 => ?_
 refine aW (ι := List Bool) (fun i => o5 = Sum.inl i) (fun i => [(1, fEq (ptr b1)), (5, fEq v1), (6, aA .i64 x9), (7, fEq (ptr b3)), (8, aA .i64 x14)]) (fun i => [aC b3 105 [aA .i64 y8.At, fSl (aB .i64) y8.Joins, aA .i64 y8.Node], aC b1 99 [fSl bC a0.Chans, fSl bV a0.Spots, fSl bH a0.Rules], aE v1 4 cA i]) ?_ ?_
 revert H; refine B5 fun y9 h11 H => ?_
 refine Yy (cB rfl hh hh (el rfl) h11) ?_
 refine Z3 ?_
 refine aG ?_
 refine aG ?_
 revert H; refine is (fun c18 H => ?_) fun c18 H => ?_
 apply bE (ods := [_, _, _, _, _, _, _, _, _, _, _, _, _, _, _, _, _, _, _, _]) 20 0 3 bF rfl rfl rfl
 refine ND ?_
 refine M3 ?_
 intros
 refine Mt c18 fun _ => ?_
 refine Mt c18 fun _ => ?_
 refine Mt c18 fun _ => ?_
 refine Mt c18 fun _ => ?_
 refine Mt c18 fun _ => ?_
 refine My (dI rfl hh c18 hh) fun _ => ?_
 refine M8 ?_
 intros
 refine M3 ?_
 intros
 revert H; refine B9 fun r15 H e15 => ?_
 cases e15; cases Hr5
 revert H; refine B4 fun r16 H e16 => ?_
 cases e16; cases Hr4
 revert H; refine B3 fun r17 H e17 => ?_
 cases e17; cases Hr3
 cases H
 refine aJ [] (by decide) ?_
 exact To
 exact fk
 kernel_rfl
 revert H; refine is (fun c19 H => ?_) fun c19 H => ?_
 apply bE (ods := [_, _, _, _, _, _, _, _, _, _, _, _, _, _, _, _, _, _, _, _]) 20 0 3 bF rfl rfl rfl
 refine ND ?_
 refine M3 ?_
 intros
 refine Mg c18 (bW rfl hh) fun _ => ?_
 refine Mg c18 (cI 0 rfl hh (fa rfl) rfl) fun _ => ?_
 refine eF (od := odC [1] false (fSl bC a0.Chans) [dK]) (ps := [1]) (φ := fSl bC a0.Chans) rfl (fun _ => rfl) ⟨_, _, rfl, rfl, c18⟩ rfl rfl (bY rfl (has rfl) (sc rfl) rfl Ent.rfl) (fun _ => ?_)
 refine Mg c18 (fR rfl hh (us rfl)) fun _ => ?_
 refine Mg c18 (pL rfl hh hh) fun _ => ?_
 refine My (cM rfl hh c18 hh) fun _ => ?_
 refine M1 ?_
 intros
 refine Mt c19 fun _ => ?_
 refine Mt c19 fun _ => ?_
 refine Mt c19 fun _ => ?_
 refine Mt c19 fun _ => ?_
 refine Mt c19 fun _ => ?_
 refine Mt c19 fun _ => ?_
 refine Mt c19 fun _ => ?_
 refine Mt c19 fun _ => ?_
 refine Mt c19 fun _ => ?_
 refine My (dI rfl hh c19 hh) fun _ => ?_
 revert H; refine B9 fun r18 H e18 => ?_
 cases e18; cases Hr5
 revert H; refine B4 fun r19 H e19 => ?_
 cases e19; cases Hr4
 revert H; refine B3 fun r20 H e20 => ?_
 cases e20; cases Hr3
 cases H
 refine aJ [] (by decide) ?_
 exact To
 exact fk
 kernel_rfl
 revert H; refine bs fun y10 h12 H => ?_
 apply bE (ods := [_, _, _, _, _, _, _, _, _, _, _, _, _, _, _, _, _, _, _, _]) 20 0 3 bF rfl rfl rfl
 refine ND ?_
 refine M3 ?_
 intros
 refine Mg c18 (bW rfl hh) fun _ => ?_
 refine Mg c18 (cI 0 rfl hh (fa rfl) rfl) fun _ => ?_
 refine eF (od := odC [1] false (fSl bC a0.Chans) [dK]) (ps := [1]) (φ := fSl bC a0.Chans) rfl (fun _ => rfl) ⟨_, _, rfl, rfl, c18⟩ rfl rfl (bY rfl (has rfl) (sc rfl) rfl Ent.rfl) (fun _ => ?_)
 refine Mg c18 (fR rfl hh (us rfl)) fun _ => ?_
 refine Mg c18 (pL rfl hh hh) fun _ => ?_
 refine My (cM rfl hh c18 hh) fun _ => ?_
 refine M1 ?_
 intros
 refine Mg c19 (cI 0 rfl hh (fa rfl) rfl) fun _ => ?_
 refine eF (od := odC [1] false (fSl bC a0.Chans) [dK]) (ps := [1]) (φ := fSl bC a0.Chans) rfl (fun _ => rfl) ⟨_, _, rfl, rfl, c19⟩ rfl rfl (bY rfl (has rfl) (sc rfl) rfl Ent.rfl) (fun _ => ?_)
 refine Mg c19 (bW rfl hh) fun _ => ?_
 refine Mg c19 (cB rfl hh hh (el rfl) h12) fun _ => ?_
 refine Mg c19 (fU (t' := (aB .i64)) (z := y10.At) rfl hh (fa rfl) rfl) fun _ => ?_
 refine Mg c19 (fD rfl hh (sc rfl) rfl) fun _ => ?_
 refine Mg c19 (cI 0 rfl hh (fa rfl) rfl) fun _ => ?_
 refine eF (od := odC [0] false (aA .i64 y8.At) [dK]) (ps := [0]) (φ := aA .i64 y8.At) rfl (fun _ => rfl) ⟨_, _, rfl, rfl, c19⟩ rfl rfl (bY rfl (has rfl) (sc rfl) rfl Ent.rfl) (fun _ => ?_)
 refine Mg c19 (rL rfl hh hh) fun _ => ?_
 refine My (cM rfl hh c19 hh) fun _ => ?_
 revert H; refine I2 (fun c20 H => ?_) fun c20 H => ?_
 refine dB (has rfl) c20 ?_
 revert H; refine B6 fun r21 H e21 => ?_
 cases e21; cases Hr5
 revert H; refine B4 fun r22 H e22 => ?_
 cases e22; cases Hr4
 revert H; refine B3 fun r23 H e23 => ?_
 cases e23; cases Hr3
 cases H
 refine aJ [] (by decide) ?_
 exact To
 refine dF (has rfl) c20 ?_
 revert H; refine B2 fun o6 H Hr6 => ?_
 refine aW (ι := Unit) (fun i => o6 = Sum.inl ()) (fun i => [(1, fEq (ptr b1)), (5, fEq v1), (6, aA .i64 x9), (7, fEq (ptr b3)), (8, aA .i64 x14), (9, aA .i64 y9)]) (fun i => [aC b3 105 [aA .i64 y8.At, fSl (aB .i64) y8.Joins, aA .i64 y8.Node], aC b1 99 [fSl bC a0.Chans, fSl bV a0.Spots, fSl bH a0.Rules], aE v1 4 cA x13]) ?_ ?_
 refine Z4 ?_
 refine Tl (ι := Nat × Int) (fun i => pB y8 x14 y9 i.1 i.2 = _) (fun i => i.1) (fun i => [(1, fEq (ptr b1)), (5, fEq v1), (6, aA .i64 x9), (7, fEq (ptr b3)), (8, aA .i64 x14), (9, aA .i64 y9), (10, aA .i64 i.2)]) (fun i => [aC b3 105 [aA .i64 y8.At, fSl (aB .i64) y8.Joins, aA .i64 y8.Node], aC b1 99 [fSl bC a0.Chans, fSl bV a0.Spots, fSl bH a0.Rules], aE v1 4 cA x13]) (fuel, 0) H ?_
 clear H; rintro ⟨k5, x17⟩ H
 replace H : pB y8 x14 y9 k5 x17 = _ := H
 try dsimp only
 obtain _ | k5 := k5
 rw [pB] at H; cases H
 rw [pB] at H
 refine aG ?_
 revert H; refine I5 (fun c21 H => ?_) fun c21 H => ?_
 refine dB (has rfl) c21 ?_
 refine Z2 ?_
 refine aG ?_
 revert H; refine B5 fun y11 h13 H => ?_
 refine Yy (cB rfl hh hh (el rfl) h13) ?_
 revert H; refine I4 (fun c22 H => ?_) fun c22 H => ?_
 refine dB (has rfl) c22 ?_
 revert H; refine B9 fun r24 H e24 => ?_
 cases e24; cases Hr6
 revert H; refine B2 fun r25 H e25 => ?_
 cases e25; cases Hr5
 revert H; refine B4 fun r26 H e26 => ?_
 cases e26; cases Hr4
 revert H; refine B3 fun r27 H e27 => ?_
 cases e27; cases Hr3
 cases H
 refine aJ [] (by decide) ?_
 exact To
 refine dF (has rfl) c22 ?_
 revert H; refine B5 fun z3 h14 H => ?_
 refine Yy (fF rfl hh hh h14) ?_
 refine Z2 ?_
 exact Tm ((k5, z3)) ⟨H, ls⟩
 refine dF (has rfl) c21 ?_
 refine Z5 ?_
 exact Tm (()) (ij H)
 clear H; intro i hi; subst o6; have H := Hr6; clear Hr6; try dsimp only at H
 try dsimp only
 revert H; refine B3 fun y12 h15 H => ?_
 refine Yo 2 rfl (kH rfl hh hh (el rfl) h15) ?_
 refine eB ?_
 refine tR (z' := true) trivial rfl rfl rfl (has rfl) (has rfl) (aD trivial) (sz rfl) (bN h15) rfl rfl ?_
 refine Z3 ?_
 refine aJ [1, 2, 0] (by decide) ?_
 exact Tm (x13.set y9.toNat true) (ij H)
 exact fk
 kernel_rfl
 clear H; intro x15 hi; subst o5; have H := Hr5; clear Hr5; try dsimp only at H
 try dsimp only
 revert H; refine B2 fun z4 h16 H => ?_
 refine Yy (fF rfl hh hh h16) ?_
 refine Z2 ?_
 exact Tm ((k4, x15, z4)) ⟨H, ls⟩
 refine dF (has rfl) c17 ?_
 refine Z6 ?_
 refine aJ [1, 2] (by decide) ?_
 exact Tm (x13) (ij H)
 clear H; intro x10 hi; subst o4; have H := Hr4; clear Hr4; try dsimp only at H
 try dsimp only
 revert H; refine B2 fun z5 h17 H => ?_
 refine Yy (fF rfl hh hh h17) ?_
 refine Z2 ?_
 exact Tm ((k3, x10, z5)) ⟨H, ls⟩
 refine dF (has rfl) c12 ?_
 refine Z5 ?_
 exact Tm (x8) (ij H)
 clear H; intro x5 hi; subst o3; have H := Hr3; clear Hr3; try dsimp only at H
 try dsimp only
 revert H; refine bs fun o7 H Hr7 => ?_
 refine aW (ι := Unit) (fun i => o7 = Sum.inl ()) (fun i => []) (fun i => [aC b1 99 [fSl bC a0.Chans, fSl bV a0.Spots, fSl bH a0.Rules]]) ?_ ?_
 refine Z4 ?_
 refine Tl (ι := Nat × Int) (fun i => oK x5 i.1 i.2 = _) (fun i => i.1) (fun i => [(5, fEq v1), (11, aA .i64 i.2)]) (fun i => [aC b1 99 [fSl bC a0.Chans, fSl bV a0.Spots, fSl bH a0.Rules], aE v1 4 cA x5]) (fuel, 0) H ?_
 clear H; rintro ⟨k6, x19⟩ H
 replace H : oK x5 k6 x19 = _ := H
 try dsimp only
 obtain _ | k6 := k6
 rw [oK] at H; cases H
 rw [oK] at H
 refine aG ?_
 revert H; refine I6 (fun c23 H => ?_) fun c23 H => ?_
 refine dB (has rfl) c23 ?_
 refine Z2 ?_
 refine aG ?_
 revert H; refine B4 fun y13 h18 H => ?_
 refine Yo 1 rfl (kH rfl hh hh (el rfl) h18) ?_
 refine Yo 1 rfl (iG rfl rfl hh (sc rfl) (bN h18) rfl) ?_
 refine Z2 ?_
 revert H; refine cs (fun c24 H => ?_) fun c24 H => ?_
 refine dF (has rfl) (oV c24) ?_
 revert H; refine B5 fun z6 h19 H => ?_
 refine Yy (fF rfl hh hh h19) ?_
 refine Z2 ?_
 exact Tm ((k6, z6)) ⟨H, ls⟩
 refine dB (has rfl) (oZ c24) ?_
 revert H; refine B9 fun r28 H e28 => ?_
 cases e28; cases Hr7
 cases H
 refine aJ [] (by decide) ?_
 exact To
 refine dF (has rfl) c23 ?_
 refine Z5 ?_
 refine aJ [0] (by decide) ?_
 exact Tm (()) (ij H)
 clear H; intro i hi; subst o7; have H := Hr7; clear Hr7; try dsimp only at H
 try dsimp only
 refine Z4 ?_
 cases H
 refine aJ [] (by decide) ?_
 exact To
end Go.Proofs.YtmnbfgeljmhekaaGreat
set_option maxRecDepth 100000
set_option maxHeartbeats 2000000
namespace Go.Proofs.YtmnbfgeljmhekaaGreat
open Go.SX Go.SW Go.Dt
attribute [local irreducible] Code.wpIn wpListIn Exit.then Exit.inBlock
def tC (a0 : Int) : Option (Int × Int × Bool) :=
 (if a0 = 1 then
  some (decide (a0 = 1))
 else
  some (decide (a0 = 7))).bind fun x1 =>
 bif x1 then
  some (0, 0, true)
 else
  if a0 = 2 then
   some ((-1), 0, true)
  else
   if a0 = 3 then
    some (0, 2, true)
   else
    if a0 = 5 then
     some (1, 2, true)
    else
     (if a0 = 4 then
      some (decide (a0 = 4))
     else
      if a0 = 6 then
       some (decide (a0 = 6))
      else
       some (decide (a0 = 8))).bind fun x2 =>
     bif x2 then
      some (0, 1, true)
     else
      some (0, 0, false)
theorem aIF  (a0 : Int) (r : Int × Int × Bool) (H : tC a0 = some r) : FnS Tryz.prog 104 [aA .i64 a0] [] (dH [aA .i64 r.1, aA .i64 r.2.1, aH r.2.2]) (fun _ => []) := by
 unfold tC at H
 refine bB Tryz.func104 rfl Tryz.ntmps104 rfl (fun β => ?_)
 refine Z5 ?_
 refine aG ?_
 revert H; refine B4 fun o1 H Hr1 => ?_
 refine aW (ι := Bool) (fun i => o1 = i) (fun i => [(5, aA .i64 a0), (6, aH i)]) (fun i => []) ?_ ?_
 revert H; refine I4 (fun c1 H => ?_) fun c1 H => ?_
 refine Z3 ?_
 exact Tm (decide (a0 = 1)) (ij H)
 refine Z5 ?_
 exact Tm (decide (a0 = 7)) (ij H)
 clear H; intro x1 hi; subst o1; have H := Hr1; clear Hr1; try dsimp only at H
 try dsimp only
 revert H; refine cs (fun c2 H => ?_) fun c2 H => ?_
 refine Z9 ?_
 cases H
 exact sM rfl (bM rfl) (bM rfl) (bM rfl) rfl
 revert H; refine I5 (fun c3 H => ?_) fun c3 H => ?_
 refine Z9 ?_
 cases H
 exact sM rfl (bM rfl) (bM rfl) (bM rfl) rfl
 revert H; refine I5 (fun c4 H => ?_) fun c4 H => ?_
 refine Z9 ?_
 cases H
 exact sM rfl (bM rfl) (bM rfl) (bM rfl) rfl
 revert H; refine I5 (fun c5 H => ?_) fun c5 H => ?_
 refine Z9 ?_
 cases H
 exact sM rfl (bM rfl) (bM rfl) (bM rfl) rfl
 revert H; refine B1 fun o2 H Hr2 => ?_
 refine aW (ι := Bool) (fun i => o2 = i) (fun i => [(15, aH i)]) (fun i => []) ?_ ?_
 revert H; refine I4 (fun c6 H => ?_) fun c6 H => ?_
 refine Z3 ?_
 exact Tm (decide (a0 = 4)) (ij H)
 revert H; refine I5 (fun c7 H => ?_) fun c7 H => ?_
 refine Z3 ?_
 exact Tm (decide (a0 = 6)) (ij H)
 refine Z5 ?_
 exact Tm (decide (a0 = 8)) (ij H)
 clear H; intro x2 hi; subst o2; have H := Hr2; clear Hr2; try dsimp only at H
 try dsimp only
 revert H; refine cs (fun c8 H => ?_) fun c8 H => ?_
 refine Z9 ?_
 cases H
 exact sM rfl (bM rfl) (bM rfl) (bM rfl) rfl
 refine Z10 ?_
 cases H
 exact sM rfl (bM rfl) (bM rfl) (bM rfl) rfl
def oS (rec_r03_expNodes : ScopeExp → Int → Option (Int)) (a0 : ScopeExp) (a1 : Int) : Nat → Int → Int → Option (Int)
| 0, _, _ => none
| k + 1, x4, x5 =>
 if x5 < (a0.Kids.length : Int) then
  if x4 ≤ a1 then
   (idx a0.Kids x5).bind fun y1 =>
   (chk (a1 - x4)).bind fun z1 =>
   (rec_r03_expNodes y1 z1).bind fun y2 =>
   (chk (x4 + y2)).bind fun z2 =>
   (chk (x5 + 1)).bind fun z3 =>
   oS rec_r03_expNodes a0 a1 k z2 z3
  else
   some x4
 else
  some x4
def mN : Nat → ScopeExp → Int → Option (Int)
| 0, _, _ => none
| fuel + 1, a0, a1 =>
 (oS (mN fuel) a0 a1 fuel 1 0).bind fun x1 =>
 some x1
theorem aHB : ∀ (fuel : Nat), (∀  (a0 : ScopeExp) (a1 : Int) (r : Int) (H : mN fuel a0 a1 = some r), FnS Tryz.prog 118 [fSt bA a0, aA .i64 a1] [] (aA .i64 r) (fun _ => [])) := by
 intro fuel
 induction fuel with
 | zero => exact fun a0 a1 r H => (by rw [mN] at H; cases H)
 | succ fuel ih =>
 have ih_r03_expNodes := ih
 refine ?_
 intro a0 a1 r H
 rw [mN] at H
 refine bB Tryz.func118 rfl Tryz.ntmps118 rfl (fun β => ?_)
 refine Z1 ?_
 refine Tn (cD rfl (has rfl) bJ) fun b1 => ?_
 revert H; refine B5 fun o1 H Hr1 => ?_
 refine aW (ι := Int) (fun i => o1 = i) (fun i => [(5, aA .i64 i)]) (fun i => [aC b1 56 [aA .i64 a0.Op, aA .i64 a0.N, fX a0.Kids]]) ?_ ?_
 refine Z4 ?_
 refine Tl (ι := Nat × Int × Int) (fun i => oS (mN fuel) a0 a1 i.1 i.2.1 i.2.2 = _) (fun i => i.1) (fun i => [(1, aA .i64 a1), (2, fEq (ptr b1)), (5, aA .i64 i.2.1), (6, aA .i64 i.2.2)]) (fun i => [aC b1 56 [aA .i64 a0.Op, aA .i64 a0.N, fX a0.Kids]]) (fuel, 1, 0) H ?_
 clear H; rintro ⟨k1, x4, x5⟩ H
 replace H : oS (mN fuel) a0 a1 k1 x4 x5 = _ := H
 try dsimp only
 obtain _ | k1 := k1
 rw [oS] at H; cases H
 rw [oS] at H
 refine aG ?_
 refine Z3 ?_
 refine Yo 0 rfl (bY rfl hh (sc rfl) rfl (jN iC)) ?_
 revert H; refine I3 (fun c1 H => ?_) fun c1 H => ?_
 revert H; refine I5 (fun c2 H => ?_) fun c2 H => ?_
 refine Z3 ?_
 refine aG ?_
 refine Z4 ?_
 refine Yo 0 rfl (bY rfl hh (sc rfl) rfl (jN iC)) ?_
 revert H; refine B1 fun y1 h1 H => ?_
 revert H; refine B4 fun z1 h2 H => ?_
 revert H; refine B1 fun y2 h3 H => ?_
 refine Tc (ih_r03_expNodes _ _ _ h3) ?_
 revert H; refine bs fun z2 h4 H => ?_
 revert H; refine B7 fun z3 h5 H => ?_
 refine Z3 ?_
 exact Tm ((k1, z2, z3)) ⟨H, ls⟩
 refine Z6 ?_
 exact Tm (x4) (ij H)
 refine Z11 ?_
 exact Tm (x4) (ij H)
 clear H; intro x1 hi; subst o1; have H := Hr1; clear Hr1; try dsimp only at H
 try dsimp only
 refine Z5 ?_
 cases H
 refine aJ [] (by decide) ?_
 exact To
def oC (rec_r03_expDepth : ScopeExp → Option (Int)) (a0 : ScopeExp) : Nat → Int → Int → Option (Int)
| 0, _, _ => none
| k + 1, x4, x5 =>
 if x5 < (a0.Kids.length : Int) then
  (idx a0.Kids x5).bind fun y1 =>
  (rec_r03_expDepth y1).bind fun y2 =>
  (chk (x5 + 1)).bind fun z1 =>
  oC rec_r03_expDepth a0 k (max x4 y2) z1
 else
  some x4
def mG : Nat → ScopeExp → Option (Int)
| 0, _ => none
| fuel + 1, a0 =>
 (oC (mG fuel) a0 fuel 0 0).bind fun x1 =>
 (chk (x1 + 1)).bind fun z2 =>
 some z2
theorem aFV : ∀ (fuel : Nat), (∀  (a0 : ScopeExp) (r : Int) (H : mG fuel a0 = some r), FnS Tryz.prog 119 [fSt bA a0] [] (aA .i64 r) (fun _ => [])) := by
 intro fuel
 induction fuel with
 | zero => exact fun a0 r H => (by rw [mG] at H; cases H)
 | succ fuel ih =>
 have ih_r03_expDepth := ih
 refine ?_
 intro a0 r H
 rw [mG] at H
 refine bB Tryz.func119 rfl Tryz.ntmps119 rfl (fun β => ?_)
 refine Z1 ?_
 refine Tn (cD rfl (has rfl) bJ) fun b1 => ?_
 revert H; refine B5 fun o1 H Hr1 => ?_
 refine aW (ι := Int) (fun i => o1 = i) (fun i => [(3, aA .i64 i)]) (fun i => [aC b1 56 [aA .i64 a0.Op, aA .i64 a0.N, fX a0.Kids]]) ?_ ?_
 refine Z4 ?_
 refine Tl (ι := Nat × Int × Int) (fun i => oC (mG fuel) a0 i.1 i.2.1 i.2.2 = _) (fun i => i.1) (fun i => [(1, fEq (ptr b1)), (3, aA .i64 i.2.1), (4, aA .i64 i.2.2)]) (fun i => [aC b1 56 [aA .i64 a0.Op, aA .i64 a0.N, fX a0.Kids]]) (fuel, 0, 0) H ?_
 clear H; rintro ⟨k1, x4, x5⟩ H
 replace H : oC (mG fuel) a0 k1 x4 x5 = _ := H
 try dsimp only
 obtain _ | k1 := k1
 rw [oC] at H; cases H
 rw [oC] at H
 refine aG ?_
 refine Z3 ?_
 refine Yo 0 rfl (bY rfl hh (sc rfl) rfl (jN iC)) ?_
 revert H; refine I3 (fun c1 H => ?_) fun c1 H => ?_
 refine Z3 ?_
 refine aG ?_
 refine Z4 ?_
 refine Yo 0 rfl (bY rfl hh (sc rfl) rfl (jN iC)) ?_
 revert H; refine B1 fun y1 h1 H => ?_
 revert H; refine B2 fun y2 h2 H => ?_
 refine Tc (ih_r03_expDepth _ _ h2) ?_
 refine Yy (o_max rfl hh hh) ?_
 revert H; refine B6 fun z1 h3 H => ?_
 refine Z3 ?_
 exact Tm ((k1, max x4 y2, z1)) ⟨H, ls⟩
 refine Z6 ?_
 exact Tm (x4) (ij H)
 clear H; intro x1 hi; subst o1; have H := Hr1; clear Hr1; try dsimp only at H
 try dsimp only
 revert H; refine B2 fun z2 h4 H => ?_
 refine Z4 ?_
 cases H
 refine aJ [] (by decide) ?_
 exact To
def pK : Nat → ScopeExp → Int → Option (Bool)
| 0, _, _ => none
| fuel + 1, a0, a1 =>
 if a0.Op = 1 then
  (if (a0.Kids.length : Int) = 0 then
   if (-1000000000) ≤ a0.N then
    some (decide (a0.N ≤ 1000000000))
   else
    some false
  else
   some false).bind fun x1 =>
  some x1
 else
  if a0.Op = 2 then
   (if (a0.Kids.length : Int) = 0 then
    if 0 ≤ a0.N then
     some (decide (a0.N < a1))
    else
     some false
   else
    some false).bind fun x2 =>
   some x2
  else
   if a0.Op < 3 then
    some false
   else
    if 7 < a0.Op then
     some false
    else
     if (a0.Kids.length : Int) ≠ 2 then
      some false
     else
      if a0.N ≠ 0 then
       some false
      else
       ((idx a0.Kids 0).bind fun y1 =>
       ((pK fuel) y1 a1).bind fun y2 =>
       bif y2 then
        (idx a0.Kids 1).bind fun y3 =>
        ((pK fuel) y3 a1).bind fun y4 =>
        some y4
       else
        some false).bind fun x3 =>
       some x3
theorem aIi : ∀ (fuel : Nat), (∀  (a0 : ScopeExp) (a1 : Int) (r : Bool) (H : pK fuel a0 a1 = some r), FnS Tryz.prog 120 [fSt bA a0, aA .i64 a1] [] (aH r) (fun _ => [])) := by
 intro fuel
 induction fuel with
 | zero => exact fun a0 a1 r H => (by rw [pK] at H; cases H)
 | succ fuel ih =>
 have ih_r03_expFormed := ih
 refine ?_
 intro a0 a1 r H
 rw [pK] at H
 refine bB Tryz.func120 rfl Tryz.ntmps120 rfl (fun β => ?_)
 refine Z1 ?_
 refine Tn (cD rfl (has rfl) bJ) fun b1 => ?_
 refine Z2 ?_
 refine aG ?_
 revert H; refine I7 (fun c1 H => ?_) fun c1 H => ?_
 revert H; refine B1 fun o1 H Hr1 => ?_
 refine aW (ι := Bool) (fun i => o1 = i) (fun i => [(4, aH i)]) (fun i => [aC b1 56 [aA .i64 a0.Op, aA .i64 a0.N, fX a0.Kids]]) ?_ ?_
 refine Z2 ?_
 refine Yo 0 rfl (bY rfl hh (sc rfl) rfl (jN iC)) ?_
 revert H; refine I3 (fun c2 H => ?_) fun c2 H => ?_
 revert H; refine I5 (fun c3 H => ?_) fun c3 H => ?_
 refine Z6 ?_
 exact Tm (decide (a0.N ≤ 1000000000)) (ij H)
 refine Z6 ?_
 exact Tm (false) (ij H)
 refine Z11 ?_
 exact Tm (false) (ij H)
 clear H; intro x1 hi; subst o1; have H := Hr1; clear Hr1; try dsimp only at H
 try dsimp only
 refine Z3 ?_
 cases H
 refine aJ [] (by decide) ?_
 exact To
 revert H; refine I7 (fun c4 H => ?_) fun c4 H => ?_
 revert H; refine B1 fun o2 H Hr2 => ?_
 refine aW (ι := Bool) (fun i => o2 = i) (fun i => [(4, aH i)]) (fun i => [aC b1 56 [aA .i64 a0.Op, aA .i64 a0.N, fX a0.Kids]]) ?_ ?_
 refine Z2 ?_
 refine Yo 0 rfl (bY rfl hh (sc rfl) rfl (jN iC)) ?_
 revert H; refine I3 (fun c5 H => ?_) fun c5 H => ?_
 revert H; refine I5 (fun c6 H => ?_) fun c6 H => ?_
 refine Z7 ?_
 exact Tm (decide (a0.N < a1)) (ij H)
 refine Z7 ?_
 exact Tm (false) (ij H)
 refine Z12 ?_
 exact Tm (false) (ij H)
 clear H; intro x2 hi; subst o2; have H := Hr2; clear Hr2; try dsimp only at H
 try dsimp only
 refine Z3 ?_
 cases H
 refine aJ [] (by decide) ?_
 exact To
 revert H; refine I6 (fun c7 H => ?_) fun c7 H => ?_
 refine Z12 ?_
 refine Z12 ?_
 cases H
 refine aJ [] (by decide) ?_
 exact To
 revert H; refine I5 (fun c8 H => ?_) fun c8 H => ?_
 refine Z12 ?_
 refine Z7 ?_
 cases H
 refine aJ [] (by decide) ?_
 exact To
 refine Z1 ?_
 refine Yh 0 rfl c8 (bY rfl hh (sc rfl) rfl (jN iC)) ?_
 revert H; refine I4 (fun c9 H => ?_) fun c9 H => ?_
 refine Z12 ?_
 refine Z1 ?_
 cases H
 refine aJ [] (by decide) ?_
 exact To
 revert H; refine I6 (fun c10 H => ?_) fun c10 H => ?_
 refine Z7 ?_
 cases H
 refine aJ [] (by decide) ?_
 exact To
 revert H; refine B4 fun o3 H Hr3 => ?_
 refine aW (ι := Bool) (fun i => o3 = i) (fun i => [(4, aH i)]) (fun i => [aC b1 56 [aA .i64 a0.Op, aA .i64 a0.N, fX a0.Kids]]) ?_ ?_
 refine Z2 ?_
 refine Yo 0 rfl (bY rfl hh (sc rfl) rfl (jN iC)) ?_
 revert H; refine bs fun y1 h1 H => ?_
 revert H; refine B3 fun y2 h2 H => ?_
 refine Tc (ih_r03_expFormed _ _ _ h2) ?_
 refine Z1 ?_
 revert H; refine cs (fun c11 H => ?_) fun c11 H => ?_
 refine Z1 ?_
 refine Yh 0 rfl c11 (bY rfl hh (sc rfl) rfl (jN iC)) ?_
 revert H; refine bs fun y3 h3 H => ?_
 revert H; refine B3 fun y4 h4 H => ?_
 refine Tc (ih_r03_expFormed _ _ _ h4) ?_
 refine Z3 ?_
 exact Tm (y4) (ij H)
 refine Z9 ?_
 exact Tm (false) (ij H)
 clear H; intro x3 hi; subst o3; have H := Hr3; clear Hr3; try dsimp only at H
 try dsimp only
 refine Z1 ?_
 cases H
 refine aJ [] (by decide) ?_
 exact To
def wK (fuel : Nat) (a0 : ScopeExp) (a1 : Int) : Option (Bool) :=
 ((mN fuel (⟨a0.Op, a0.N, a0.Kids⟩ : ScopeExp) 60).bind fun y1 =>
 if y1 ≤ 60 then
  (mG fuel (⟨a0.Op, a0.N, a0.Kids⟩ : ScopeExp)).bind fun y2 =>
  if y2 ≤ 12 then
   (pK fuel (⟨a0.Op, a0.N, a0.Kids⟩ : ScopeExp) a1).bind fun y3 =>
   some y3
  else
   some false
 else
  some false).bind fun x1 =>
 some x1
theorem aHI (fuel : Nat)  (a0 : ScopeExp) (a1 : Int) (r : Bool) (H : wK fuel a0 a1 = some r) : FnS Tryz.prog 105 [fSt bA a0, aA .i64 a1] [] (aH r) (fun _ => []) := by
 unfold wK at H
 refine bB Tryz.func105 rfl Tryz.ntmps105 rfl (fun β => ?_)
 refine Z1 ?_
 refine Tn (cD rfl (has rfl) bJ) fun b1 => ?_
 revert H; refine B2 fun o1 H Hr1 => ?_
 refine aW (ι := Bool) (fun i => o1 = i) (fun i => [(4, aH i)]) (fun i => [aC b1 56 [aA .i64 a0.Op, aA .i64 a0.N, fX a0.Kids]]) ?_ ?_
 revert H; refine B2 fun y1 h1 H => ?_
 refine Tc (aHB _ _ _ _ h1) ?_
 revert H; refine I2 (fun c1 H => ?_) fun c1 H => ?_
 revert H; refine B1 fun y2 h2 H => ?_
 refine Tc (aFV _ _ _ h2) ?_
 revert H; refine I3 (fun c2 H => ?_) fun c2 H => ?_
 revert H; refine B2 fun y3 h3 H => ?_
 refine Tc (aIi _ _ _ _ h3) ?_
 refine Z3 ?_
 exact Tm (y3) (ij H)
 refine Z6 ?_
 exact Tm (false) (ij H)
 refine Z11 ?_
 exact Tm (false) (ij H)
 clear H; intro x1 hi; subst o1; have H := Hr1; clear Hr1; try dsimp only at H
 try dsimp only
 refine Z1 ?_
 cases H
 refine aJ [] (by decide) ?_
 exact To
def uH (a0 : ScopeDef) : Option (Int) :=
 (chk ((a0.Chans.length : Int) + (a0.Spots.length : Int))).bind fun z1 =>
 some z1
theorem aIB  (a0 : ScopeDef) (r : Int) (H : uH a0 = some r) : FnS Tryz.prog 106 [fSt aI a0] [] (aA .i64 r) (fun _ => []) := by
 unfold uH at H
 refine bB Tryz.func106 rfl Tryz.ntmps106 rfl (fun β => ?_)
 refine Z1 ?_
 refine Tn (cD rfl (has rfl) bJ) fun b1 => ?_
 revert H; refine B9 fun z1 h1 H => ?_
 refine Z4 ?_
 cases H
 refine aJ [] (by decide) ?_
 exact To
def oN (a0 : ScopeDef) (a1 : ScopeRule) : Nat → Int → Int → Option (Int)
| 0, _, _ => none
| k + 1, x4, x5 =>
 if x5 < (a1.Joins.length : Int) then
  (idx a1.Joins x5).bind fun y1 =>
  (idx a0.Chans y1).bind fun y2 =>
  (chk (x4 + y2.Many)).bind fun z1 =>
  (chk (x5 + 1)).bind fun z2 =>
  oN a0 a1 k z1 z2
 else
  some x4
def wM (fuel : Nat) (a0 : ScopeDef) (a1 : ScopeRule) : Option (Int) :=
 (oN a0 a1 fuel 0 0).bind fun x1 =>
 some x1
theorem aGh (fuel : Nat)  (a0 : ScopeDef) (a1 : ScopeRule) (r : Int) (H : wM fuel a0 a1 = some r) : FnS Tryz.prog 121 [fSt aI a0, fSt bH a1] [] (aA .i64 r) (fun _ => []) := by
 unfold wM at H
 refine bB Tryz.func121 rfl Tryz.ntmps121 rfl (fun β => ?_)
 refine Z1 ?_
 refine Tn (cD rfl (has rfl) bJ) fun b1 => ?_
 refine Tn (cD rfl (has rfl) bJ) fun b2 => ?_
 revert H; refine B5 fun o1 H Hr1 => ?_
 refine aW (ι := Int) (fun i => o1 = i) (fun i => [(5, aA .i64 i)]) (fun i => [aC b2 105 [aA .i64 a1.At, fSl (aB .i64) a1.Joins, aA .i64 a1.Node], aC b1 99 [fSl bC a0.Chans, fSl bV a0.Spots, fSl bH a0.Rules]]) ?_ ?_
 refine Z4 ?_
 refine Tl (ι := Nat × Int × Int) (fun i => oN a0 a1 i.1 i.2.1 i.2.2 = _) (fun i => i.1) (fun i => [(2, fEq (ptr b1)), (3, fEq (ptr b2)), (5, aA .i64 i.2.1), (6, aA .i64 i.2.2)]) (fun i => [aC b2 105 [aA .i64 a1.At, fSl (aB .i64) a1.Joins, aA .i64 a1.Node], aC b1 99 [fSl bC a0.Chans, fSl bV a0.Spots, fSl bH a0.Rules]]) (fuel, 0, 0) H ?_
 clear H; rintro ⟨k1, x4, x5⟩ H
 replace H : oN a0 a1 k1 x4 x5 = _ := H
 try dsimp only
 obtain _ | k1 := k1
 rw [oN] at H; cases H
 rw [oN] at H
 refine aG ?_
 revert H; refine I7 (fun c1 H => ?_) fun c1 H => ?_
 refine Z3 ?_
 refine aG ?_
 revert H; refine B1 fun y1 h1 H => ?_
 revert H; refine bs fun y2 h2 H => ?_
 revert H; refine bs fun z1 h3 H => ?_
 apply bE (ods := [_, _, _, _, _, _, _, _, _, _, _, _, _]) 13 0 2 bF rfl rfl rfl
 refine ND ?_
 refine M8 ?_
 intros
 refine M5 ?_
 intros
 revert H; refine B6 fun z2 h4 H => ?_
 refine Z3 ?_
 exact Tm ((k1, z1, z2)) ⟨H, ls⟩
 exact fk
 kernel_rfl
 refine Z6 ?_
 exact Tm (x4) (ij H)
 clear H; intro x1 hi; subst o1; have H := Hr1; clear Hr1; try dsimp only at H
 try dsimp only
 refine Z5 ?_
 cases H
 refine aJ [] (by decide) ?_
 exact To
end Go.Proofs.YtmnbfgeljmhekaaGreat
set_option maxRecDepth 100000
set_option maxHeartbeats 2000000
namespace Go.Proofs.YtmnbfgeljmhekaaGreat
open Go.SX Go.SW Go.Dt
attribute [local irreducible] Code.wpIn wpListIn Exit.then Exit.inBlock
def jL (fuel : Nat) (a2 : Int) (y5 : ScopeNode) : Nat → Int → Bool → Option (Bool)
| 0, _, _ => none
| k + 1, x4, x5 =>
 if x4 < (y5.Args.length : Int) then
  (bif x5 then
   some true
  else
   (idx y5.Args x4).bind fun y7 =>
   (wK fuel y7 a2).bind fun y8 =>
   some (!y8)).bind fun x6 =>
  (chk (x4 + 1)).bind fun z2 =>
  jL fuel a2 y5 k z2 x6
 else
  some x5
def jB (rec_r03_look_node : Ref03_look → Int → Int → Option (Ref03_look)) (y5 : ScopeNode) (x7 : Int) : Nat → Int → (List ByteArray) → (List ScopeNode) → (List ScopeDef) → Int → (List Int) → (List Int) → (List Int) → Bool → Option (Ref03_look)
| 0, _, _, _, _, _, _, _, _, _ => none
| k + 1, x26, x27, x28, x29, x30, x31, x32, x33, x34 =>
 if x26 < (y5.Kids.length : Int) then
  bif x34 then
   some (⟨(⟨x27, x28, x29, x30⟩ : ScopeProg), x31, x32, x33, x34⟩ : Ref03_look)
  else
   (idx y5.Kids x26).bind fun y16 =>
   (rec_r03_look_node (⟨(⟨x27, x28, x29, x30⟩ : ScopeProg), x31, x32, x33, x34⟩ : Ref03_look) y16 x7).bind fun y17 =>
   (chk (x26 + 1)).bind fun z5 =>
   jB rec_r03_look_node y5 x7 k z5 y17.p.Free y17.p.Nodes y17.p.Defs y17.p.Main y17.sizes y17.owner y17.users y17.bad
 else
  some (⟨(⟨x27, x28, x29, x30⟩ : ScopeProg), x31, x32, x33, x34⟩ : Ref03_look)
def lN (fuel : Nat) (rec_r03_look_node : Ref03_look → Int → Int → Option (Ref03_look)) (a1 : ScopeDef) (a2 : Int) : Nat → Int → (List ByteArray) → (List ScopeNode) → (List ScopeDef) → Int → (List Int) → (List Int) → (List Int) → Bool → Option (List ByteArray × List ScopeNode × List ScopeDef × Int × List Int × List Int × List Int × Bool)
| 0, _, _, _, _, _, _, _, _, _ => none
| k + 1, x18, x19, x20, x21, x22, x23, x24, x25, x26 =>
 if x18 < (a1.Rules.length : Int) then
  bif x26 then
   some (x19, x20, x21, x22, x23, x24, x25, x26)
  else
   (idx a1.Rules x18).bind fun y1 =>
   (idx a1.Rules x18).bind fun y2 =>
   (wM fuel (⟨a1.Chans, a1.Spots, a1.Rules⟩ : ScopeDef) y2).bind fun y3 =>
   (chk (a2 + y3)).bind fun z1 =>
   (rec_r03_look_node (⟨(⟨x19, x20, x21, x22⟩ : ScopeProg), x23, x24, x25, x26⟩ : Ref03_look) y1.Node z1).bind fun y4 =>
   (chk (x18 + 1)).bind fun z2 =>
   lN fuel rec_r03_look_node a1 a2 k z2 y4.p.Free y4.p.Nodes y4.p.Defs y4.p.Main y4.sizes y4.owner y4.users y4.bad
 else
  some (x19, x20, x21, x22, x23, x24, x25, x26)
def lH (rec_r03_look_node : Ref03_look → Int → Int → Option (Ref03_look)) (a1 : ScopeDef) (a2 : Int) : Nat → Int → (List ByteArray) → (List ScopeNode) → (List ScopeDef) → Int → (List Int) → (List Int) → (List Int) → Bool → Option (Ref03_look)
| 0, _, _, _, _, _, _, _, _, _ => none
| k + 1, x36, x37, x38, x39, x40, x41, x42, x43, x44 =>
 if x36 < (a1.Spots.length : Int) then
  bif x44 then
   some (⟨(⟨x37, x38, x39, x40⟩ : ScopeProg), x41, x42, x43, x44⟩ : Ref03_look)
  else
   (idx a1.Spots x36).bind fun y5 =>
   (rec_r03_look_node (⟨(⟨x37, x38, x39, x40⟩ : ScopeProg), x41, x42, x43, x44⟩ : Ref03_look) y5.Node a2).bind fun y6 =>
   (chk (x36 + 1)).bind fun z3 =>
   lH rec_r03_look_node a1 a2 k z3 y6.p.Free y6.p.Nodes y6.p.Defs y6.p.Main y6.sizes y6.owner y6.users y6.bad
 else
  some (⟨(⟨x37, x38, x39, x40⟩ : ScopeProg), x41, x42, x43, x44⟩ : Ref03_look)
mutual
def eX : Nat → Ref03_look → Int → Int → Option (Ref03_look)
| 0, _, _, _ => none
| fuel + 1, a0, a1, a2 =>
 if a1 < 0 then
  some (⟨(⟨a0.p.Free, a0.p.Nodes, a0.p.Defs, a0.p.Main⟩ : ScopeProg), a0.sizes, a0.owner, a0.users, true⟩ : Ref03_look)
 else
  if (a0.p.Nodes.length : Int) ≤ a1 then
   some (⟨(⟨a0.p.Free, a0.p.Nodes, a0.p.Defs, a0.p.Main⟩ : ScopeProg), a0.sizes, a0.owner, a0.users, true⟩ : Ref03_look)
  else
   (idx a0.owner a1).bind fun y1 =>
   if 0 < y1 then
    some (⟨(⟨a0.p.Free, a0.p.Nodes, a0.p.Defs, a0.p.Main⟩ : ScopeProg), a0.sizes, a0.owner, a0.users, true⟩ : Ref03_look)
   else
    (idx a0.owner a1).bind fun y2 =>
    (chk (y2 + 1)).bind fun z1 =>
    (idx a0.owner a1).bind fun y3 =>
    (idx a0.sizes a1).bind fun y4 =>
    (idx a0.p.Nodes a1).bind fun y5 =>
    (tC y5.Op).bind fun y6 =>
    (bif !y6.2.2 then
     (some (⟨(⟨a0.p.Free, a0.p.Nodes, a0.p.Defs, a0.p.Main⟩ : ScopeProg), a0.sizes.set a1.toNat a2, a0.owner.set a1.toNat z1, a0.users, true⟩ : Ref03_look)).bind fun r => some (Sum.inr r)
    else
     if (y5.Kids.length : Int) ≠ y6.2.1 then
      (some (⟨(⟨a0.p.Free, a0.p.Nodes, a0.p.Defs, a0.p.Main⟩ : ScopeProg), a0.sizes.set a1.toNat a2, a0.owner.set a1.toNat z1, a0.users, true⟩ : Ref03_look)).bind fun r => some (Sum.inr r)
     else
      if y6.1 < 0 then
       if 3 < (y5.Args.length : Int) then
        (some (⟨(⟨a0.p.Free, a0.p.Nodes, a0.p.Defs, a0.p.Main⟩ : ScopeProg), a0.sizes.set a1.toNat a2, a0.owner.set a1.toNat z1, a0.users, true⟩ : Ref03_look)).bind fun r => some (Sum.inr r)
       else
        if 0 ≤ y6.1 then
         if (y5.Args.length : Int) ≠ y6.1 then
          (some (⟨(⟨a0.p.Free, a0.p.Nodes, a0.p.Defs, a0.p.Main⟩ : ScopeProg), a0.sizes.set a1.toNat a2, a0.owner.set a1.toNat z1, a0.users, true⟩ : Ref03_look)).bind fun r => some (Sum.inr r)
         else
          some (Sum.inl ())
        else
         some (Sum.inl ())
      else
       if 0 ≤ y6.1 then
        if (y5.Args.length : Int) ≠ y6.1 then
         (some (⟨(⟨a0.p.Free, a0.p.Nodes, a0.p.Defs, a0.p.Main⟩ : ScopeProg), a0.sizes.set a1.toNat a2, a0.owner.set a1.toNat z1, a0.users, true⟩ : Ref03_look)).bind fun r => some (Sum.inr r)
        else
         some (Sum.inl ())
       else
        some (Sum.inl ())).bind fun o => match o with
    | Sum.inr r => some r
    | Sum.inl _ =>
    (jL fuel a2 y5 fuel 0 a0.bad).bind fun x1 =>
    ((if y5.Op = 2 then
     some (decide (y5.Op = 2))
    else
     if y5.Op = 6 then
      some (decide (y5.Op = 6))
     else
      some (decide (y5.Op = 8))).bind fun x16 =>
    bif x16 then
     bif x1 then
      some (Sum.inl (a2, a0.p.Free, a0.p.Nodes, a0.p.Defs, a0.p.Main, a0.sizes.set a1.toNat a2, a0.owner.set a1.toNat z1, a0.users, true))
     else
      if y5.N < 0 then
       some (Sum.inl (a2, a0.p.Free, a0.p.Nodes, a0.p.Defs, a0.p.Main, a0.sizes.set a1.toNat a2, a0.owner.set a1.toNat z1, a0.users, true))
      else
       some (Sum.inl (a2, a0.p.Free, a0.p.Nodes, a0.p.Defs, a0.p.Main, a0.sizes.set a1.toNat a2, a0.owner.set a1.toNat z1, a0.users, decide (a2 ≤ y5.N)))
    else
     if y5.Op = 4 then
      if y5.N < 0 then
       (some (⟨(⟨a0.p.Free, a0.p.Nodes, a0.p.Defs, a0.p.Main⟩ : ScopeProg), a0.sizes.set a1.toNat a2, a0.owner.set a1.toNat z1, a0.users, true⟩ : Ref03_look)).bind fun r => some (Sum.inr r)
      else
       if (a0.p.Defs.length : Int) ≤ y5.N then
        (some (⟨(⟨a0.p.Free, a0.p.Nodes, a0.p.Defs, a0.p.Main⟩ : ScopeProg), a0.sizes.set a1.toNat a2, a0.owner.set a1.toNat z1, a0.users, true⟩ : Ref03_look)).bind fun r => some (Sum.inr r)
       else
        (idx a0.users y5.N).bind fun y9 =>
        if 0 < y9 then
         (some (⟨(⟨a0.p.Free, a0.p.Nodes, a0.p.Defs, a0.p.Main⟩ : ScopeProg), a0.sizes.set a1.toNat a2, a0.owner.set a1.toNat z1, a0.users, true⟩ : Ref03_look)).bind fun r => some (Sum.inr r)
        else
         (idx a0.users y5.N).bind fun y10 =>
         (chk (y10 + 1)).bind fun z3 =>
         (idx a0.users y5.N).bind fun y11 =>
         (idx a0.p.Defs y5.N).bind fun y12 =>
         (uH y12).bind fun y13 =>
         (chk (a2 + y13)).bind fun z4 =>
         (idx a0.p.Defs y5.N).bind fun y14 =>
         ((pC fuel) (⟨(⟨a0.p.Free, a0.p.Nodes, a0.p.Defs, a0.p.Main⟩ : ScopeProg), a0.sizes.set a1.toNat a2, a0.owner.set a1.toNat z1, a0.users.set y5.N.toNat z3, x1⟩ : Ref03_look) y14 z4).bind fun y15 =>
         some (Sum.inl (z4, y15.p.Free, y15.p.Nodes, y15.p.Defs, y15.p.Main, y15.sizes, y15.owner, y15.users, y15.bad))
     else
      bif x1 then
       some (Sum.inl (a2, a0.p.Free, a0.p.Nodes, a0.p.Defs, a0.p.Main, a0.sizes.set a1.toNat a2, a0.owner.set a1.toNat z1, a0.users, true))
      else
       some (Sum.inl (a2, a0.p.Free, a0.p.Nodes, a0.p.Defs, a0.p.Main, a0.sizes.set a1.toNat a2, a0.owner.set a1.toNat z1, a0.users, decide (y5.N ≠ 0)))).bind fun o => match o with
    | Sum.inr r => some r
    | Sum.inl (x7, x8, x9, x10, x11, x12, x13, x14, x15) =>
    jB (eX fuel) y5 x7 fuel 0 x8 x9 x10 x11 x12 x13 x14 x15
def pC : Nat → Ref03_look → ScopeDef → Int → Option (Ref03_look)
| 0, _, _, _ => none
| fuel + 1, a0, a1, a2 =>
 (lN fuel (eX fuel) a1 a2 fuel 0 a0.p.Free a0.p.Nodes a0.p.Defs a0.p.Main a0.sizes a0.owner a0.users a0.bad).bind fun (x1, x2, x3, x4, x5, x6, x7, x8) =>
 lH (eX fuel) a1 a2 fuel 0 x1 x2 x3 x4 x5 x6 x7 x8
end
theorem aGU : ∀ (fuel : Nat), (∀ (p0 : Nat) (a0 : Ref03_look) (a1 : Int) (a2 : Int) (r : Ref03_look) (H : eX fuel a0 a1 a2 = some r), FnS Tryz.prog 89 [fEq (.pointer (some ⟨p0, 0, none⟩)), aA .i64 a1, aA .i64 a2] [pM p0 a0] (dH []) (fun _ => [pM p0 r])) ∧ (∀ (p0 : Nat) (a0 : Ref03_look) (a1 : ScopeDef) (a2 : Int) (r : Ref03_look) (H : pC fuel a0 a1 a2 = some r), FnS Tryz.prog 107 [fEq (.pointer (some ⟨p0, 0, none⟩)), fSt aI a1, aA .i64 a2] [pM p0 a0] (dH []) (fun _ => [pM p0 r])) := by
 intro fuel
 induction fuel with
 | zero => exact ⟨fun p0 a0 a1 a2 r H => (by rw [eX] at H; cases H), fun p0 a0 a1 a2 r H => (by rw [pC] at H; cases H)⟩
 | succ fuel ih =>
 obtain ⟨ih_r03_look_node, ih_r03_look_def⟩ := ih
 refine ⟨?_, ?_⟩
 intro p0 a0 a1 a2 r H
 rw [eX] at H
 refine bB Tryz.func89 rfl Tryz.ntmps89 rfl (fun β => ?_)
 refine rB (fun v1 v2 v3 => ?_)
 refine aS 1 rfl (fun hc_v1 => ?_)
 refine aS 2 rfl (fun hc_v2 => ?_)
 refine aS 3 rfl (fun hc_v3 => ?_)
 refine aG ?_
 revert H; refine I4 (fun c1 H => ?_) fun c1 H => ?_
 refine Yt c1 ?_
 refine Yt c1 ?_
 refine Yt c1 ?_
 refine Yt c1 ?_
 refine Yt c1 ?_
 refine Yt c1 ?_
 refine Yt c1 ?_
 refine Yt c1 ?_
 refine Yy (dI rfl hh c1 hh) ?_
 refine Z12 ?_
 refine Z4 ?_
 refine cX (φs' := [fSl aN a0.p.Free, fSl aL a0.p.Nodes, fSl aI a0.p.Defs, aA .i64 a0.p.Main, fEq v1, fEq v2, fEq v3, aH true]) trivial rfl rfl (has rfl) (has rfl) (aD trivial) (sz rfl) rfl rfl ?_
 refine Z2 ?_
 refine fY (x := (⟨(⟨a0.p.Free, a0.p.Nodes, a0.p.Defs, a0.p.Main⟩ : ScopeProg), a0.sizes, a0.owner, a0.users, true⟩ : Ref03_look)) ?_
 cases H
 exact fG (.inl rfl) rfl rfl
 refine Yg c1 (bW rfl hh) ?_
 refine Yg c1 (bW rfl hh) ?_
 refine Yg c1 (kA rfl (has rfl) (fun m v h => ⟨_, h⟩)) ?_
 refine Yg c1 (cI 0 rfl hh (fa rfl) rfl) ?_
 refine Yg c1 (cI 1 rfl hh (fa rfl) rfl) ?_
 refine Yh 0 rfl c1 (bY rfl hh (sc rfl) rfl Ent.rfl) ?_
 refine Yg c1 (fR rfl hh (us rfl)) ?_
 refine Yg c1 (pL rfl hh hh) ?_
 refine Yy (cM rfl hh c1 hh) ?_
 revert H; refine I1 (fun c2 H => ?_) fun c2 H => ?_
 refine Yt c2 ?_
 refine Yt c2 ?_
 refine Yt c2 ?_
 refine Yt c2 ?_
 refine Yt c2 ?_
 refine Yt c2 ?_
 refine Yt c2 ?_
 refine Yt c2 ?_
 refine Yy (dI rfl hh c2 hh) ?_
 refine Z6 ?_
 refine cX (φs' := [fSl aN a0.p.Free, fSl aL a0.p.Nodes, fSl aI a0.p.Defs, aA .i64 a0.p.Main, fEq v1, fEq v2, fEq v3, aH true]) trivial rfl rfl (has rfl) (has rfl) (aD trivial) (sz rfl) rfl rfl ?_
 refine Z2 ?_
 refine fY (x := (⟨(⟨a0.p.Free, a0.p.Nodes, a0.p.Defs, a0.p.Main⟩ : ScopeProg), a0.sizes, a0.owner, a0.users, true⟩ : Ref03_look)) ?_
 cases H
 exact fG (.inl rfl) rfl rfl
 refine Yg c2 (bW rfl hh) ?_
 refine Yg c2 (kA rfl (has rfl) (fun m v h => ⟨_, h⟩)) ?_
 refine Yg c2 (cI 5 rfl hh (fa rfl) rfl) ?_
 refine Yh 0 rfl c2 (bY rfl hh (sc rfl) rfl Ent.rfl) ?_
 refine Yg c2 (bW rfl hh) ?_
 revert H; refine bs fun y1 h1 H => ?_
 refine Yh 2 rfl c2 (kH rfl hh hh (el rfl) h1) ?_
 refine Yh 2 rfl c2 (iG rfl rfl hh (sc rfl) (bN h1) rfl) ?_
 refine Yg c2 (gV rfl hh hh) ?_
 refine Yy (cM rfl hh c2 hh) ?_
 revert H; refine I1 (fun c3 H => ?_) fun c3 H => ?_
 refine dB (has rfl) c3 ?_
 refine Z4 ?_
 refine cX (φs' := [fSl aN a0.p.Free, fSl aL a0.p.Nodes, fSl aI a0.p.Defs, aA .i64 a0.p.Main, fEq v1, fEq v2, fEq v3, aH true]) trivial rfl rfl (has rfl) (has rfl) (aD trivial) (sz rfl) rfl rfl ?_
 refine Z2 ?_
 refine fY (x := (⟨(⟨a0.p.Free, a0.p.Nodes, a0.p.Defs, a0.p.Main⟩ : ScopeProg), a0.sizes, a0.owner, a0.users, true⟩ : Ref03_look)) ?_
 cases H
 exact fG (.inl rfl) rfl rfl
 refine dF (has rfl) c3 ?_
 revert H; refine B8 fun y2 h2 H => ?_
 refine Yo 2 rfl (kH rfl hh hh (el rfl) h2) ?_
 refine Yo 2 rfl (iG rfl rfl hh (sc rfl) (bN h2) rfl) ?_
 revert H; refine bs fun z1 h3 H => ?_
 refine Yy (fF rfl hh hh h3) ?_
 revert H; refine bs fun y3 h4 H => ?_
 refine Yo 2 rfl (kH rfl hh hh (el rfl) h4) ?_
 refine eB ?_
 refine tR (z' := z1) trivial rfl rfl rfl (has rfl) (has rfl) (aD trivial) (sz rfl) (bN h4) rfl rfl ?_
 revert H; refine B8 fun y4 h5 H => ?_
 refine Yo 2 rfl (kH rfl hh hh (el rfl) h5) ?_
 refine eB ?_
 refine tR (z' := a2) trivial rfl rfl rfl (has rfl) (has rfl) (aD trivial) (sz rfl) (bN h5) rfl rfl ?_
 revert H; refine B8 fun y5 h6 H => ?_
 refine Yy (cB rfl hh hh (el rfl) h6) ?_
 refine Z1 ?_
 refine Tn (cL rfl oT rfl) fun b1 => ?_
 refine dG (φs' := [aA .i64 y5.Op, aA .i64 y5.N, fSl bA y5.Args, fSl (aB .i64) y5.Kids]) trivial rfl rfl (has rfl) (has rfl) (aO (aD trivial) (aO (aD trivial) (aO (aZ) (aO (aZ) bX)))) (sz rfl) rfl rfl rfl ?_
 revert H; refine B4 fun y6 h7 H => ?_
 refine Tc (aIF _ _ h7) ?_
 revert H; refine B8 fun o1 H Hr1 => ?_
 refine aW (ι := Unit) (fun i => o1 = Sum.inl ()) (fun i => [(0, fEq (ptr p0)), (2, aA .i64 a2), (6, fEq (ptr b1))]) (fun i => [aC b1 51 [aA .i64 y5.Op, aA .i64 y5.N, fSl bA y5.Args, fSl (aB .i64) y5.Kids], aC p0 89 [fSl aN a0.p.Free, fSl aL a0.p.Nodes, fSl aI a0.p.Defs, aA .i64 a0.p.Main, fEq v1, fEq v2, fEq v3, aH a0.bad], aE v1 3 (aB .i64) (a0.sizes.set a1.toNat a2), aE v2 3 (aB .i64) (a0.owner.set a1.toNat z1), aE v3 3 (aB .i64) a0.users]) ?_ ?_
 refine Z4 ?_
 revert H; refine cs (fun c4 H => ?_) fun c4 H => ?_
 refine Yt c4 ?_
 refine Yt c4 ?_
 refine Yt c4 ?_
 refine Yt c4 ?_
 refine Yt c4 ?_
 refine Yy (dI rfl hh c4 hh) ?_
 refine Z4 ?_
 refine dP (⟨_, _, _, _, rfl, rfl, rfl, nu⟩) rfl rfl ?_
 refine dP (⟨_, _, _, _, rfl, rfl, rfl, nu⟩) rfl rfl ?_
 refine dP (⟨_, _, _, _, rfl, rfl, rfl, nu⟩) rfl rfl ?_
 refine dP (⟨_, _, _, _, rfl, rfl, rfl, nu⟩) rfl rfl ?_
 refine Z6 ?_
 refine dP (⟨_, _, _, _, rfl, rfl, rfl, nu⟩) rfl rfl ?_
 refine dP (⟨_, _, _, _, rfl, rfl, rfl, nu⟩) rfl rfl ?_
 refine dP (⟨_, _, _, _, rfl, rfl, rfl, nu⟩) rfl rfl ?_
 refine dP (⟨_, _, _, _, rfl, rfl, rfl, nu⟩) rfl rfl ?_
 refine dP (⟨_, _, _, _, rfl, rfl, rfl, nu⟩) rfl rfl ?_
 refine Z8 ?_
 refine dZ ?_
 refine cX (φs' := [fSl aN a0.p.Free, fSl aL a0.p.Nodes, fSl aI a0.p.Defs, aA .i64 a0.p.Main, fEq v1, fEq v2, fEq v3, aH true]) trivial rfl rfl (has rfl) (has rfl) (aD trivial) (sz rfl) rfl rfl ?_
 revert H; refine B2 fun r1 H e1 => ?_
 cases e1; cases Hr1
 refine bI ?_
 refine bI ?_
 refine bI ?_
 refine dZ ?_
 refine fY (x := (⟨(⟨a0.p.Free, a0.p.Nodes, a0.p.Defs, a0.p.Main⟩ : ScopeProg), a0.sizes.set a1.toNat a2, a0.owner.set a1.toNat z1, a0.users, true⟩ : Ref03_look)) ?_
 cases H
 refine aJ [0] (by decide) ?_
 exact fG (.inl rfl) rfl rfl
 refine Yg c4 (cI 3 rfl hh (fa rfl) rfl) ?_
 refine Yh 0 rfl c4 (bY rfl hh (sc rfl) rfl Ent.rfl) ?_
 refine Yg c4 (fR rfl hh (us rfl)) ?_
 refine Yg c4 (bW rfl hh) ?_
 refine Yg c4 (rL rfl hh hh) ?_
 refine Yy (cM rfl hh c4 hh) ?_
 revert H; refine I1 (fun c5 H => ?_) fun c5 H => ?_
 refine Yt c5 ?_
 refine Yt c5 ?_
 refine Yt c5 ?_
 refine dP (⟨_, _, _, _, rfl, rfl, rfl, nu⟩) rfl rfl ?_
 refine dP (⟨_, _, _, _, rfl, rfl, rfl, nu⟩) rfl rfl ?_
 refine dP (⟨_, _, _, _, rfl, rfl, rfl, nu⟩) rfl rfl ?_
 refine dP (⟨_, _, _, _, rfl, rfl, rfl, nu⟩) rfl rfl ?_
 refine Yt c5 ?_
 refine Yy (dI rfl hh c5 hh) ?_
 refine Z4 ?_
 refine dP (⟨_, _, _, _, rfl, rfl, rfl, nu⟩) rfl rfl ?_
 refine dP (⟨_, _, _, _, rfl, rfl, rfl, nu⟩) rfl rfl ?_
 refine dP (⟨_, _, _, _, rfl, rfl, rfl, nu⟩) rfl rfl ?_
 refine dP (⟨_, _, _, _, rfl, rfl, rfl, nu⟩) rfl rfl ?_
 refine dP (⟨_, _, _, _, rfl, rfl, rfl, nu⟩) rfl rfl ?_
 refine Z8 ?_
 refine dZ ?_
 refine cX (φs' := [fSl aN a0.p.Free, fSl aL a0.p.Nodes, fSl aI a0.p.Defs, aA .i64 a0.p.Main, fEq v1, fEq v2, fEq v3, aH true]) trivial rfl rfl (has rfl) (has rfl) (aD trivial) (sz rfl) rfl rfl ?_
 revert H; refine B2 fun r2 H e2 => ?_
 cases e2; cases Hr1
 refine bI ?_
 refine bI ?_
 refine bI ?_
 refine dZ ?_
 refine fY (x := (⟨(⟨a0.p.Free, a0.p.Nodes, a0.p.Defs, a0.p.Main⟩ : ScopeProg), a0.sizes.set a1.toNat a2, a0.owner.set a1.toNat z1, a0.users, true⟩ : Ref03_look)) ?_
 cases H
 refine aJ [0] (by decide) ?_
 exact fG (.inl rfl) rfl rfl
 refine Yg c5 (bW rfl hh) ?_
 refine Yg c5 (uQ rfl hh hh) ?_
 refine Yg c5 (bW rfl hh) ?_
 revert H; refine is (fun c6 H => ?_) fun c6 H => ?_
 refine Yg c6 (cI 2 rfl hh (fa rfl) rfl) ?_
 refine Yh 0 rfl c6 (bY rfl hh (sc rfl) rfl Ent.rfl) ?_
 refine Yg c6 (fR rfl hh (us rfl)) ?_
 refine Yg c6 (gV rfl hh hh) ?_
 refine Yg c5 (dI rfl hh c6 hh) ?_
 refine Yy (cM rfl hh c5 hh) ?_
 revert H; refine I1 (fun c7 H => ?_) fun c7 H => ?_
 refine Yt c7 ?_
 refine Yt c7 ?_
 refine Yt c7 ?_
 refine dP (⟨_, _, _, _, rfl, rfl, rfl, nu⟩) rfl rfl ?_
 refine dP (⟨_, _, _, _, rfl, rfl, rfl, nu⟩) rfl rfl ?_
 refine dP (⟨_, _, _, _, rfl, rfl, rfl, nu⟩) rfl rfl ?_
 refine dP (⟨_, _, _, _, rfl, rfl, rfl, nu⟩) rfl rfl ?_
 refine dP (⟨_, _, _, _, rfl, rfl, rfl, nu⟩) rfl rfl ?_
 refine Yt c7 ?_
 refine Yy (dI rfl hh c7 hh) ?_
 refine Z6 ?_
 refine dZ ?_
 refine cX (φs' := [fSl aN a0.p.Free, fSl aL a0.p.Nodes, fSl aI a0.p.Defs, aA .i64 a0.p.Main, fEq v1, fEq v2, fEq v3, aH true]) trivial rfl rfl (has rfl) (has rfl) (aD trivial) (sz rfl) rfl rfl ?_
 revert H; refine B2 fun r3 H e3 => ?_
 cases e3; cases Hr1
 refine bI ?_
 refine bI ?_
 refine bI ?_
 refine dZ ?_
 refine fY (x := (⟨(⟨a0.p.Free, a0.p.Nodes, a0.p.Defs, a0.p.Main⟩ : ScopeProg), a0.sizes.set a1.toNat a2, a0.owner.set a1.toNat z1, a0.users, true⟩ : Ref03_look)) ?_
 cases H
 refine aJ [0] (by decide) ?_
 exact fG (.inl rfl) rfl rfl
 refine Yg c7 (bW rfl hh) ?_
 refine Yg c7 (pL rfl hh hh) ?_
 refine Yg c7 (bW rfl hh) ?_
 revert H; refine is (fun c8 H => ?_) fun c8 H => ?_
 refine Yg c8 (cI 2 rfl hh (fa rfl) rfl) ?_
 refine Yh 0 rfl c8 (bY rfl hh (sc rfl) rfl Ent.rfl) ?_
 refine Yg c8 (fR rfl hh (us rfl)) ?_
 refine Yg c8 (bW rfl hh) ?_
 refine Yg c8 (rL rfl hh hh) ?_
 refine Yg c7 (dI rfl hh c8 hh) ?_
 refine Yy (cM rfl hh c7 hh) ?_
 revert H; refine I1 (fun c9 H => ?_) fun c9 H => ?_
 refine dB (has rfl) c9 ?_
 refine Z4 ?_
 refine dZ ?_
 refine cX (φs' := [fSl aN a0.p.Free, fSl aL a0.p.Nodes, fSl aI a0.p.Defs, aA .i64 a0.p.Main, fEq v1, fEq v2, fEq v3, aH true]) trivial rfl rfl (has rfl) (has rfl) (aD trivial) (sz rfl) rfl rfl ?_
 revert H; refine B2 fun r4 H e4 => ?_
 cases e4; cases Hr1
 refine bI ?_
 refine bI ?_
 refine bI ?_
 refine dZ ?_
 refine fY (x := (⟨(⟨a0.p.Free, a0.p.Nodes, a0.p.Defs, a0.p.Main⟩ : ScopeProg), a0.sizes.set a1.toNat a2, a0.owner.set a1.toNat z1, a0.users, true⟩ : Ref03_look)) ?_
 cases H
 refine aJ [0] (by decide) ?_
 exact fG (.inl rfl) rfl rfl
 refine dF (has rfl) c9 ?_
 refine Z2 ?_
 refine aJ [0, 3, 1, 2, 4] (by decide) ?_
 exact Tm (()) (ij H)
 refine Yf c8 ?_
 refine Yf c8 ?_
 refine Yf c8 ?_
 refine Yf c8 ?_
 refine Yf c8 ?_
 refine Yg c7 (cM rfl hh c8 hh) ?_
 refine Yy (cM rfl hh c7 hh) ?_
 refine Z4 ?_
 refine aJ [0, 3, 1, 2, 4] (by decide) ?_
 exact Tm (()) (ij H)
 refine Yf c6 ?_
 refine Yf c6 ?_
 refine Yf c6 ?_
 refine Yf c6 ?_
 refine Yg c5 (cM rfl hh c6 hh) ?_
 refine Yy (cM rfl hh c5 hh) ?_
 revert H; refine I4 (fun c10 H => ?_) fun c10 H => ?_
 refine Yg c10 (cI 2 rfl hh (fa rfl) rfl) ?_
 refine Yh 0 rfl c10 (bY rfl hh (sc rfl) rfl Ent.rfl) ?_
 refine Yg c10 (fR rfl hh (us rfl)) ?_
 refine Yg c10 (bW rfl hh) ?_
 refine Yg c10 (rL rfl hh hh) ?_
 refine Yg rfl (dI rfl hh c10 hh) ?_
 revert H; refine I2 (fun c11 H => ?_) fun c11 H => ?_
 refine dB (has rfl) c11 ?_
 refine Z4 ?_
 refine dZ ?_
 refine cX (φs' := [fSl aN a0.p.Free, fSl aL a0.p.Nodes, fSl aI a0.p.Defs, aA .i64 a0.p.Main, fEq v1, fEq v2, fEq v3, aH true]) trivial rfl rfl (has rfl) (has rfl) (aD trivial) (sz rfl) rfl rfl ?_
 revert H; refine B2 fun r5 H e5 => ?_
 cases e5; cases Hr1
 refine bI ?_
 refine bI ?_
 refine bI ?_
 refine dZ ?_
 refine fY (x := (⟨(⟨a0.p.Free, a0.p.Nodes, a0.p.Defs, a0.p.Main⟩ : ScopeProg), a0.sizes.set a1.toNat a2, a0.owner.set a1.toNat z1, a0.users, true⟩ : Ref03_look)) ?_
 cases H
 refine aJ [0] (by decide) ?_
 exact fG (.inl rfl) rfl rfl
 refine dF (has rfl) c11 ?_
 refine Z2 ?_
 refine aJ [0, 3, 1, 2, 4] (by decide) ?_
 exact Tm (()) (ij H)
 refine Yf c10 ?_
 refine Yf c10 ?_
 refine Yf c10 ?_
 refine Yf c10 ?_
 refine Yf c10 ?_
 refine Yg rfl (cM rfl hh c10 hh) ?_
 refine Z5 ?_
 refine aJ [0, 3, 1, 2, 4] (by decide) ?_
 exact Tm (()) (ij H)
 clear H; intro i hi; subst o1; have H := Hr1; clear Hr1; try dsimp only at H
 try dsimp only
 revert H; refine bs fun o2 H Hr2 => ?_
 refine aW (ι := Bool) (fun i => o2 = i) (fun i => [(0, fEq (ptr p0)), (2, aA .i64 a2), (6, fEq (ptr b1))]) (fun i => [aC b1 51 [aA .i64 y5.Op, aA .i64 y5.N, fSl bA y5.Args, fSl (aB .i64) y5.Kids], aC p0 89 [fSl aN a0.p.Free, fSl aL a0.p.Nodes, fSl aI a0.p.Defs, aA .i64 a0.p.Main, fEq v1, fEq v2, fEq v3, aH i], aE v1 3 (aB .i64) (a0.sizes.set a1.toNat a2), aE v2 3 (aB .i64) (a0.owner.set a1.toNat z1), aE v3 3 (aB .i64) a0.users]) ?_ ?_
 refine Z4 ?_
 refine Tl (ι := Nat × Int × Bool) (fun i => jL fuel a2 y5 i.1 i.2.1 i.2.2 = _) (fun i => i.1) (fun i => [(0, fEq (ptr p0)), (2, aA .i64 a2), (6, fEq (ptr b1)), (10, aA .i64 i.2.1)]) (fun i => [aC b1 51 [aA .i64 y5.Op, aA .i64 y5.N, fSl bA y5.Args, fSl (aB .i64) y5.Kids], aC p0 89 [fSl aN a0.p.Free, fSl aL a0.p.Nodes, fSl aI a0.p.Defs, aA .i64 a0.p.Main, fEq v1, fEq v2, fEq v3, aH i.2.2], aE v1 3 (aB .i64) (a0.sizes.set a1.toNat a2), aE v2 3 (aB .i64) (a0.owner.set a1.toNat z1), aE v3 3 (aB .i64) a0.users]) (fuel, 0, a0.bad) H ?_
 clear H; rintro ⟨k1, x4, x5⟩ H
 replace H : jL fuel a2 y5 k1 x4 x5 = _ := H
 try dsimp only
 obtain _ | k1 := k1
 rw [jL] at H; cases H
 rw [jL] at H
 refine aG ?_
 revert H; refine I7 (fun c12 H => ?_) fun c12 H => ?_
 refine dB (has rfl) c12 ?_
 revert H; refine B2 fun o3 H Hr3 => ?_
 refine aW (ι := Bool) (fun i => o3 = i) (fun i => [(0, fEq (ptr p0)), (2, aA .i64 a2), (6, fEq (ptr b1)), (10, aA .i64 x4)]) (fun i => [aC p0 89 [fSl aN a0.p.Free, fSl aL a0.p.Nodes, fSl aI a0.p.Defs, aA .i64 a0.p.Main, fEq v1, fEq v2, fEq v3, aH i], aC b1 51 [aA .i64 y5.Op, aA .i64 y5.N, fSl bA y5.Args, fSl (aB .i64) y5.Kids], aE v1 3 (aB .i64) (a0.sizes.set a1.toNat a2), aE v2 3 (aB .i64) (a0.owner.set a1.toNat z1), aE v3 3 (aB .i64) a0.users]) ?_ ?_
 refine Z8 ?_
 revert H; refine cs (fun c13 H => ?_) fun c13 H => ?_
 refine Yt c13 ?_
 refine Yt c13 ?_
 refine Yt c13 ?_
 refine Yt c13 ?_
 refine Yt c13 ?_
 refine Yt c13 ?_
 refine Yt c13 ?_
 refine Yt c13 ?_
 refine Yy (dI rfl hh c13 hh) ?_
 refine Z2 ?_
 refine cU ?_
 refine cX (φs' := [fSl aN a0.p.Free, fSl aL a0.p.Nodes, fSl aI a0.p.Defs, aA .i64 a0.p.Main, fEq v1, fEq v2, fEq v3, aH true]) trivial rfl rfl (has rfl) (has rfl) (aD trivial) (sz rfl) rfl rfl ?_
 refine Z3 ?_
 exact Tm (true) (ij H)
 refine Yg c13 (cI 2 rfl hh (fa rfl) rfl) ?_
 refine Yh 0 rfl c13 (bY rfl hh (sc rfl) rfl Ent.rfl) ?_
 refine Yg c13 (bW rfl hh) ?_
 revert H; refine bs fun y7 h8 H => ?_
 refine Yg c13 (cB rfl hh hh (el rfl) h8) ?_
 refine Yg c13 (aA9 rfl hh (ag rfl)) ?_
 refine Yg c13 (bW rfl hh) ?_
 revert H; refine bs fun y8 h9 H => ?_
 refine Tc (aHI _ _ _ _ h9) ?_
 refine Yg c13 (kE rfl hh) ?_
 refine Yy (cM rfl hh c13 hh) ?_
 refine Z2 ?_
 refine cU ?_
 refine cX (φs' := [fSl aN a0.p.Free, fSl aL a0.p.Nodes, fSl aI a0.p.Defs, aA .i64 a0.p.Main, fEq v1, fEq v2, fEq v3, aH (!y8)]) trivial rfl rfl (has rfl) (has rfl) (aD trivial) (sz rfl) rfl rfl ?_
 refine Z3 ?_
 exact Tm (!y8) (ij H)
 clear H; intro x6 hi; subst o3; have H := Hr3; clear Hr3; try dsimp only at H
 try dsimp only
 revert H; refine B2 fun z2 h10 H => ?_
 refine Yy (fF rfl hh hh h10) ?_
 refine Z2 ?_
 refine aJ [1, 0, 2, 3, 4] (by decide) ?_
 exact Tm ((k1, z2, x6)) ⟨H, ls⟩
 refine dF (has rfl) c12 ?_
 refine Z5 ?_
 exact Tm (x5) (ij H)
 clear H; intro x1 hi; subst o2; have H := Hr2; clear Hr2; try dsimp only at H
 try dsimp only
 revert H; refine B4 fun o4 H Hr4 => ?_
 refine aW (ι := Int × List ByteArray × List ScopeNode × List ScopeDef × Int × List Int × List Int × List Int × Bool × Value × Value × Value) (fun i => o4 = Sum.inl (i.1, i.2.1, i.2.2.1, i.2.2.2.1, i.2.2.2.2.1, i.2.2.2.2.2.1, i.2.2.2.2.2.2.1, i.2.2.2.2.2.2.2.1, i.2.2.2.2.2.2.2.2.1)) (fun i => [(0, fEq (ptr p0)), (6, fEq (ptr b1)), (11, aA .i64 i.1)]) (fun i => [aC p0 89 [fSl aN i.2.1, fSl aL i.2.2.1, fSl aI i.2.2.2.1, aA .i64 i.2.2.2.2.1, fEq i.2.2.2.2.2.2.2.2.2.1, fEq i.2.2.2.2.2.2.2.2.2.2.1, fEq i.2.2.2.2.2.2.2.2.2.2.2, aH i.2.2.2.2.2.2.2.2.1], aC b1 51 [aA .i64 y5.Op, aA .i64 y5.N, fSl bA y5.Args, fSl (aB .i64) y5.Kids], aE i.2.2.2.2.2.2.2.2.2.1 3 (aB .i64) i.2.2.2.2.2.1, aE i.2.2.2.2.2.2.2.2.2.2.1 3 (aB .i64) i.2.2.2.2.2.2.1, aE i.2.2.2.2.2.2.2.2.2.2.2 3 (aB .i64) i.2.2.2.2.2.2.2.1]) ?_ ?_
 revert H; refine B5 fun o5 H Hr5 => ?_
 refine aW (ι := Bool) (fun i => o5 = i) (fun i => [(0, fEq (ptr p0)), (2, aA .i64 a2), (6, fEq (ptr b1)), (11, aA .i64 a2), (128, aA .i64 y5.Op), (141, aH i)]) (fun i => [aC b1 51 [aA .i64 y5.Op, aA .i64 y5.N, fSl bA y5.Args, fSl (aB .i64) y5.Kids], aC p0 89 [fSl aN a0.p.Free, fSl aL a0.p.Nodes, fSl aI a0.p.Defs, aA .i64 a0.p.Main, fEq v1, fEq v2, fEq v3, aH x1], aE v1 3 (aB .i64) (a0.sizes.set a1.toNat a2), aE v2 3 (aB .i64) (a0.owner.set a1.toNat z1), aE v3 3 (aB .i64) a0.users]) ?_ ?_
 revert H; refine I4 (fun c14 H => ?_) fun c14 H => ?_
 refine dB (has rfl) c14 ?_
 refine Z2 ?_
 exact Tm (decide (y5.Op = 2)) (ij H)
 refine dF (has rfl) c14 ?_
 revert H; refine I4 (fun c15 H => ?_) fun c15 H => ?_
 refine dB (has rfl) c15 ?_
 refine Z2 ?_
 exact Tm (decide (y5.Op = 6)) (ij H)
 refine dF (has rfl) c15 ?_
 refine Z4 ?_
 exact Tm (decide (y5.Op = 8)) (ij H)
 clear H; intro x16 hi; subst o5; have H := Hr5; clear Hr5; try dsimp only at H
 try dsimp only
 revert H; refine cs (fun c16 H => ?_) fun c16 H => ?_
 refine dB (has rfl) c16 ?_
 refine Z7 ?_
 revert H; refine cs (fun c17 H => ?_) fun c17 H => ?_
 refine Yt c17 ?_
 refine Yt c17 ?_
 refine Yt c17 ?_
 refine Yy (dI rfl hh c17 hh) ?_
 refine Z8 ?_
 refine cU ?_
 refine cX (φs' := [fSl aN a0.p.Free, fSl aL a0.p.Nodes, fSl aI a0.p.Defs, aA .i64 a0.p.Main, fEq v1, fEq v2, fEq v3, aH true]) trivial rfl rfl (has rfl) (has rfl) (aD trivial) (sz rfl) rfl rfl ?_
 refine Z3 ?_
 exact Tm ((a2, a0.p.Free, a0.p.Nodes, a0.p.Defs, a0.p.Main, a0.sizes.set a1.toNat a2, a0.owner.set a1.toNat z1, a0.users, true, v1, v2, v3)) (ij H)
 refine Yg c17 (cI 1 rfl hh (fa rfl) rfl) ?_
 refine Yh 0 rfl c17 (bY rfl hh (sc rfl) rfl Ent.rfl) ?_
 refine Yg c17 (uQ rfl hh hh) ?_
 refine Yy (cM rfl hh c17 hh) ?_
 revert H; refine I1 (fun c18 H => ?_) fun c18 H => ?_
 refine Yt c18 ?_
 refine Yt c18 ?_
 refine Yt c18 ?_
 refine Yt c18 ?_
 refine Yy (dI rfl hh c18 hh) ?_
 refine Z2 ?_
 refine cU ?_
 refine cX (φs' := [fSl aN a0.p.Free, fSl aL a0.p.Nodes, fSl aI a0.p.Defs, aA .i64 a0.p.Main, fEq v1, fEq v2, fEq v3, aH true]) trivial rfl rfl (has rfl) (has rfl) (aD trivial) (sz rfl) rfl rfl ?_
 refine Z3 ?_
 exact Tm ((a2, a0.p.Free, a0.p.Nodes, a0.p.Defs, a0.p.Main, a0.sizes.set a1.toNat a2, a0.owner.set a1.toNat z1, a0.users, true, v1, v2, v3)) (ij H)
 refine Yg c18 (cI 1 rfl hh (fa rfl) rfl) ?_
 refine Yh 0 rfl c18 (bY rfl hh (sc rfl) rfl Ent.rfl) ?_
 refine Yg c18 (bW rfl hh) ?_
 refine Yg c18 (pL rfl hh hh) ?_
 refine Yy (cM rfl hh c18 hh) ?_
 refine Z2 ?_
 refine cU ?_
 refine cX (φs' := [fSl aN a0.p.Free, fSl aL a0.p.Nodes, fSl aI a0.p.Defs, aA .i64 a0.p.Main, fEq v1, fEq v2, fEq v3, aH (decide (a2 ≤ y5.N))]) trivial rfl rfl (has rfl) (has rfl) (aD trivial) (sz rfl) rfl rfl ?_
 refine Z3 ?_
 exact Tm ((a2, a0.p.Free, a0.p.Nodes, a0.p.Defs, a0.p.Main, a0.sizes.set a1.toNat a2, a0.owner.set a1.toNat z1, a0.users, decide (a2 ≤ y5.N), v1, v2, v3)) (ij H)
 refine dF (has rfl) c16 ?_
 revert H; refine I4 (fun c19 H => ?_) fun c19 H => ?_
 refine dB (has rfl) c19 ?_
 refine aG ?_
 refine aG ?_
 revert H; refine is (fun c20 H => ?_) fun c20 H => ?_
 apply bE (ods := [_, _, _, _, _, _, _, _, _, _, _, _, _, _, _, _, _, _, _, _, _, _, _, _, _]) 25 0 5 bF rfl rfl rfl
 refine ND ?_
 refine M4 ?_
 intros
 refine Mt c20 fun _ => ?_
 refine Mt c20 fun _ => ?_
 refine Mt c20 fun _ => ?_
 refine Mt c20 fun _ => ?_
 refine Mt c20 fun _ => ?_
 refine Mt c20 fun _ => ?_
 refine Mt c20 fun _ => ?_
 refine Mt c20 fun _ => ?_
 refine Mt c20 fun _ => ?_
 refine My (dI rfl hh c20 hh) fun _ => ?_
 refine M8 ?_
 intros
 refine M3 ?_
 intros
 refine Z7 ?_
 refine cU ?_
 refine cX (φs' := [fSl aN a0.p.Free, fSl aL a0.p.Nodes, fSl aI a0.p.Defs, aA .i64 a0.p.Main, fEq v1, fEq v2, fEq v3, aH true]) trivial rfl rfl (has rfl) (has rfl) (aD trivial) (sz rfl) rfl rfl ?_
 revert H; refine B4 fun r6 H e6 => ?_
 cases e6; cases Hr4
 refine bI ?_
 refine bI ?_
 refine bI ?_
 refine dZ ?_
 refine fY (x := (⟨(⟨a0.p.Free, a0.p.Nodes, a0.p.Defs, a0.p.Main⟩ : ScopeProg), a0.sizes.set a1.toNat a2, a0.owner.set a1.toNat z1, a0.users, true⟩ : Ref03_look)) ?_
 cases H
 refine aJ [0] (by decide) ?_
 exact fG (.inl rfl) rfl rfl
 exact fk
 kernel_rfl
 revert H; refine is (fun c21 H => ?_) fun c21 H => ?_
 apply bE (ods := [_, _, _, _, _, _, _, _, _, _, _, _, _, _, _, _, _, _, _, _, _, _, _, _, _]) 25 0 5 bF rfl rfl rfl
 refine ND ?_
 refine M4 ?_
 intros
 refine Mg c20 (cI 1 rfl hh (fa rfl) rfl) fun _ => ?_
 refine eF (od := odC [0] false (aA .i64 y5.N) [dK]) (ps := [0]) (φ := aA .i64 y5.N) rfl (fun _ => rfl) ⟨_, _, rfl, rfl, c20⟩ rfl rfl (bY rfl (has rfl) (sc rfl) rfl Ent.rfl) (fun _ => ?_)
 refine Mg c20 (bW rfl hh) fun _ => ?_
 refine Mg c20 (kA rfl (has rfl) (fun m v h => ⟨_, h⟩)) fun _ => ?_
 refine Mg c20 (cI 0 rfl hh (fa rfl) rfl) fun _ => ?_
 refine Mg c20 (cI 2 rfl hh (fa rfl) rfl) fun _ => ?_
 refine eF (od := odC [1] false (fSl aI a0.p.Defs) [dK]) (ps := [1]) (φ := fSl aI a0.p.Defs) rfl (fun _ => rfl) ⟨_, _, rfl, rfl, c20⟩ rfl rfl (bY rfl (has rfl) (sc rfl) rfl Ent.rfl) (fun _ => ?_)
 refine Mg c20 (fR rfl hh (us rfl)) fun _ => ?_
 refine Mg c20 (pL rfl hh hh) fun _ => ?_
 refine My (cM rfl hh c20 hh) fun _ => ?_
 refine M1 ?_
 intros
 refine Mt c21 fun _ => ?_
 refine Mt c21 fun _ => ?_
 refine Mt c21 fun _ => ?_
 refine Mt c21 fun _ => ?_
 refine Mt c21 fun _ => ?_
 refine Mt c21 fun _ => ?_
 refine Mt c21 fun _ => ?_
 refine Mt c21 fun _ => ?_
 refine Mt c21 fun _ => ?_
 refine My (dI rfl hh c21 hh) fun _ => ?_
 refine Z7 ?_
 refine cU ?_
 refine cX (φs' := [fSl aN a0.p.Free, fSl aL a0.p.Nodes, fSl aI a0.p.Defs, aA .i64 a0.p.Main, fEq v1, fEq v2, fEq v3, aH true]) trivial rfl rfl (has rfl) (has rfl) (aD trivial) (sz rfl) rfl rfl ?_
 revert H; refine B4 fun r7 H e7 => ?_
 cases e7; cases Hr4
 refine bI ?_
 refine bI ?_
 refine bI ?_
 refine dZ ?_
 refine fY (x := (⟨(⟨a0.p.Free, a0.p.Nodes, a0.p.Defs, a0.p.Main⟩ : ScopeProg), a0.sizes.set a1.toNat a2, a0.owner.set a1.toNat z1, a0.users, true⟩ : Ref03_look)) ?_
 cases H
 refine aJ [0] (by decide) ?_
 exact fG (.inl rfl) rfl rfl
 exact fk
 kernel_rfl
 revert H; refine bs fun y9 h11 H => ?_
 apply bE (ods := [_, _, _, _, _, _, _, _, _, _, _, _, _, _, _, _, _, _, _, _, _, _, _, _, _]) 25 0 5 bF rfl rfl rfl
 refine ND ?_
 refine M4 ?_
 intros
 refine Mg c20 (cI 1 rfl hh (fa rfl) rfl) fun _ => ?_
 refine eF (od := odC [0] false (aA .i64 y5.N) [dK]) (ps := [0]) (φ := aA .i64 y5.N) rfl (fun _ => rfl) ⟨_, _, rfl, rfl, c20⟩ rfl rfl (bY rfl (has rfl) (sc rfl) rfl Ent.rfl) (fun _ => ?_)
 refine Mg c20 (bW rfl hh) fun _ => ?_
 refine Mg c20 (kA rfl (has rfl) (fun m v h => ⟨_, h⟩)) fun _ => ?_
 refine Mg c20 (cI 0 rfl hh (fa rfl) rfl) fun _ => ?_
 refine Mg c20 (cI 2 rfl hh (fa rfl) rfl) fun _ => ?_
 refine eF (od := odC [1] false (fSl aI a0.p.Defs) [dK]) (ps := [1]) (φ := fSl aI a0.p.Defs) rfl (fun _ => rfl) ⟨_, _, rfl, rfl, c20⟩ rfl rfl (bY rfl (has rfl) (sc rfl) rfl Ent.rfl) (fun _ => ?_)
 refine Mg c20 (fR rfl hh (us rfl)) fun _ => ?_
 refine Mg c20 (pL rfl hh hh) fun _ => ?_
 refine My (cM rfl hh c20 hh) fun _ => ?_
 refine M1 ?_
 intros
 refine Mg c21 (bW rfl hh) fun _ => ?_
 refine Mg c21 (kA rfl (has rfl) (fun m v h => ⟨_, h⟩)) fun _ => ?_
 refine Mg c21 (cI 6 rfl hh (fa rfl) rfl) fun _ => ?_
 refine eF (od := odC [1] false (fEq v3) [dK]) (ps := [1]) (φ := fEq v3) rfl (fun _ => rfl) ⟨_, _, rfl, rfl, c21⟩ rfl rfl (bY rfl (has rfl) (sc rfl) rfl Ent.rfl) (fun _ => ?_)
 refine Mg c21 (cI 1 rfl hh (fa rfl) rfl) fun _ => ?_
 refine eF (od := odC [0] false (aA .i64 y5.N) [dK]) (ps := [0]) (φ := aA .i64 y5.N) rfl (fun _ => rfl) ⟨_, _, rfl, rfl, c21⟩ rfl rfl (bY rfl (has rfl) (sc rfl) rfl Ent.rfl) (fun _ => ?_)
 refine eF (od := odC [4] false (iL v3 1 y5.N.toNat 0) [dK]) (ps := [4]) (φ := iL v3 1 y5.N.toNat 0) rfl (fun _ => rfl) ⟨_, _, rfl, rfl, c21⟩ rfl rfl (kH rfl (has rfl) (has rfl) (el rfl) h11) (fun _ => ?_)
 refine eF (od := odC [4] false (aA .i64 y9) [dK]) (ps := [4]) (φ := aA .i64 y9) rfl (fun _ => rfl) ⟨_, _, rfl, rfl, c21⟩ rfl rfl (iG rfl rfl (has rfl) (sc rfl) (bN h11) rfl) (fun _ => ?_)
 refine Mg c21 (gV rfl hh hh) fun _ => ?_
 refine My (cM rfl hh c21 hh) fun _ => ?_
 revert H; refine I2 (fun c22 H => ?_) fun c22 H => ?_
 refine dB (has rfl) c22 ?_
 refine Z4 ?_
 refine cU ?_
 refine cX (φs' := [fSl aN a0.p.Free, fSl aL a0.p.Nodes, fSl aI a0.p.Defs, aA .i64 a0.p.Main, fEq v1, fEq v2, fEq v3, aH true]) trivial rfl rfl (has rfl) (has rfl) (aD trivial) (sz rfl) rfl rfl ?_
 revert H; refine B4 fun r8 H e8 => ?_
 cases e8; cases Hr4
 refine bI ?_
 refine bI ?_
 refine bI ?_
 refine dZ ?_
 refine fY (x := (⟨(⟨a0.p.Free, a0.p.Nodes, a0.p.Defs, a0.p.Main⟩ : ScopeProg), a0.sizes.set a1.toNat a2, a0.owner.set a1.toNat z1, a0.users, true⟩ : Ref03_look)) ?_
 cases H
 refine aJ [0] (by decide) ?_
 exact fG (.inl rfl) rfl rfl
 refine dF (has rfl) c22 ?_
 refine Z2 ?_
 refine aG ?_
 revert H; refine bs fun y10 h12 H => ?_
 revert H; refine bs fun z3 h13 H => ?_
 revert H; refine bs fun y11 h14 H => ?_
 apply bE (ods := [_, _, _, _, _, _, _, _, _, _, _]) 11 0 5 bF rfl rfl rfl
 refine ND ?_
 refine M6 ?_
 intros
 refine Mo 4 rfl (kH rfl hh hh (el rfl) h12) fun _ => ?_
 refine Mo 4 rfl (iG rfl rfl hh (sc rfl) (bN h12) rfl) fun _ => ?_
 refine My (fF rfl hh hh h13) fun _ => ?_
 refine Mo 4 rfl (kH rfl hh hh (el rfl) h14) fun _ => ?_
 refine mB (od := odC [4] true (fAny) [aE v3 3 (aB .i64) (a0.users.set y5.N.toNat z3)]) (p := 4) (z' := z3) rfl (fun _ => rfl) (fun _ => rfl) trivial rfl rfl rfl rfl (has rfl) (has rfl) (aD trivial) (sz rfl) (bN h14) rfl rfl (fun _ => ?_)
 refine Z2 ?_
 refine aG ?_
 revert H; refine bs fun y12 h15 H => ?_
 revert H; refine bs fun y13 h16 H => ?_
 revert H; refine bs fun z4 h17 H => ?_
 apply bE (ods := [_, _, _, _, _, _, _, _, _, _, _, _, _]) 13 0 5 bF rfl rfl rfl
 refine ND ?_
 refine M8 ?_
 intros
 refine My (cB rfl hh hh (el rfl) h15) fun _ => ?_
 refine M1 ?_
 intros
 refine Nc (aIB _ _ h16) fun _ => ?_
 refine My (fF rfl hh hh h17) fun _ => ?_
 refine M1 ?_
 intros
 revert H; refine B2 fun y14 h18 H => ?_
 apply bE (ods := [_, _, _, _, _, _, _, _, _, _, _]) 11 0 5 bF rfl rfl rfl
 refine ND ?_
 refine M8 ?_
 intros
 refine My (cB rfl hh hh (el rfl) h18) fun _ => ?_
 refine M2 ?_
 intros
 refine Z1 ?_
 refine bI ?_
 refine bI ?_
 refine bI ?_
 refine bI ?_
 refine fY (x := (⟨(⟨a0.p.Free, a0.p.Nodes, a0.p.Defs, a0.p.Main⟩ : ScopeProg), a0.sizes.set a1.toNat a2, a0.owner.set a1.toNat z1, a0.users.set y5.N.toNat z3, x1⟩ : Ref03_look)) ?_
 revert H; refine bs fun y15 h19 H => ?_
 refine Tc (ih_r03_look_def _ _ _ _ _ h19) ?_
 refine rB (fun v7 v8 v9 => ?_)
 refine aS 1 rfl (fun hc_v7 => ?_)
 refine aS 2 rfl (fun hc_v8 => ?_)
 refine aS 3 rfl (fun hc_v9 => ?_)
 refine Z3 ?_
 refine aJ [0, 4, 1, 2, 3] (by decide) ?_
 exact Tm ((z4, y15.p.Free, y15.p.Nodes, y15.p.Defs, y15.p.Main, y15.sizes, y15.owner, y15.users, y15.bad, v7, v8, v9)) (ij H)
 exact fk
 kernel_rfl
 exact fk
 kernel_rfl
 exact fk
 kernel_rfl
 exact fk
 kernel_rfl
 refine dF (has rfl) c19 ?_
 refine Z7 ?_
 revert H; refine cs (fun c23 H => ?_) fun c23 H => ?_
 refine Yt c23 ?_
 refine Yt c23 ?_
 refine Yt c23 ?_
 refine Yy (dI rfl hh c23 hh) ?_
 refine Z2 ?_
 refine cU ?_
 refine cX (φs' := [fSl aN a0.p.Free, fSl aL a0.p.Nodes, fSl aI a0.p.Defs, aA .i64 a0.p.Main, fEq v1, fEq v2, fEq v3, aH true]) trivial rfl rfl (has rfl) (has rfl) (aD trivial) (sz rfl) rfl rfl ?_
 refine Z3 ?_
 exact Tm ((a2, a0.p.Free, a0.p.Nodes, a0.p.Defs, a0.p.Main, a0.sizes.set a1.toNat a2, a0.owner.set a1.toNat z1, a0.users, true, v1, v2, v3)) (ij H)
 refine Yg c23 (cI 1 rfl hh (fa rfl) rfl) ?_
 refine Yh 0 rfl c23 (bY rfl hh (sc rfl) rfl Ent.rfl) ?_
 refine Yg c23 (rL rfl hh hh) ?_
 refine Yy (cM rfl hh c23 hh) ?_
 refine Z2 ?_
 refine cU ?_
 refine cX (φs' := [fSl aN a0.p.Free, fSl aL a0.p.Nodes, fSl aI a0.p.Defs, aA .i64 a0.p.Main, fEq v1, fEq v2, fEq v3, aH (decide (y5.N ≠ 0))]) trivial rfl rfl (has rfl) (has rfl) (aD trivial) (sz rfl) rfl rfl ?_
 refine Z3 ?_
 exact Tm ((a2, a0.p.Free, a0.p.Nodes, a0.p.Defs, a0.p.Main, a0.sizes.set a1.toNat a2, a0.owner.set a1.toNat z1, a0.users, decide (y5.N ≠ 0), v1, v2, v3)) (ij H)
 clear H; intro i hi; obtain ⟨x7, x8, x9, x10, x11, x12, x13, x14, x15, v4, v5, v6⟩ := i; subst o4; have H := Hr4; clear Hr4; try dsimp only at H
 try dsimp only
 refine aS 2 rfl (fun hc_v4 => ?_)
 refine aS 3 rfl (fun hc_v5 => ?_)
 refine aS 4 rfl (fun hc_v6 => ?_)
 refine Z4 ?_
 refine Tl (ι := Nat × Int × List ByteArray × List ScopeNode × List ScopeDef × Int × List Int × List Int × List Int × Bool × Value × Value × Value) (fun i => jB (eX fuel) y5 x7 i.1 i.2.1 i.2.2.1 i.2.2.2.1 i.2.2.2.2.1 i.2.2.2.2.2.1 i.2.2.2.2.2.2.1 i.2.2.2.2.2.2.2.1 i.2.2.2.2.2.2.2.2.1 i.2.2.2.2.2.2.2.2.2.1 = _) (fun i => i.1) (fun i => [(0, fEq (ptr p0)), (6, fEq (ptr b1)), (11, aA .i64 x7), (12, aA .i64 i.2.1)]) (fun i => [aC p0 89 [fSl aN i.2.2.1, fSl aL i.2.2.2.1, fSl aI i.2.2.2.2.1, aA .i64 i.2.2.2.2.2.1, fEq i.2.2.2.2.2.2.2.2.2.2.1, fEq i.2.2.2.2.2.2.2.2.2.2.2.1, fEq i.2.2.2.2.2.2.2.2.2.2.2.2, aH i.2.2.2.2.2.2.2.2.2.1], aC b1 51 [aA .i64 y5.Op, aA .i64 y5.N, fSl bA y5.Args, fSl (aB .i64) y5.Kids], aE i.2.2.2.2.2.2.2.2.2.2.1 3 (aB .i64) i.2.2.2.2.2.2.1, aE i.2.2.2.2.2.2.2.2.2.2.2.1 3 (aB .i64) i.2.2.2.2.2.2.2.1, aE i.2.2.2.2.2.2.2.2.2.2.2.2 3 (aB .i64) i.2.2.2.2.2.2.2.2.1]) (fuel, 0, x8, x9, x10, x11, x12, x13, x14, x15, v4, v5, v6) H ?_
 clear H; rintro ⟨k2, x26, x27, x28, x29, x30, x31, x32, x33, x34, v13, v14, v15⟩ H
 replace H : jB (eX fuel) y5 x7 k2 x26 x27 x28 x29 x30 x31 x32 x33 x34 = _ := H
 try dsimp only
 obtain _ | k2 := k2
 rw [jB] at H; cases H
 rw [jB] at H
 refine aS 2 rfl (fun hc_v13 => ?_)
 refine aS 3 rfl (fun hc_v14 => ?_)
 refine aS 4 rfl (fun hc_v15 => ?_)
 refine aG ?_
 revert H; refine I7 (fun c24 H => ?_) fun c24 H => ?_
 refine Yg c24 (bW rfl hh) ?_
 refine Yg c24 (kA rfl (has rfl) (fun m v h => ⟨_, h⟩)) ?_
 refine Yg c24 (cI 7 rfl hh (fa rfl) rfl) ?_
 refine Yh 0 rfl c24 (bY rfl hh (sc rfl) rfl Ent.rfl) ?_
 refine Yg c24 (kE rfl hh) ?_
 refine Yy (dI rfl hh c24 hh) ?_
 refine Z1 ?_
 revert H; refine cs (fun c25 H => ?_) fun c25 H => ?_
 refine dF (has rfl) (oV c25) ?_
 refine Z4 ?_
 refine bI ?_
 refine bI ?_
 refine bI ?_
 refine dZ ?_
 refine fY (x := (⟨(⟨x27, x28, x29, x30⟩ : ScopeProg), x31, x32, x33, x34⟩ : Ref03_look)) ?_
 cases H
 refine aJ [0] (by decide) ?_
 exact fG (.inr rfl) rfl rfl
 refine dB (has rfl) (oZ c25) ?_
 refine Z2 ?_
 refine aG ?_
 revert H; refine B6 fun y16 h20 H => ?_
 refine Yy (cB rfl hh hh (el rfl) h20) ?_
 refine Z2 ?_
 refine bI ?_
 refine bI ?_
 refine bI ?_
 refine dZ ?_
 refine fY (x := (⟨(⟨x27, x28, x29, x30⟩ : ScopeProg), x31, x32, x33, x34⟩ : Ref03_look)) ?_
 revert H; refine bs fun y17 h21 H => ?_
 refine Tc (ih_r03_look_node _ _ _ _ _ h21) ?_
 refine rB (fun v16 v17 v18 => ?_)
 refine aS 1 rfl (fun hc_v16 => ?_)
 refine aS 2 rfl (fun hc_v17 => ?_)
 refine aS 3 rfl (fun hc_v18 => ?_)
 revert H; refine B5 fun z5 h22 H => ?_
 refine Yy (fF rfl hh hh h22) ?_
 refine Z2 ?_
 refine aJ [0, 4, 1, 2, 3] (by decide) ?_
 exact Tm ((k2, z5, y17.p.Free, y17.p.Nodes, y17.p.Defs, y17.p.Main, y17.sizes, y17.owner, y17.users, y17.bad, v16, v17, v18)) ⟨H, ls⟩
 refine Yf c24 ?_
 refine Yf c24 ?_
 refine Yf c24 ?_
 refine Yf c24 ?_
 refine Yf c24 ?_
 refine Yy (cM rfl hh c24 hh) ?_
 refine Z6 ?_
 refine bI ?_
 refine bI ?_
 refine bI ?_
 refine dZ ?_
 refine fY (x := (⟨(⟨x27, x28, x29, x30⟩ : ScopeProg), x31, x32, x33, x34⟩ : Ref03_look)) ?_
 cases H
 refine aJ [0] (by decide) ?_
 exact fG (.inr rfl) rfl rfl
 intro p0 a0 a1 a2 r H
 rw [pC] at H
 refine bB Tryz.func107 rfl Tryz.ntmps107 rfl (fun β => ?_)
 refine rB (fun v1 v2 v3 => ?_)
 refine aS 1 rfl (fun hc_v1 => ?_)
 refine aS 2 rfl (fun hc_v2 => ?_)
 refine aS 3 rfl (fun hc_v3 => ?_)
 refine Z1 ?_
 refine Tn (cD rfl (has rfl) bJ) fun b1 => ?_
 revert H; refine B1 fun o1 H Hr1 => ?_
 refine aW (ι := List ByteArray × List ScopeNode × List ScopeDef × Int × List Int × List Int × List Int × Bool × Value × Value × Value) (fun i => o1 = (i.1, i.2.1, i.2.2.1, i.2.2.2.1, i.2.2.2.2.1, i.2.2.2.2.2.1, i.2.2.2.2.2.2.1, i.2.2.2.2.2.2.2.1)) (fun i => [(0, fEq (ptr p0)), (2, aA .i64 a2), (4, fEq (ptr b1))]) (fun i => [aC b1 99 [fSl bC a1.Chans, fSl bV a1.Spots, fSl bH a1.Rules], aC p0 89 [fSl aN i.1, fSl aL i.2.1, fSl aI i.2.2.1, aA .i64 i.2.2.2.1, fEq i.2.2.2.2.2.2.2.2.1, fEq i.2.2.2.2.2.2.2.2.2.1, fEq i.2.2.2.2.2.2.2.2.2.2, aH i.2.2.2.2.2.2.2.1], aE i.2.2.2.2.2.2.2.2.1 3 (aB .i64) i.2.2.2.2.1, aE i.2.2.2.2.2.2.2.2.2.1 3 (aB .i64) i.2.2.2.2.2.1, aE i.2.2.2.2.2.2.2.2.2.2 3 (aB .i64) i.2.2.2.2.2.2.1]) ?_ ?_
 refine Z4 ?_
 refine Tl (ι := Nat × Int × List ByteArray × List ScopeNode × List ScopeDef × Int × List Int × List Int × List Int × Bool × Value × Value × Value) (fun i => lN fuel (eX fuel) a1 a2 i.1 i.2.1 i.2.2.1 i.2.2.2.1 i.2.2.2.2.1 i.2.2.2.2.2.1 i.2.2.2.2.2.2.1 i.2.2.2.2.2.2.2.1 i.2.2.2.2.2.2.2.2.1 i.2.2.2.2.2.2.2.2.2.1 = _) (fun i => i.1) (fun i => [(0, fEq (ptr p0)), (2, aA .i64 a2), (4, fEq (ptr b1)), (6, aA .i64 i.2.1)]) (fun i => [aC b1 99 [fSl bC a1.Chans, fSl bV a1.Spots, fSl bH a1.Rules], aC p0 89 [fSl aN i.2.2.1, fSl aL i.2.2.2.1, fSl aI i.2.2.2.2.1, aA .i64 i.2.2.2.2.2.1, fEq i.2.2.2.2.2.2.2.2.2.2.1, fEq i.2.2.2.2.2.2.2.2.2.2.2.1, fEq i.2.2.2.2.2.2.2.2.2.2.2.2, aH i.2.2.2.2.2.2.2.2.2.1], aE i.2.2.2.2.2.2.2.2.2.2.1 3 (aB .i64) i.2.2.2.2.2.2.1, aE i.2.2.2.2.2.2.2.2.2.2.2.1 3 (aB .i64) i.2.2.2.2.2.2.2.1, aE i.2.2.2.2.2.2.2.2.2.2.2.2 3 (aB .i64) i.2.2.2.2.2.2.2.2.1]) (fuel, 0, a0.p.Free, a0.p.Nodes, a0.p.Defs, a0.p.Main, a0.sizes, a0.owner, a0.users, a0.bad, v1, v2, v3) H ?_
 clear H; rintro ⟨k1, x18, x19, x20, x21, x22, x23, x24, x25, x26, v10, v11, v12⟩ H
 replace H : lN fuel (eX fuel) a1 a2 k1 x18 x19 x20 x21 x22 x23 x24 x25 x26 = _ := H
 try dsimp only
 obtain _ | k1 := k1
 rw [lN] at H; cases H
 rw [lN] at H
 refine aS 2 rfl (fun hc_v10 => ?_)
 refine aS 3 rfl (fun hc_v11 => ?_)
 refine aS 4 rfl (fun hc_v12 => ?_)
 refine aG ?_
 revert H; refine I7 (fun c1 H => ?_) fun c1 H => ?_
 refine Yg c1 (bW rfl hh) ?_
 refine Yg c1 (kA rfl (has rfl) (fun m v h => ⟨_, h⟩)) ?_
 refine Yg c1 (cI 7 rfl hh (fa rfl) rfl) ?_
 refine Yh 1 rfl c1 (bY rfl hh (sc rfl) rfl Ent.rfl) ?_
 refine Yg c1 (kE rfl hh) ?_
 refine Yy (dI rfl hh c1 hh) ?_
 refine Z1 ?_
 revert H; refine cs (fun c2 H => ?_) fun c2 H => ?_
 refine dF (has rfl) (oV c2) ?_
 refine Z5 ?_
 exact Tm ((x19, x20, x21, x22, x23, x24, x25, x26, v10, v11, v12)) (ij H)
 refine dB (has rfl) (oZ c2) ?_
 refine Z2 ?_
 refine aG ?_
 revert H; refine B1 fun y1 h1 H => ?_
 revert H; refine bs fun y2 h2 H => ?_
 revert H; refine bs fun y3 h3 H => ?_
 revert H; refine bs fun z1 h4 H => ?_
 apply bE (ods := [_, _, _, _, _, _, _, _, _, _, _, _, _, _, _, _]) 16 0 5 bF rfl rfl rfl
 refine ND ?_
 refine M4 ?_
 intros
 refine My (cB rfl hh hh (el rfl) h1) fun _ => ?_
 refine M7 ?_
 intros
 refine My (cB rfl hh hh (el rfl) h2) fun _ => ?_
 refine M1 ?_
 intros
 refine Nc (aGh _ _ _ _ h3) fun _ => ?_
 refine My (fF rfl hh hh h4) fun _ => ?_
 refine Z1 ?_
 refine bI ?_
 refine bI ?_
 refine bI ?_
 refine bI ?_
 refine fY (x := (⟨(⟨x19, x20, x21, x22⟩ : ScopeProg), x23, x24, x25, x26⟩ : Ref03_look)) ?_
 revert H; refine bs fun y4 h5 H => ?_
 refine Tc (ih_r03_look_node _ _ _ _ _ h5) ?_
 refine rB (fun v13 v14 v15 => ?_)
 refine aS 1 rfl (fun hc_v13 => ?_)
 refine aS 2 rfl (fun hc_v14 => ?_)
 refine aS 3 rfl (fun hc_v15 => ?_)
 revert H; refine B5 fun z2 h6 H => ?_
 refine Yy (fF rfl hh hh h6) ?_
 refine Z2 ?_
 refine aJ [4, 0, 1, 2, 3] (by decide) ?_
 exact Tm ((k1, z2, y4.p.Free, y4.p.Nodes, y4.p.Defs, y4.p.Main, y4.sizes, y4.owner, y4.users, y4.bad, v13, v14, v15)) ⟨H, ls⟩
 exact fk
 kernel_rfl
 refine Yf c1 ?_
 refine Yf c1 ?_
 refine Yf c1 ?_
 refine Yf c1 ?_
 refine Yf c1 ?_
 refine Yy (cM rfl hh c1 hh) ?_
 refine Z7 ?_
 exact Tm ((x19, x20, x21, x22, x23, x24, x25, x26, v10, v11, v12)) (ij H)
 clear H; intro i hi; obtain ⟨x1, x2, x3, x4, x5, x6, x7, x8, v4, v5, v6⟩ := i; subst o1; have H := Hr1; clear Hr1; try dsimp only at H
 try dsimp only
 refine aS 2 rfl (fun hc_v4 => ?_)
 refine aS 3 rfl (fun hc_v5 => ?_)
 refine aS 4 rfl (fun hc_v6 => ?_)
 refine Z4 ?_
 refine Tl (ι := Nat × Int × List ByteArray × List ScopeNode × List ScopeDef × Int × List Int × List Int × List Int × Bool × Value × Value × Value) (fun i => lH (eX fuel) a1 a2 i.1 i.2.1 i.2.2.1 i.2.2.2.1 i.2.2.2.2.1 i.2.2.2.2.2.1 i.2.2.2.2.2.2.1 i.2.2.2.2.2.2.2.1 i.2.2.2.2.2.2.2.2.1 i.2.2.2.2.2.2.2.2.2.1 = _) (fun i => i.1) (fun i => [(0, fEq (ptr p0)), (2, aA .i64 a2), (4, fEq (ptr b1)), (7, aA .i64 i.2.1)]) (fun i => [aC b1 99 [fSl bC a1.Chans, fSl bV a1.Spots, fSl bH a1.Rules], aC p0 89 [fSl aN i.2.2.1, fSl aL i.2.2.2.1, fSl aI i.2.2.2.2.1, aA .i64 i.2.2.2.2.2.1, fEq i.2.2.2.2.2.2.2.2.2.2.1, fEq i.2.2.2.2.2.2.2.2.2.2.2.1, fEq i.2.2.2.2.2.2.2.2.2.2.2.2, aH i.2.2.2.2.2.2.2.2.2.1], aE i.2.2.2.2.2.2.2.2.2.2.1 3 (aB .i64) i.2.2.2.2.2.2.1, aE i.2.2.2.2.2.2.2.2.2.2.2.1 3 (aB .i64) i.2.2.2.2.2.2.2.1, aE i.2.2.2.2.2.2.2.2.2.2.2.2 3 (aB .i64) i.2.2.2.2.2.2.2.2.1]) (fuel, 0, x1, x2, x3, x4, x5, x6, x7, x8, v4, v5, v6) H ?_
 clear H; rintro ⟨k2, x36, x37, x38, x39, x40, x41, x42, x43, x44, v19, v20, v21⟩ H
 replace H : lH (eX fuel) a1 a2 k2 x36 x37 x38 x39 x40 x41 x42 x43 x44 = _ := H
 try dsimp only
 obtain _ | k2 := k2
 rw [lH] at H; cases H
 rw [lH] at H
 refine aS 2 rfl (fun hc_v19 => ?_)
 refine aS 3 rfl (fun hc_v20 => ?_)
 refine aS 4 rfl (fun hc_v21 => ?_)
 refine aG ?_
 revert H; refine I7 (fun c3 H => ?_) fun c3 H => ?_
 refine Yg c3 (bW rfl hh) ?_
 refine Yg c3 (kA rfl (has rfl) (fun m v h => ⟨_, h⟩)) ?_
 refine Yg c3 (cI 7 rfl hh (fa rfl) rfl) ?_
 refine Yh 1 rfl c3 (bY rfl hh (sc rfl) rfl Ent.rfl) ?_
 refine Yg c3 (kE rfl hh) ?_
 refine Yy (dI rfl hh c3 hh) ?_
 refine Z1 ?_
 revert H; refine cs (fun c4 H => ?_) fun c4 H => ?_
 refine dF (has rfl) (oV c4) ?_
 refine Z4 ?_
 refine bI ?_
 refine bI ?_
 refine bI ?_
 refine bI ?_
 refine fY (x := (⟨(⟨x37, x38, x39, x40⟩ : ScopeProg), x41, x42, x43, x44⟩ : Ref03_look)) ?_
 cases H
 refine aJ [0] (by decide) ?_
 exact fG (.inr rfl) rfl rfl
 refine dB (has rfl) (oZ c4) ?_
 refine Z2 ?_
 refine aG ?_
 revert H; refine B6 fun y5 h7 H => ?_
 refine Yy (cB rfl hh hh (el rfl) h7) ?_
 refine Z3 ?_
 refine bI ?_
 refine bI ?_
 refine bI ?_
 refine bI ?_
 refine fY (x := (⟨(⟨x37, x38, x39, x40⟩ : ScopeProg), x41, x42, x43, x44⟩ : Ref03_look)) ?_
 revert H; refine bs fun y6 h8 H => ?_
 refine Tc (ih_r03_look_node _ _ _ _ _ h8) ?_
 refine rB (fun v22 v23 v24 => ?_)
 refine aS 1 rfl (fun hc_v22 => ?_)
 refine aS 2 rfl (fun hc_v23 => ?_)
 refine aS 3 rfl (fun hc_v24 => ?_)
 revert H; refine B5 fun z3 h9 H => ?_
 refine Yy (fF rfl hh hh h9) ?_
 refine Z2 ?_
 refine aJ [4, 0, 1, 2, 3] (by decide) ?_
 exact Tm ((k2, z3, y6.p.Free, y6.p.Nodes, y6.p.Defs, y6.p.Main, y6.sizes, y6.owner, y6.users, y6.bad, v22, v23, v24)) ⟨H, ls⟩
 refine Yf c3 ?_
 refine Yf c3 ?_
 refine Yf c3 ?_
 refine Yf c3 ?_
 refine Yf c3 ?_
 refine Yy (cM rfl hh c3 hh) ?_
 refine Z6 ?_
 refine bI ?_
 refine bI ?_
 refine bI ?_
 refine bI ?_
 refine fY (x := (⟨(⟨x37, x38, x39, x40⟩ : ScopeProg), x41, x42, x43, x44⟩ : Ref03_look)) ?_
 cases H
 refine aJ [0] (by decide) ?_
 exact fG (.inr rfl) rfl rfl
theorem aHx (fuel : Nat) (p0 : Nat) (a0 : Ref03_look) (a1 : Int) (a2 : Int) (r : Ref03_look) (H : eX fuel a0 a1 a2 = some r) : FnS Tryz.prog 89 [fEq (.pointer (some ⟨p0, 0, none⟩)), aA .i64 a1, aA .i64 a2] [pM p0 a0] (dH []) (fun _ => [pM p0 r]) := (aGU fuel).1 p0 a0 a1 a2 r H
end Go.Proofs.YtmnbfgeljmhekaaGreat
set_option maxRecDepth 100000
set_option maxHeartbeats 2000000
namespace Go.Proofs.YtmnbfgeljmhekaaGreat
open Go.SX Go.SW Go.Dt
attribute [local irreducible] Code.wpIn wpListIn Exit.then Exit.inBlock
def jM (fuel : Nat) (a0 : ScopeProg) : Nat → Int → Bool → Option (Bool)
| 0, _, _ => none
| k + 1, x4, x5 =>
 if x4 < (a0.Free.length : Int) then
  (bif x5 then
   some true
  else
   (idx a0.Free x4).bind fun y1 =>
   (vO fuel y1).bind fun y2 =>
   bif !y2 then
    some true
   else
    if 0 < x4 then
     (idx a0.Free x4).bind fun y3 =>
     (chk (x4 - 1)).bind fun z1 =>
     (idx a0.Free z1).bind fun y4 =>
     some (sle y3 y4)
    else
     some false).bind fun x6 =>
  (chk (x4 + 1)).bind fun z2 =>
  jM fuel a0 k z2 x6
 else
  some x5
def kN (fuel : Nat) (a0 : ScopeProg) : Nat → Int → Bool → Option (Bool)
| 0, _, _ => none
| k + 1, x10, x11 =>
 if x10 < (a0.Defs.length : Int) then
  (bif x11 then
   some true
  else
   (idx a0.Defs x10).bind fun y5 =>
   (xA fuel y5).bind fun y6 =>
   some (!y6)).bind fun x12 =>
  (chk (x10 + 1)).bind fun z3 =>
  kN fuel a0 k z3 x12
 else
  some x11
def jX (y10 : Ref03_look) : Nat → Int → Bool → Option (Bool)
| 0, _, _ => none
| k + 1, x16, x17 =>
 if x16 < (y10.owner.length : Int) then
  (bif x17 then
   some true
  else
   (idx y10.owner x16).bind fun y11 =>
   some (decide (y11 = 0))).bind fun x18 =>
  (chk (x16 + 1)).bind fun z4 =>
  jX y10 k z4 x18
 else
  some x17
def kF (y10 : Ref03_look) : Nat → Int → Bool → Option (Bool)
| 0, _, _ => none
| k + 1, x22, x23 =>
 if x22 < (y10.users.length : Int) then
  (bif x23 then
   some true
  else
   (idx y10.users x22).bind fun y12 =>
   some (decide (y12 = 0))).bind fun x24 =>
  (chk (x22 + 1)).bind fun z5 =>
  kF y10 k z5 x24
 else
  some x23
def vR (fuel : Nat) (a0 : ScopeProg) : Option (Ref03_look) :=
 if 12 < (a0.Free.length : Int) then
  some (⟨(⟨a0.Free, a0.Nodes, a0.Defs, a0.Main⟩ : ScopeProg), [], [], [], true⟩ : Ref03_look)
 else
  if 60 < (a0.Nodes.length : Int) then
   some (⟨(⟨a0.Free, a0.Nodes, a0.Defs, a0.Main⟩ : ScopeProg), [], [], [], true⟩ : Ref03_look)
  else
   if 12 < (a0.Defs.length : Int) then
    some (⟨(⟨a0.Free, a0.Nodes, a0.Defs, a0.Main⟩ : ScopeProg), [], [], [], true⟩ : Ref03_look)
   else
    (jM fuel a0 fuel 0 false).bind fun x1 =>
    (kN fuel a0 fuel 0 x1).bind fun x7 =>
    (mk 0 (a0.Nodes.length : Int)).bind fun y7 =>
    (mk 0 (a0.Nodes.length : Int)).bind fun y8 =>
    (mk 0 (a0.Defs.length : Int)).bind fun y9 =>
    bif x7 then
     some (⟨(⟨a0.Free, a0.Nodes, a0.Defs, a0.Main⟩ : ScopeProg), y7, y8, y9, x7⟩ : Ref03_look)
    else
     (eX fuel (⟨(⟨a0.Free, a0.Nodes, a0.Defs, a0.Main⟩ : ScopeProg), y7, y8, y9, x7⟩ : Ref03_look) a0.Main (a0.Free.length : Int)).bind fun y10 =>
     (jX y10 fuel 0 y10.bad).bind fun x13 =>
     (kF y10 fuel 0 x13).bind fun x19 =>
     some (⟨(⟨y10.p.Free, y10.p.Nodes, y10.p.Defs, y10.p.Main⟩ : ScopeProg), y10.sizes, y10.owner, y10.users, x19⟩ : Ref03_look)
theorem aE0 (fuel : Nat)  (a0 : ScopeProg) (r : Ref03_look) (H : vR fuel a0 = some r) : FnS Tryz.prog 51 [fSt dJ a0] [] (aF sI r) (fun _ => []) := by
 unfold vR at H
 refine bB Tryz.func51 rfl Tryz.ntmps51 rfl (fun β => ?_)
 refine Z1 ?_
 refine Tn (cD rfl (has rfl) bJ) fun b1 => ?_
 refine Z4 ?_
 refine Yy (dO (ψs := [fSl aN a0.Free, fSl aL a0.Nodes, fSl aI a0.Defs, aA .i64 a0.Main, fEq (.slice none 0 0), fEq (.slice none 0 0), fEq (.slice none 0 0), aH false]) rfl ty_bu_89 rfl (aU.cons (has rfl) bJ aU.nil) rfl) ?_
 refine Tn (cD rfl (has rfl) bJ) fun b2 => ?_
 refine Z2 ?_
 refine aG ?_
 revert H; refine I6 (fun c1 H => ?_) fun c1 H => ?_
 refine Yt c1 ?_
 refine Yt c1 ?_
 refine Yt c1 ?_
 refine Yt c1 ?_
 refine Yy (dI rfl hh c1 hh) ?_
 refine Z12 ?_
 refine cX (φs' := [fSl aN a0.Free, fSl aL a0.Nodes, fSl aI a0.Defs, aA .i64 a0.Main, fEq (.slice none 0 0), fEq (.slice none 0 0), fEq (.slice none 0 0), aH true]) trivial rfl rfl (has rfl) (has rfl) (aD trivial) (sz rfl) rfl rfl ?_
 refine Z6 ?_
 refine cO (φ := aF sI (⟨(⟨a0.Free, a0.Nodes, a0.Defs, a0.Main⟩ : ScopeProg), [], [], [], true⟩ : Ref03_look)) (v := ptr b2) [2, 10, 3, 27, 28, 30] (hQ (aM.cons Ent.rfl (aM.cons Ent.rfl (aM.cons Ent.rfl (aM.cons Ent.rfl (aM.cons dU (aM.cons dU (aM.cons dU (aM.cons Ent.rfl aM.nil))))))))) fz ?_
 refine cP ?_
 cases H
 refine aJ [] (by decide) ?_
 exact To
 refine Yg c1 (cI 1 rfl hh (fa rfl) rfl) ?_
 refine Yh 1 rfl c1 (bY rfl hh (sc rfl) rfl Ent.rfl) ?_
 refine Yg c1 (fR rfl hh (us rfl)) ?_
 refine Yg c1 (gV rfl hh hh) ?_
 refine Yy (cM rfl hh c1 hh) ?_
 revert H; refine I1 (fun c2 H => ?_) fun c2 H => ?_
 refine Yt c2 ?_
 refine Yt c2 ?_
 refine Yt c2 ?_
 refine Yt c2 ?_
 refine Yy (dI rfl hh c2 hh) ?_
 refine Z6 ?_
 refine cX (φs' := [fSl aN a0.Free, fSl aL a0.Nodes, fSl aI a0.Defs, aA .i64 a0.Main, fEq (.slice none 0 0), fEq (.slice none 0 0), fEq (.slice none 0 0), aH true]) trivial rfl rfl (has rfl) (has rfl) (aD trivial) (sz rfl) rfl rfl ?_
 refine Z6 ?_
 refine cO (φ := aF sI (⟨(⟨a0.Free, a0.Nodes, a0.Defs, a0.Main⟩ : ScopeProg), [], [], [], true⟩ : Ref03_look)) (v := ptr b2) [2, 10, 3, 27, 28, 30] (hQ (aM.cons Ent.rfl (aM.cons Ent.rfl (aM.cons Ent.rfl (aM.cons Ent.rfl (aM.cons dU (aM.cons dU (aM.cons dU (aM.cons Ent.rfl aM.nil))))))))) fz ?_
 refine cP ?_
 cases H
 refine aJ [] (by decide) ?_
 exact To
 refine Yg c2 (cI 2 rfl hh (fa rfl) rfl) ?_
 refine Yh 1 rfl c2 (bY rfl hh (sc rfl) rfl Ent.rfl) ?_
 refine Yg c2 (fR rfl hh (us rfl)) ?_
 refine Yg c2 (gV rfl hh hh) ?_
 refine Yy (cM rfl hh c2 hh) ?_
 revert H; refine I1 (fun c3 H => ?_) fun c3 H => ?_
 refine dB (has rfl) c3 ?_
 refine Z4 ?_
 refine cX (φs' := [fSl aN a0.Free, fSl aL a0.Nodes, fSl aI a0.Defs, aA .i64 a0.Main, fEq (.slice none 0 0), fEq (.slice none 0 0), fEq (.slice none 0 0), aH true]) trivial rfl rfl (has rfl) (has rfl) (aD trivial) (sz rfl) rfl rfl ?_
 refine Z6 ?_
 refine cO (φ := aF sI (⟨(⟨a0.Free, a0.Nodes, a0.Defs, a0.Main⟩ : ScopeProg), [], [], [], true⟩ : Ref03_look)) (v := ptr b2) [2, 10, 3, 27, 28, 30] (hQ (aM.cons Ent.rfl (aM.cons Ent.rfl (aM.cons Ent.rfl (aM.cons Ent.rfl (aM.cons dU (aM.cons dU (aM.cons dU (aM.cons Ent.rfl aM.nil))))))))) fz ?_
 refine cP ?_
 cases H
 refine aJ [] (by decide) ?_
 exact To
 refine dF (has rfl) c3 ?_
 revert H; refine B2 fun o1 H Hr1 => ?_
 refine aW (ι := Bool) (fun i => o1 = i) (fun i => [(1, fEq (ptr b1)), (3, fEq (ptr b2))]) (fun i => [aC b2 89 [fSl aN a0.Free, fSl aL a0.Nodes, fSl aI a0.Defs, aA .i64 a0.Main, fEq (.slice none 0 0), fEq (.slice none 0 0), fEq (.slice none 0 0), aH i], aC b1 26 [fSl aN a0.Free, fSl aL a0.Nodes, fSl aI a0.Defs, aA .i64 a0.Main]]) ?_ ?_
 refine Z4 ?_
 refine Tl (ι := Nat × Int × Bool) (fun i => jM fuel a0 i.1 i.2.1 i.2.2 = _) (fun i => i.1) (fun i => [(1, fEq (ptr b1)), (3, fEq (ptr b2)), (4, aA .i64 i.2.1)]) (fun i => [aC b2 89 [fSl aN a0.Free, fSl aL a0.Nodes, fSl aI a0.Defs, aA .i64 a0.Main, fEq (.slice none 0 0), fEq (.slice none 0 0), fEq (.slice none 0 0), aH i.2.2], aC b1 26 [fSl aN a0.Free, fSl aL a0.Nodes, fSl aI a0.Defs, aA .i64 a0.Main]]) (fuel, 0, false) H ?_
 clear H; rintro ⟨k1, x4, x5⟩ H
 replace H : jM fuel a0 k1 x4 x5 = _ := H
 try dsimp only
 obtain _ | k1 := k1
 rw [jM] at H; cases H
 rw [jM] at H
 refine aG ?_
 revert H; refine I7 (fun c4 H => ?_) fun c4 H => ?_
 refine dB (has rfl) c4 ?_
 revert H; refine B2 fun o2 H Hr2 => ?_
 refine aW (ι := Bool) (fun i => o2 = i) (fun i => [(1, fEq (ptr b1)), (3, fEq (ptr b2)), (4, aA .i64 x4)]) (fun i => [aC b2 89 [fSl aN a0.Free, fSl aL a0.Nodes, fSl aI a0.Defs, aA .i64 a0.Main, fEq (.slice none 0 0), fEq (.slice none 0 0), fEq (.slice none 0 0), aH i], aC b1 26 [fSl aN a0.Free, fSl aL a0.Nodes, fSl aI a0.Defs, aA .i64 a0.Main]]) ?_ ?_
 refine Z1 ?_
 revert H; refine cs (fun c5 H => ?_) fun c5 H => ?_
 apply bE (ods := [_, _, _, _, _, _, _, _, _, _, _, _, _, _, _, _, _, _, _, _, _, _, _, _, _, _, _, _, _, _, _, _, _, _, _]) 35 0 2 bF rfl rfl rfl
 refine ND ?_
 refine M6 ?_
 intros
 refine Mt c5 fun _ => ?_
 refine Mt c5 fun _ => ?_
 refine Mt c5 fun _ => ?_
 refine Mt c5 fun _ => ?_
 refine Mt c5 fun _ => ?_
 refine Mt c5 fun _ => ?_
 refine Mt c5 fun _ => ?_
 refine My (dI rfl hh c5 hh) fun _ => ?_
 refine M4 ?_
 intros
 refine eQ (od := odS) rfl (⟨_, _, _, _, rfl, rfl, rfl, nu⟩) rfl (fun _ => ?_)
 refine eQ (od := odS) rfl (⟨_, _, _, _, rfl, rfl, rfl, nu⟩) rfl (fun _ => ?_)
 refine eQ (od := odS) rfl (⟨_, _, _, _, rfl, rfl, rfl, nu⟩) rfl (fun _ => ?_)
 refine eQ (od := odS) rfl (⟨_, _, _, _, rfl, rfl, rfl, nu⟩) rfl (fun _ => ?_)
 refine eQ (od := odS) rfl (⟨_, _, _, _, rfl, rfl, rfl, nu⟩) rfl (fun _ => ?_)
 refine eQ (od := odS) rfl (⟨_, _, _, _, rfl, rfl, rfl, nu⟩) rfl (fun _ => ?_)
 refine eQ (od := odS) rfl (⟨_, _, _, _, rfl, rfl, rfl, nu⟩) rfl (fun _ => ?_)
 refine eQ (od := odS) rfl (⟨_, _, _, _, rfl, rfl, rfl, nu⟩) rfl (fun _ => ?_)
 refine eQ (od := odS) rfl (⟨_, _, _, _, rfl, rfl, rfl, nu⟩) rfl (fun _ => ?_)
 refine eQ (od := odS) rfl (⟨_, _, _, _, rfl, rfl, rfl, nu⟩) rfl (fun _ => ?_)
 refine eQ (od := odS) rfl (⟨_, _, _, _, rfl, rfl, rfl, nu⟩) rfl (fun _ => ?_)
 refine eQ (od := odS) rfl (⟨_, _, _, _, rfl, rfl, rfl, nu⟩) rfl (fun _ => ?_)
 refine M4 ?_
 intros
 refine jR (od := odC [0] true (fAny) [aC b2 89 [fSl aN a0.Free, fSl aL a0.Nodes, fSl aI a0.Defs, aA .i64 a0.Main, fEq (.slice none 0 0), fEq (.slice none 0 0), fEq (.slice none 0 0), aH true]]) (p := 0) (φs' := [fSl aN a0.Free, fSl aL a0.Nodes, fSl aI a0.Defs, aA .i64 a0.Main, fEq (.slice none 0 0), fEq (.slice none 0 0), fEq (.slice none 0 0), aH true]) rfl (fun _ => rfl) (fun _ => rfl) trivial rfl rfl rfl (has rfl) (has rfl) (aD trivial) (sz rfl) rfl rfl (fun _ => ?_)
 refine Z4 ?_
 exact Tm (true) (ij H)
 exact fk
 kernel_rfl
 revert H; refine bs fun y1 h1 H => ?_
 revert H; refine bs fun y2 h2 H => ?_
 revert H; refine cs (fun c6 H => ?_) fun c6 H => ?_
 apply bE (ods := [_, _, _, _, _, _, _, _, _, _, _, _, _, _, _, _, _, _, _, _, _, _, _, _, _, _, _, _, _, _, _, _, _, _, _]) 35 0 2 bF rfl rfl rfl
 refine ND ?_
 refine M6 ?_
 intros
 refine Mg c5 (cI 0 rfl hh (fa rfl) rfl) fun _ => ?_
 refine eF (od := odC [1] false (fSl aN a0.Free) [dK]) (ps := [1]) (φ := fSl aN a0.Free) rfl (fun _ => rfl) ⟨_, _, rfl, rfl, c5⟩ rfl rfl (bY rfl (has rfl) (sc rfl) rfl Ent.rfl) (fun _ => ?_)
 refine Mg c5 (bW rfl hh) fun _ => ?_
 refine Mg c5 (cB rfl hh hh (el rfl) h1) fun _ => ?_
 refine Mg c5 (fD rfl hh (sc rfl) rfl) fun _ => ?_
 refine Nc (aBk _ _ _ h2) fun _ => ?_
 refine Mg c5 (kE rfl hh) fun _ => ?_
 refine My (cM rfl hh c5 hh) fun _ => ?_
 refine M1 ?_
 intros
 refine Mt c6 fun _ => ?_
 refine Mt c6 fun _ => ?_
 refine Mt c6 fun _ => ?_
 refine eQ (od := odS) rfl (⟨_, _, _, _, rfl, rfl, rfl, nu⟩) rfl (fun _ => ?_)
 refine eQ (od := odS) rfl (⟨_, _, _, _, rfl, rfl, rfl, nu⟩) rfl (fun _ => ?_)
 refine eQ (od := odS) rfl (⟨_, _, _, _, rfl, rfl, rfl, nu⟩) rfl (fun _ => ?_)
 refine eQ (od := odS) rfl (⟨_, _, _, _, rfl, rfl, rfl, nu⟩) rfl (fun _ => ?_)
 refine eQ (od := odS) rfl (⟨_, _, _, _, rfl, rfl, rfl, nu⟩) rfl (fun _ => ?_)
 refine eQ (od := odS) rfl (⟨_, _, _, _, rfl, rfl, rfl, nu⟩) rfl (fun _ => ?_)
 refine eQ (od := odS) rfl (⟨_, _, _, _, rfl, rfl, rfl, nu⟩) rfl (fun _ => ?_)
 refine eQ (od := odS) rfl (⟨_, _, _, _, rfl, rfl, rfl, nu⟩) rfl (fun _ => ?_)
 refine eQ (od := odS) rfl (⟨_, _, _, _, rfl, rfl, rfl, nu⟩) rfl (fun _ => ?_)
 refine eQ (od := odS) rfl (⟨_, _, _, _, rfl, rfl, rfl, nu⟩) rfl (fun _ => ?_)
 refine eQ (od := odS) rfl (⟨_, _, _, _, rfl, rfl, rfl, nu⟩) rfl (fun _ => ?_)
 refine eQ (od := odS) rfl (⟨_, _, _, _, rfl, rfl, rfl, nu⟩) rfl (fun _ => ?_)
 refine Mt c6 fun _ => ?_
 refine My (dI rfl hh c6 hh) fun _ => ?_
 refine M2 ?_
 intros
 refine jR (od := odC [0] true (fAny) [aC b2 89 [fSl aN a0.Free, fSl aL a0.Nodes, fSl aI a0.Defs, aA .i64 a0.Main, fEq (.slice none 0 0), fEq (.slice none 0 0), fEq (.slice none 0 0), aH true]]) (p := 0) (φs' := [fSl aN a0.Free, fSl aL a0.Nodes, fSl aI a0.Defs, aA .i64 a0.Main, fEq (.slice none 0 0), fEq (.slice none 0 0), fEq (.slice none 0 0), aH true]) rfl (fun _ => rfl) (fun _ => rfl) trivial rfl rfl rfl (has rfl) (has rfl) (aD trivial) (sz rfl) rfl rfl (fun _ => ?_)
 refine Z4 ?_
 exact Tm (true) (ij H)
 exact fk
 kernel_rfl
 revert H; refine is (fun c7 H => ?_) fun c7 H => ?_
 revert H; refine bs fun y3 h3 H => ?_
 revert H; refine bs fun z1 h4 H => ?_
 revert H; refine bs fun y4 h5 H => ?_
 apply bE (ods := [_, _, _, _, _, _, _, _, _, _, _, _, _, _, _, _, _, _, _, _, _, _, _, _, _, _, _, _, _, _, _, _, _, _, _]) 35 0 2 bF rfl rfl rfl
 refine ND ?_
 refine M6 ?_
 intros
 refine Mg c5 (cI 0 rfl hh (fa rfl) rfl) fun _ => ?_
 refine eF (od := odC [1] false (fSl aN a0.Free) [dK]) (ps := [1]) (φ := fSl aN a0.Free) rfl (fun _ => rfl) ⟨_, _, rfl, rfl, c5⟩ rfl rfl (bY rfl (has rfl) (sc rfl) rfl Ent.rfl) (fun _ => ?_)
 refine Mg c5 (bW rfl hh) fun _ => ?_
 refine Mg c5 (cB rfl hh hh (el rfl) h1) fun _ => ?_
 refine Mg c5 (fD rfl hh (sc rfl) rfl) fun _ => ?_
 refine Nc (aBk _ _ _ h2) fun _ => ?_
 refine Mg c5 (kE rfl hh) fun _ => ?_
 refine My (cM rfl hh c5 hh) fun _ => ?_
 refine M1 ?_
 intros
 refine Mg c6 (bW rfl hh) fun _ => ?_
 refine Mg c6 (gV rfl hh hh) fun _ => ?_
 refine Mg c6 (bW rfl hh) fun _ => ?_
 refine Mg c7 (cI 0 rfl hh (fa rfl) rfl) fun _ => ?_
 refine eF (od := odC [1] false (fSl aN a0.Free) [dK]) (ps := [1]) (φ := fSl aN a0.Free) rfl (fun _ => rfl) ⟨_, _, rfl, rfl, c7⟩ rfl rfl (bY rfl (has rfl) (sc rfl) rfl Ent.rfl) (fun _ => ?_)
 refine Mg c7 (bW rfl hh) fun _ => ?_
 refine Mg c7 (cB rfl hh hh (el rfl) h3) fun _ => ?_
 refine Mg c7 (fD rfl hh (sc rfl) rfl) fun _ => ?_
 refine Mg c7 (cI 0 rfl hh (fa rfl) rfl) fun _ => ?_
 refine eF (od := odC [1] false (fSl aN a0.Free) [dK]) (ps := [1]) (φ := fSl aN a0.Free) rfl (fun _ => rfl) ⟨_, _, rfl, rfl, c7⟩ rfl rfl (bY rfl (has rfl) (sc rfl) rfl Ent.rfl) (fun _ => ?_)
 refine Mg c7 (bW rfl hh) fun _ => ?_
 refine Mg c7 (o_sub rfl hh hh h4) fun _ => ?_
 refine Mg c7 (cB rfl hh hh (el rfl) h5) fun _ => ?_
 refine Mg c7 (fD rfl hh (sc rfl) rfl) fun _ => ?_
 refine Mg c7 (o_leqS rfl hh hh) fun _ => ?_
 refine Mg c6 (dI rfl hh c7 hh) fun _ => ?_
 refine My (cM rfl hh c6 hh) fun _ => ?_
 refine M2 ?_
 intros
 refine jR (od := odC [0] true (fAny) [aC b2 89 [fSl aN a0.Free, fSl aL a0.Nodes, fSl aI a0.Defs, aA .i64 a0.Main, fEq (.slice none 0 0), fEq (.slice none 0 0), fEq (.slice none 0 0), aH (sle y3 y4)]]) (p := 0) (φs' := [fSl aN a0.Free, fSl aL a0.Nodes, fSl aI a0.Defs, aA .i64 a0.Main, fEq (.slice none 0 0), fEq (.slice none 0 0), fEq (.slice none 0 0), aH (sle y3 y4)]) rfl (fun _ => rfl) (fun _ => rfl) trivial rfl rfl rfl (has rfl) (has rfl) (aD trivial) (sz rfl) rfl rfl (fun _ => ?_)
 refine Z4 ?_
 exact Tm (sle y3 y4) (ij H)
 exact fk
 kernel_rfl
 apply bE (ods := [_, _, _, _, _, _, _, _, _, _, _, _, _, _, _, _, _, _, _, _, _, _, _, _, _, _, _, _, _, _, _, _, _, _, _]) 35 0 2 bF rfl rfl rfl
 refine ND ?_
 refine M6 ?_
 intros
 refine Mg c5 (cI 0 rfl hh (fa rfl) rfl) fun _ => ?_
 refine eF (od := odC [1] false (fSl aN a0.Free) [dK]) (ps := [1]) (φ := fSl aN a0.Free) rfl (fun _ => rfl) ⟨_, _, rfl, rfl, c5⟩ rfl rfl (bY rfl (has rfl) (sc rfl) rfl Ent.rfl) (fun _ => ?_)
 refine Mg c5 (bW rfl hh) fun _ => ?_
 refine Mg c5 (cB rfl hh hh (el rfl) h1) fun _ => ?_
 refine Mg c5 (fD rfl hh (sc rfl) rfl) fun _ => ?_
 refine Nc (aBk _ _ _ h2) fun _ => ?_
 refine Mg c5 (kE rfl hh) fun _ => ?_
 refine My (cM rfl hh c5 hh) fun _ => ?_
 refine M1 ?_
 intros
 refine Mg c6 (bW rfl hh) fun _ => ?_
 refine Mg c6 (gV rfl hh hh) fun _ => ?_
 refine Mg c6 (bW rfl hh) fun _ => ?_
 refine Mz c7 fun _ => ?_
 refine Mz c7 fun _ => ?_
 refine Mz c7 fun _ => ?_
 refine Mz c7 fun _ => ?_
 refine Mz c7 fun _ => ?_
 refine Mz c7 fun _ => ?_
 refine Mz c7 fun _ => ?_
 refine Mz c7 fun _ => ?_
 refine Mz c7 fun _ => ?_
 refine Mz c7 fun _ => ?_
 refine Mz c7 fun _ => ?_
 refine Mz c7 fun _ => ?_
 refine Mg c6 (cM rfl hh c7 hh) fun _ => ?_
 refine My (cM rfl hh c6 hh) fun _ => ?_
 refine M2 ?_
 intros
 refine jR (od := odC [0] true (fAny) [aC b2 89 [fSl aN a0.Free, fSl aL a0.Nodes, fSl aI a0.Defs, aA .i64 a0.Main, fEq (.slice none 0 0), fEq (.slice none 0 0), fEq (.slice none 0 0), aH false]]) (p := 0) (φs' := [fSl aN a0.Free, fSl aL a0.Nodes, fSl aI a0.Defs, aA .i64 a0.Main, fEq (.slice none 0 0), fEq (.slice none 0 0), fEq (.slice none 0 0), aH false]) rfl (fun _ => rfl) (fun _ => rfl) trivial rfl rfl rfl (has rfl) (has rfl) (aD trivial) (sz rfl) rfl rfl (fun _ => ?_)
 refine Z4 ?_
 exact Tm (false) (ij H)
 exact fk
 kernel_rfl
 clear H; intro x6 hi; subst o2; have H := Hr2; clear Hr2; try dsimp only at H
 try dsimp only
 revert H; refine B2 fun z2 h6 H => ?_
 refine Yy (fF rfl hh hh h6) ?_
 refine Z2 ?_
 exact Tm ((k1, z2, x6)) ⟨H, ls⟩
 refine dF (has rfl) c4 ?_
 refine Z5 ?_
 exact Tm (x5) (ij H)
 clear H; intro x1 hi; subst o1; have H := Hr1; clear Hr1; try dsimp only at H
 try dsimp only
 revert H; refine bs fun o3 H Hr3 => ?_
 refine aW (ι := Bool) (fun i => o3 = i) (fun i => [(1, fEq (ptr b1)), (3, fEq (ptr b2))]) (fun i => [aC b2 89 [fSl aN a0.Free, fSl aL a0.Nodes, fSl aI a0.Defs, aA .i64 a0.Main, fEq (.slice none 0 0), fEq (.slice none 0 0), fEq (.slice none 0 0), aH i], aC b1 26 [fSl aN a0.Free, fSl aL a0.Nodes, fSl aI a0.Defs, aA .i64 a0.Main]]) ?_ ?_
 refine Z4 ?_
 refine Tl (ι := Nat × Int × Bool) (fun i => kN fuel a0 i.1 i.2.1 i.2.2 = _) (fun i => i.1) (fun i => [(1, fEq (ptr b1)), (3, fEq (ptr b2)), (5, aA .i64 i.2.1)]) (fun i => [aC b2 89 [fSl aN a0.Free, fSl aL a0.Nodes, fSl aI a0.Defs, aA .i64 a0.Main, fEq (.slice none 0 0), fEq (.slice none 0 0), fEq (.slice none 0 0), aH i.2.2], aC b1 26 [fSl aN a0.Free, fSl aL a0.Nodes, fSl aI a0.Defs, aA .i64 a0.Main]]) (fuel, 0, x1) H ?_
 clear H; rintro ⟨k2, x10, x11⟩ H
 replace H : kN fuel a0 k2 x10 x11 = _ := H
 try dsimp only
 obtain _ | k2 := k2
 rw [kN] at H; cases H
 rw [kN] at H
 refine aG ?_
 revert H; refine I7 (fun c8 H => ?_) fun c8 H => ?_
 refine dB (has rfl) c8 ?_
 revert H; refine B2 fun o4 H Hr4 => ?_
 refine aW (ι := Bool) (fun i => o4 = i) (fun i => [(1, fEq (ptr b1)), (3, fEq (ptr b2)), (5, aA .i64 x10)]) (fun i => [aC b2 89 [fSl aN a0.Free, fSl aL a0.Nodes, fSl aI a0.Defs, aA .i64 a0.Main, fEq (.slice none 0 0), fEq (.slice none 0 0), fEq (.slice none 0 0), aH i], aC b1 26 [fSl aN a0.Free, fSl aL a0.Nodes, fSl aI a0.Defs, aA .i64 a0.Main]]) ?_ ?_
 refine Z8 ?_
 revert H; refine cs (fun c9 H => ?_) fun c9 H => ?_
 refine Yt c9 ?_
 refine Yt c9 ?_
 refine Yt c9 ?_
 refine Yt c9 ?_
 refine Yt c9 ?_
 refine Yt c9 ?_
 refine Yt c9 ?_
 refine Yy (dI rfl hh c9 hh) ?_
 refine Z2 ?_
 refine cX (φs' := [fSl aN a0.Free, fSl aL a0.Nodes, fSl aI a0.Defs, aA .i64 a0.Main, fEq (.slice none 0 0), fEq (.slice none 0 0), fEq (.slice none 0 0), aH true]) trivial rfl rfl (has rfl) (has rfl) (aD trivial) (sz rfl) rfl rfl ?_
 refine Z3 ?_
 exact Tm (true) (ij H)
 refine Yg c9 (cI 2 rfl hh (fa rfl) rfl) ?_
 refine Yh 1 rfl c9 (bY rfl hh (sc rfl) rfl Ent.rfl) ?_
 refine Yg c9 (bW rfl hh) ?_
 revert H; refine bs fun y5 h7 H => ?_
 refine Yg c9 (cB rfl hh hh (el rfl) h7) ?_
 refine Yg c9 (aA9 rfl hh (ag rfl)) ?_
 revert H; refine bs fun y6 h8 H => ?_
 refine Tc (aGr _ _ _ h8) ?_
 refine Yg c9 (kE rfl hh) ?_
 refine Yy (cM rfl hh c9 hh) ?_
 refine Z2 ?_
 refine cX (φs' := [fSl aN a0.Free, fSl aL a0.Nodes, fSl aI a0.Defs, aA .i64 a0.Main, fEq (.slice none 0 0), fEq (.slice none 0 0), fEq (.slice none 0 0), aH (!y6)]) trivial rfl rfl (has rfl) (has rfl) (aD trivial) (sz rfl) rfl rfl ?_
 refine Z3 ?_
 exact Tm (!y6) (ij H)
 clear H; intro x12 hi; subst o4; have H := Hr4; clear Hr4; try dsimp only at H
 try dsimp only
 revert H; refine B2 fun z3 h9 H => ?_
 refine Yy (fF rfl hh hh h9) ?_
 refine Z2 ?_
 exact Tm ((k2, z3, x12)) ⟨H, ls⟩
 refine dF (has rfl) c8 ?_
 refine Z5 ?_
 exact Tm (x11) (ij H)
 clear H; intro x7 hi; subst o3; have H := Hr3; clear Hr3; try dsimp only at H
 try dsimp only
 refine aG ?_
 revert H; refine bs fun y7 h10 H => ?_
 revert H; refine bs fun y8 h11 H => ?_
 revert H; refine bs fun y9 h12 H => ?_
 apply bE (ods := [_, _, _, _, _, _, _, _, _, _, _, _, _, _, _, _, _, _, _, _, _, _, _, _]) 24 3 5 bF rfl rfl rfl
 refine ND ?_
 refine M6 ?_
 intros
 refine Mn 2 (fun b3 => .slice (some ⟨b3, 0, none⟩) y7.length y7.length) (fun b3 => aE (.slice (some ⟨b3, 0, none⟩) y7.length y7.length) 3 (aB .i64) y7) rfl (lA (t := (aB .i64)) (z := 0) rfl (has rfl) (et rfl) rfl qZ rfl h10) (fun b3 u1 => ?_)
 refine M3 ?_
 intros
 refine Mn 3 (fun b4 => .slice (some ⟨b4, 0, none⟩) y8.length y8.length) (fun b4 => aE (.slice (some ⟨b4, 0, none⟩) y8.length y8.length) 3 (aB .i64) y8) rfl (lA (t := (aB .i64)) (z := 0) rfl (has rfl) (et rfl) rfl qZ rfl h11) (fun b4 u2 => ?_)
 refine M3 ?_
 intros
 refine Mn 4 (fun b5 => .slice (some ⟨b5, 0, none⟩) y9.length y9.length) (fun b5 => aE (.slice (some ⟨b5, 0, none⟩) y9.length y9.length) 3 (aB .i64) y9) rfl (lA (t := (aB .i64)) (z := 0) rfl (has rfl) (et rfl) rfl qZ rfl h12) (fun b5 u3 => ?_)
 refine M2 ?_
 intros
 refine jR (od := od1 6 [0] true (fun b3 _ => fAny) (fun b3 _ => [aC b2 89 [fSl aN a0.Free, fSl aL a0.Nodes, fSl aI a0.Defs, aA .i64 a0.Main, fEq (.slice (some ⟨b3, 0, none⟩) y7.length y7.length), fEq (.slice none 0 0), fEq (.slice none 0 0), aH x7]])) (p := 0) (φs' := [fSl aN a0.Free, fSl aL a0.Nodes, fSl aI a0.Defs, aA .i64 a0.Main, fEq (.slice (some ⟨b3, 0, none⟩) y7.length y7.length), fEq (.slice none 0 0), fEq (.slice none 0 0), aH x7]) rfl (fun _ => rfl) (fun _ => rfl) trivial rfl rfl rfl (has rfl) (has rfl) (aD trivial) (sz rfl) rfl rfl (fun _ => ?_)
 refine M2 ?_
 intros
 refine jR (od := od2 6 10 [0] true (fun b3 _ b4 _ => fAny) (fun b3 _ b4 _ => [aC b2 89 [fSl aN a0.Free, fSl aL a0.Nodes, fSl aI a0.Defs, aA .i64 a0.Main, fEq (.slice (some ⟨b3, 0, none⟩) y7.length y7.length), fEq (.slice (some ⟨b4, 0, none⟩) y8.length y8.length), fEq (.slice none 0 0), aH x7]])) (p := 0) (φs' := [fSl aN a0.Free, fSl aL a0.Nodes, fSl aI a0.Defs, aA .i64 a0.Main, fEq (.slice (some ⟨b3, 0, none⟩) y7.length y7.length), fEq (.slice (some ⟨b4, 0, none⟩) y8.length y8.length), fEq (.slice none 0 0), aH x7]) rfl (fun _ => rfl) (fun _ => rfl) trivial rfl rfl rfl (has rfl) (has rfl) (aD trivial) (sz rfl) rfl rfl (fun _ => ?_)
 refine M2 ?_
 intros
 refine jR (od := od3 6 10 14 [0] true (fun b3 _ b4 _ b5 _ => fAny) (fun b3 _ b4 _ b5 _ => [aC b2 89 [fSl aN a0.Free, fSl aL a0.Nodes, fSl aI a0.Defs, aA .i64 a0.Main, fEq (.slice (some ⟨b3, 0, none⟩) y7.length y7.length), fEq (.slice (some ⟨b4, 0, none⟩) y8.length y8.length), fEq (.slice (some ⟨b5, 0, none⟩) y9.length y9.length), aH x7]])) (p := 0) (φs' := [fSl aN a0.Free, fSl aL a0.Nodes, fSl aI a0.Defs, aA .i64 a0.Main, fEq (.slice (some ⟨b3, 0, none⟩) y7.length y7.length), fEq (.slice (some ⟨b4, 0, none⟩) y8.length y8.length), fEq (.slice (some ⟨b5, 0, none⟩) y9.length y9.length), aH x7]) rfl (fun _ => rfl) (fun _ => rfl) trivial rfl rfl rfl (has rfl) (has rfl) (aD trivial) (sz rfl) rfl rfl (fun _ => ?_)
 refine Z1 ?_
 generalize (Value.slice (some ⟨b3, 0, none⟩) _ _) = v1
 refine aS 2 rfl (fun hc_v1 => ?_)
 generalize (Value.slice (some ⟨b4, 0, none⟩) _ _) = v2
 refine aS 3 rfl (fun hc_v2 => ?_)
 generalize (Value.slice (some ⟨b5, 0, none⟩) _ _) = v3
 refine aS 4 rfl (fun hc_v3 => ?_)
 refine Z1 ?_
 refine aG ?_
 refine Z6 ?_
 revert H; refine cs (fun c10 H => ?_) fun c10 H => ?_
 refine dB (has rfl) c10 ?_
 refine Z5 ?_
 refine eB ?_
 refine cO (φ := fSl (aB .i64) y7) (v := v1) [101] cG fz ?_
 refine gJ (φs' := [fSl aN a0.Free, fSl aL a0.Nodes, fSl aI a0.Defs, aA .i64 a0.Main, fSl (aB .i64) y7, fEq v2, fEq v3, aH x7]) (i := 4) rfl rfl ?_
 refine cP ?_
 refine eB ?_
 refine cO (φ := fSl (aB .i64) y8) (v := v2) [105] cG fz ?_
 refine gJ (φs' := [fSl aN a0.Free, fSl aL a0.Nodes, fSl aI a0.Defs, aA .i64 a0.Main, fSl (aB .i64) y7, fSl (aB .i64) y8, fEq v3, aH x7]) (i := 5) rfl rfl ?_
 refine cP ?_
 refine eB ?_
 refine cO (φ := fSl (aB .i64) y9) (v := v3) [109] cG fz ?_
 refine gJ (φs' := [fSl aN a0.Free, fSl aL a0.Nodes, fSl aI a0.Defs, aA .i64 a0.Main, fSl (aB .i64) y7, fSl (aB .i64) y8, fSl (aB .i64) y9, aH x7]) (i := 6) rfl rfl ?_
 refine cP ?_
 refine cO (φ := aF sI (⟨(⟨a0.Free, a0.Nodes, a0.Defs, a0.Main⟩ : ScopeProg), y7, y8, y9, x7⟩ : Ref03_look)) (v := ptr b2) [3, 95, 96, 97, 110, 112, 114, 116, 117, 120, 2] (hQ aM.rfl) fz ?_
 refine cP ?_
 cases H
 refine aJ [] (by decide) ?_
 exact To
 refine dF (has rfl) c10 ?_
 refine Z9 ?_
 refine bI ?_
 refine bI ?_
 refine bI ?_
 refine dZ ?_
 refine fY (x := (⟨(⟨a0.Free, a0.Nodes, a0.Defs, a0.Main⟩ : ScopeProg), y7, y8, y9, x7⟩ : Ref03_look)) ?_
 revert H; refine bs fun y10 h13 H => ?_
 refine Tc (aHx _ _ _ _ _ _ h13) ?_
 refine rB (fun v4 v5 v6 => ?_)
 refine aS 1 rfl (fun hc_v4 => ?_)
 refine aS 2 rfl (fun hc_v5 => ?_)
 refine aS 3 rfl (fun hc_v6 => ?_)
 revert H; refine B1 fun o5 H Hr5 => ?_
 refine aW (ι := Bool) (fun i => o5 = i) (fun i => [(3, fEq (ptr b2))]) (fun i => [aC b2 89 [fSl aN y10.p.Free, fSl aL y10.p.Nodes, fSl aI y10.p.Defs, aA .i64 y10.p.Main, fEq v4, fEq v5, fEq v6, aH i], aC b1 26 [fSl aN a0.Free, fSl aL a0.Nodes, fSl aI a0.Defs, aA .i64 a0.Main], aE v4 3 (aB .i64) y10.sizes, aE v5 3 (aB .i64) y10.owner, aE v6 3 (aB .i64) y10.users]) ?_ ?_
 refine Z4 ?_
 refine aJ [0, 4, 1, 2, 3] (by decide) ?_
 refine Tl (ι := Nat × Int × Bool) (fun i => jX y10 i.1 i.2.1 i.2.2 = _) (fun i => i.1) (fun i => [(3, fEq (ptr b2)), (6, aA .i64 i.2.1)]) (fun i => [aC b2 89 [fSl aN y10.p.Free, fSl aL y10.p.Nodes, fSl aI y10.p.Defs, aA .i64 y10.p.Main, fEq v4, fEq v5, fEq v6, aH i.2.2], aC b1 26 [fSl aN a0.Free, fSl aL a0.Nodes, fSl aI a0.Defs, aA .i64 a0.Main], aE v4 3 (aB .i64) y10.sizes, aE v5 3 (aB .i64) y10.owner, aE v6 3 (aB .i64) y10.users]) (fuel, 0, y10.bad) H ?_
 clear H; rintro ⟨k3, x16, x17⟩ H
 replace H : jX y10 k3 x16 x17 = _ := H
 try dsimp only
 obtain _ | k3 := k3
 rw [jX] at H; cases H
 rw [jX] at H
 refine aG ?_
 revert H; refine I9 (fun c11 H => ?_) fun c11 H => ?_
 refine dB (has rfl) c11 ?_
 revert H; refine B2 fun o6 H Hr6 => ?_
 refine aW (ι := Bool) (fun i => o6 = i) (fun i => [(3, fEq (ptr b2)), (6, aA .i64 x16)]) (fun i => [aC b2 89 [fSl aN y10.p.Free, fSl aL y10.p.Nodes, fSl aI y10.p.Defs, aA .i64 y10.p.Main, fEq v4, fEq v5, fEq v6, aH i], aC b1 26 [fSl aN a0.Free, fSl aL a0.Nodes, fSl aI a0.Defs, aA .i64 a0.Main], aE v4 3 (aB .i64) y10.sizes, aE v5 3 (aB .i64) y10.owner, aE v6 3 (aB .i64) y10.users]) ?_ ?_
 refine Z8 ?_
 revert H; refine cs (fun c12 H => ?_) fun c12 H => ?_
 refine Yt c12 ?_
 refine Yt c12 ?_
 refine Yt c12 ?_
 refine Yt c12 ?_
 refine Yt c12 ?_
 refine Yt c12 ?_
 refine Yt c12 ?_
 refine Yt c12 ?_
 refine Yy (dI rfl hh c12 hh) ?_
 refine Z2 ?_
 refine cX (φs' := [fSl aN y10.p.Free, fSl aL y10.p.Nodes, fSl aI y10.p.Defs, aA .i64 y10.p.Main, fEq v4, fEq v5, fEq v6, aH true]) trivial rfl rfl (has rfl) (has rfl) (aD trivial) (sz rfl) rfl rfl ?_
 refine Z3 ?_
 exact Tm (true) (ij H)
 refine Yg c12 (bW rfl hh) ?_
 refine Yg c12 (kA rfl (has rfl) (fun m v h => ⟨_, h⟩)) ?_
 refine Yg c12 (cI 5 rfl hh (fa rfl) rfl) ?_
 refine Yh 0 rfl c12 (bY rfl hh (sc rfl) rfl Ent.rfl) ?_
 refine Yg c12 (bW rfl hh) ?_
 revert H; refine bs fun y11 h14 H => ?_
 refine Yh 3 rfl c12 (kH rfl hh hh (el rfl) h14) ?_
 refine Yh 3 rfl c12 (iG rfl rfl hh (sc rfl) (bN h14) rfl) ?_
 refine Yg c12 (o_eql rfl hh hh) ?_
 refine Yy (cM rfl hh c12 hh) ?_
 refine Z2 ?_
 refine cX (φs' := [fSl aN y10.p.Free, fSl aL y10.p.Nodes, fSl aI y10.p.Defs, aA .i64 y10.p.Main, fEq v4, fEq v5, fEq v6, aH (decide (y11 = 0))]) trivial rfl rfl (has rfl) (has rfl) (aD trivial) (sz rfl) rfl rfl ?_
 refine Z3 ?_
 exact Tm (decide (y11 = 0)) (ij H)
 clear H; intro x18 hi; subst o6; have H := Hr6; clear Hr6; try dsimp only at H
 try dsimp only
 revert H; refine B2 fun z4 h15 H => ?_
 refine Yy (fF rfl hh hh h15) ?_
 refine Z2 ?_
 exact Tm ((k3, z4, x18)) ⟨H, ls⟩
 refine dF (has rfl) c11 ?_
 refine Z5 ?_
 exact Tm (x17) (ij H)
 clear H; intro x13 hi; subst o5; have H := Hr5; clear Hr5; try dsimp only at H
 try dsimp only
 revert H; refine bs fun o7 H Hr7 => ?_
 refine aW (ι := Bool) (fun i => o7 = i) (fun i => [(3, fEq (ptr b2))]) (fun i => [aC b2 89 [fSl aN y10.p.Free, fSl aL y10.p.Nodes, fSl aI y10.p.Defs, aA .i64 y10.p.Main, fEq v4, fEq v5, fEq v6, aH i], aC b1 26 [fSl aN a0.Free, fSl aL a0.Nodes, fSl aI a0.Defs, aA .i64 a0.Main], aE v4 3 (aB .i64) y10.sizes, aE v5 3 (aB .i64) y10.owner, aE v6 3 (aB .i64) y10.users]) ?_ ?_
 refine Z4 ?_
 refine Tl (ι := Nat × Int × Bool) (fun i => kF y10 i.1 i.2.1 i.2.2 = _) (fun i => i.1) (fun i => [(3, fEq (ptr b2)), (7, aA .i64 i.2.1)]) (fun i => [aC b2 89 [fSl aN y10.p.Free, fSl aL y10.p.Nodes, fSl aI y10.p.Defs, aA .i64 y10.p.Main, fEq v4, fEq v5, fEq v6, aH i.2.2], aC b1 26 [fSl aN a0.Free, fSl aL a0.Nodes, fSl aI a0.Defs, aA .i64 a0.Main], aE v4 3 (aB .i64) y10.sizes, aE v5 3 (aB .i64) y10.owner, aE v6 3 (aB .i64) y10.users]) (fuel, 0, x13) H ?_
 clear H; rintro ⟨k4, x22, x23⟩ H
 replace H : kF y10 k4 x22 x23 = _ := H
 try dsimp only
 obtain _ | k4 := k4
 rw [kF] at H; cases H
 rw [kF] at H
 refine aG ?_
 revert H; refine I9 (fun c13 H => ?_) fun c13 H => ?_
 refine dB (has rfl) c13 ?_
 revert H; refine B2 fun o8 H Hr8 => ?_
 refine aW (ι := Bool) (fun i => o8 = i) (fun i => [(3, fEq (ptr b2)), (7, aA .i64 x22)]) (fun i => [aC b2 89 [fSl aN y10.p.Free, fSl aL y10.p.Nodes, fSl aI y10.p.Defs, aA .i64 y10.p.Main, fEq v4, fEq v5, fEq v6, aH i], aC b1 26 [fSl aN a0.Free, fSl aL a0.Nodes, fSl aI a0.Defs, aA .i64 a0.Main], aE v4 3 (aB .i64) y10.sizes, aE v5 3 (aB .i64) y10.owner, aE v6 3 (aB .i64) y10.users]) ?_ ?_
 refine Z8 ?_
 revert H; refine cs (fun c14 H => ?_) fun c14 H => ?_
 refine Yt c14 ?_
 refine Yt c14 ?_
 refine Yt c14 ?_
 refine Yt c14 ?_
 refine Yt c14 ?_
 refine Yt c14 ?_
 refine Yt c14 ?_
 refine Yt c14 ?_
 refine Yy (dI rfl hh c14 hh) ?_
 refine Z2 ?_
 refine cX (φs' := [fSl aN y10.p.Free, fSl aL y10.p.Nodes, fSl aI y10.p.Defs, aA .i64 y10.p.Main, fEq v4, fEq v5, fEq v6, aH true]) trivial rfl rfl (has rfl) (has rfl) (aD trivial) (sz rfl) rfl rfl ?_
 refine Z3 ?_
 exact Tm (true) (ij H)
 refine Yg c14 (bW rfl hh) ?_
 refine Yg c14 (kA rfl (has rfl) (fun m v h => ⟨_, h⟩)) ?_
 refine Yg c14 (cI 6 rfl hh (fa rfl) rfl) ?_
 refine Yh 0 rfl c14 (bY rfl hh (sc rfl) rfl Ent.rfl) ?_
 refine Yg c14 (bW rfl hh) ?_
 revert H; refine bs fun y12 h16 H => ?_
 refine Yh 4 rfl c14 (kH rfl hh hh (el rfl) h16) ?_
 refine Yh 4 rfl c14 (iG rfl rfl hh (sc rfl) (bN h16) rfl) ?_
 refine Yg c14 (o_eql rfl hh hh) ?_
 refine Yy (cM rfl hh c14 hh) ?_
 refine Z2 ?_
 refine cX (φs' := [fSl aN y10.p.Free, fSl aL y10.p.Nodes, fSl aI y10.p.Defs, aA .i64 y10.p.Main, fEq v4, fEq v5, fEq v6, aH (decide (y12 = 0))]) trivial rfl rfl (has rfl) (has rfl) (aD trivial) (sz rfl) rfl rfl ?_
 refine Z3 ?_
 exact Tm (decide (y12 = 0)) (ij H)
 clear H; intro x24 hi; subst o8; have H := Hr8; clear Hr8; try dsimp only at H
 try dsimp only
 revert H; refine B2 fun z5 h17 H => ?_
 refine Yy (fF rfl hh hh h17) ?_
 refine Z2 ?_
 exact Tm ((k4, z5, x24)) ⟨H, ls⟩
 refine dF (has rfl) c13 ?_
 refine Z5 ?_
 exact Tm (x23) (ij H)
 clear H; intro x19 hi; subst o7; have H := Hr7; clear Hr7; try dsimp only at H
 try dsimp only
 refine Z5 ?_
 refine eB ?_
 refine cO (φ := fSl (aB .i64) y10.sizes) (v := v4) [] cG (fun _ h => nomatch h) ?_
 refine gJ (φs' := [fSl aN y10.p.Free, fSl aL y10.p.Nodes, fSl aI y10.p.Defs, aA .i64 y10.p.Main, fSl (aB .i64) y10.sizes, fEq v5, fEq v6, aH x19]) (i := 4) rfl rfl ?_
 refine cP ?_
 refine eB ?_
 refine cO (φ := fSl (aB .i64) y10.owner) (v := v5) [] cG (fun _ h => nomatch h) ?_
 refine gJ (φs' := [fSl aN y10.p.Free, fSl aL y10.p.Nodes, fSl aI y10.p.Defs, aA .i64 y10.p.Main, fSl (aB .i64) y10.sizes, fSl (aB .i64) y10.owner, fEq v6, aH x19]) (i := 5) rfl rfl ?_
 refine cP ?_
 refine eB ?_
 refine cO (φ := fSl (aB .i64) y10.users) (v := v6) [] cG (fun _ h => nomatch h) ?_
 refine gJ (φs' := [fSl aN y10.p.Free, fSl aL y10.p.Nodes, fSl aI y10.p.Defs, aA .i64 y10.p.Main, fSl (aB .i64) y10.sizes, fSl (aB .i64) y10.owner, fSl (aB .i64) y10.users, aH x19]) (i := 6) rfl rfl ?_
 refine cP ?_
 refine cO (φ := aF sI (⟨(⟨y10.p.Free, y10.p.Nodes, y10.p.Defs, y10.p.Main⟩ : ScopeProg), y10.sizes, y10.owner, y10.users, x19⟩ : Ref03_look)) (v := ptr b2) [3, 180, 2] (hQ aM.rfl) fz ?_
 refine cP ?_
 cases H
 refine aJ [] (by decide) ?_
 exact To
 exact fk
 kernel_rfl
def uV (fuel : Nat) (a0 : ScopeProg) : Option (Int) :=
 (vR fuel (⟨a0.Free, a0.Nodes, a0.Defs, a0.Main⟩ : ScopeProg)).bind fun y1 =>
 bif y1.bad then
  some 2
 else
  some 0
theorem aEK (fuel : Nat)  (a0 : ScopeProg) (r : Int) (H : uV fuel a0 = some r) : FnS Tryz.prog 19 [fSt dJ a0] [] (aA .i64 r) (fun _ => []) := by
 unfold uV at H
 refine bB Tryz.func19 rfl Tryz.ntmps19 rfl (fun β => ?_)
 refine Z1 ?_
 refine Tn (cD rfl (has rfl) bJ) fun b1 => ?_
 refine Z2 ?_
 refine aG ?_
 revert H; refine B2 fun y1 h1 H => ?_
 refine Tc (aE0 _ _ _ h1) ?_
 refine Z4 ?_
 revert H; refine cs (fun c1 H => ?_) fun c1 H => ?_
 refine Z5 ?_
 cases H
 refine aJ [] (by decide) ?_
 exact To
 refine Z7 ?_
 cases H
 refine aJ [] (by decide) ?_
 exact To
end Go.Proofs.YtmnbfgeljmhekaaGreat
set_option maxRecDepth 100000
set_option maxHeartbeats 2000000
namespace Go.Proofs.YtmnbfgeljmhekaaGreat
open Go.SX Go.SW Go.Dt
attribute [local irreducible] Code.wpIn wpListIn Exit.then Exit.inBlock
def pW (fuel : Nat) (a0 : ScopeProg) : Option (List Int) :=
 (vR fuel (⟨a0.Free, a0.Nodes, a0.Defs, a0.Main⟩ : ScopeProg)).bind fun y1 =>
 some y1.sizes
theorem aHE (fuel : Nat)  (a0 : ScopeProg) (r : List Int) (H : pW fuel a0 = some r) : FnS Tryz.prog 22 [fSt dJ a0] [] (fSl (aB .i64) r) (fun _ => []) := by
 unfold pW at H
 refine bB Tryz.func22 rfl Tryz.ntmps22 rfl (fun β => ?_)
 refine Z1 ?_
 refine Tn (cD rfl (has rfl) bJ) fun b1 => ?_
 revert H; refine B4 fun y1 h1 H => ?_
 refine Tc (aE0 _ _ _ h1) ?_
 refine Z6 ?_
 cases H
 refine aJ [] (by decide) ?_
 exact To
def uU (a1 : Int) : Nat → (List Ref05_Chan) → Int → Option (List Ref05_Chan)
| 0, _, _ => none
| k + 1, x4, x5 =>
 if x5 < a1 then
  (dD (x4 ++ [(⟨(-1), 0⟩ : Ref05_Chan)])).bind fun z2 =>
  (chk (x5 + 1)).bind fun z3 =>
  uU a1 k z2 z3
 else
  some x4
def wA (fuel : Nat) (a0 : List Ref05_Chan) (a1 : Int) : Option (List Ref05_Chan) :=
 (dD (([] : List Ref05_Chan) ++ a0)).bind fun z1 =>
 (uU a1 fuel z1 0).bind fun x1 =>
 some x1
end Go.Proofs.YtmnbfgeljmhekaaGreat
set_option maxRecDepth 100000
set_option maxHeartbeats 2000000
namespace Go.Proofs.YtmnbfgeljmhekaaGreat
open Go.SX Go.SW Go.Dt
attribute [local irreducible] Code.wpIn wpListIn Exit.then Exit.inBlock
def tB (rec_r05_Look_fill : bP → Int → (List Ref05_Chan) → Option (bP)) (a2 : List Ref05_Chan) (y2 : ScopeNode) : Nat → Int → (List ByteArray) → (List ScopeNode) → (List ScopeDef) → Int → (List (List Ref05_Chan)) → (List Int) → (List Int) → Option (List ByteArray × List ScopeNode × List ScopeDef × Int × List (List Ref05_Chan) × List Int × List Int)
| 0, _, _, _, _, _, _, _, _ => none
| k + 1, x16, x17, x18, x19, x20, x21, x22, x23 =>
 if x16 < (y2.Kids.length : Int) then
  (idx y2.Kids x16).bind fun y3 =>
  (rec_r05_Look_fill (⟨(⟨x17, x18, x19, x20⟩ : ScopeProg), x21, x22, x23⟩ : bP) y3 a2).bind fun y4 =>
  (chk (x16 + 1)).bind fun z1 =>
  tB rec_r05_Look_fill a2 y2 k z1 y4.p.Free y4.p.Nodes y4.p.Defs y4.p.Main y4.Envs y4.Sizes y4.Heads
 else
  some (x17, x18, x19, x20, x21, x22, x23)
def sL (y2 : ScopeNode) (y6 : ScopeDef) : Nat → (List Ref05_Chan) → Int → Option (List Ref05_Chan)
| 0, _, _ => none
| k + 1, x27, x28 =>
 if x28 < (y6.Chans.length : Int) then
  (dD (x27 ++ [(⟨y2.N, x28⟩ : Ref05_Chan)])).bind fun z3 =>
  (chk (x28 + 1)).bind fun z4 =>
  sL y2 y6 k z3 z4
 else
  some x27
def vQ (y6 : ScopeDef) (x44 : Int) : Nat → Int → Int → Option (Int)
| 0, _, _ => none
| k + 1, x62, x63 =>
 (idx y6.Rules x44).bind fun y8 =>
 if x63 < (y8.Joins.length : Int) then
  (idx y6.Rules x44).bind fun y9 =>
  (idx y9.Joins x63).bind fun y10 =>
  (idx y6.Chans y10).bind fun y11 =>
  (chk (x62 + y11.Many)).bind fun z5 =>
  (chk (x63 + 1)).bind fun z6 =>
  vQ y6 x44 k z5 z6
 else
  some x62
def tD (fuel : Nat) (rec_r05_Look_fill : bP → Int → (List Ref05_Chan) → Option (bP)) (y6 : ScopeDef) (y7 : List Ref05_Chan) : Nat → Int → (List ByteArray) → (List ScopeNode) → (List ScopeDef) → Int → (List (List Ref05_Chan)) → (List Int) → (List Int) → Option (List ByteArray × List ScopeNode × List ScopeDef × Int × List (List Ref05_Chan) × List Int × List Int)
| 0, _, _, _, _, _, _, _, _ => none
| k + 1, x44, x45, x46, x47, x48, x49, x50, x51 =>
 if x44 < (y6.Rules.length : Int) then
  ((vQ y6 x44 fuel 0 0).bind fun x59 =>
  (idx y6.Rules x44).bind fun y12 =>
  (wA fuel y7 x59).bind fun y13 =>
  (rec_r05_Look_fill (⟨(⟨x45, x46, x47, x48⟩ : ScopeProg), x49, x50, x51⟩ : bP) y12.Node y13).bind fun y14 =>
  some (y14.p.Free, y14.p.Nodes, y14.p.Defs, y14.p.Main, y14.Envs, y14.Sizes, y14.Heads)).bind fun (x52, x53, x54, x55, x56, x57, x58) =>
  (chk (x44 + 1)).bind fun z7 =>
  tD fuel rec_r05_Look_fill y6 y7 k z7 x52 x53 x54 x55 x56 x57 x58
 else
  some (x45, x46, x47, x48, x49, x50, x51)
def vC (rec_r05_Look_fill : bP → Int → (List Ref05_Chan) → Option (bP)) (y6 : ScopeDef) (y7 : List Ref05_Chan) : Nat → Int → (List ByteArray) → (List ScopeNode) → (List ScopeDef) → Int → (List (List Ref05_Chan)) → (List Int) → (List Int) → Option (List ByteArray × List ScopeNode × List ScopeDef × Int × List (List Ref05_Chan) × List Int × List Int)
| 0, _, _, _, _, _, _, _, _ => none
| k + 1, x79, x80, x81, x82, x83, x84, x85, x86 =>
 if x79 < (y6.Spots.length : Int) then
  (idx y6.Spots x79).bind fun y15 =>
  (rec_r05_Look_fill (⟨(⟨x80, x81, x82, x83⟩ : ScopeProg), x84, x85, x86⟩ : bP) y15.Node y7).bind fun y16 =>
  (chk (x79 + 1)).bind fun z8 =>
  vC rec_r05_Look_fill y6 y7 k z8 y16.p.Free y16.p.Nodes y16.p.Defs y16.p.Main y16.Envs y16.Sizes y16.Heads
 else
  some (x80, x81, x82, x83, x84, x85, x86)
def iV : Nat → bP → Int → (List Ref05_Chan) → Option (bP)
| 0, _, _, _ => none
| fuel + 1, a0, a1, a2 =>
 (idx a0.Envs a1).bind fun y1 =>
 (idx a0.p.Nodes a1).bind fun y2 =>
 (if y2.Op ≠ 4 then
  (tB (iV fuel) a2 y2 fuel 0 a0.p.Free a0.p.Nodes a0.p.Defs a0.p.Main (a0.Envs.set a1.toNat a2) a0.Sizes a0.Heads).bind fun (x1, x2, x3, x4, x5, x6, x7) =>
  (some (⟨(⟨x1, x2, x3, x4⟩ : ScopeProg), x5, x6, x7⟩ : bP)).bind fun r => some (Sum.inr r)
 else
  some (Sum.inl ())).bind fun o => match o with
 | Sum.inr r => some r
 | Sum.inl _ =>
 (idx a0.Heads y2.N).bind fun y5 =>
 (idx a0.p.Defs y2.N).bind fun y6 =>
 (dD (([] : List Ref05_Chan) ++ a2)).bind fun z2 =>
 (sL y2 y6 fuel z2 0).bind fun x24 =>
 (wA fuel x24 (y6.Spots.length : Int)).bind fun y7 =>
 (tD fuel (iV fuel) y6 y7 fuel 0 a0.p.Free a0.p.Nodes a0.p.Defs a0.p.Main (a0.Envs.set a1.toNat a2) a0.Sizes (a0.Heads.set y2.N.toNat a1)).bind fun (x29, x30, x31, x32, x33, x34, x35) =>
 (vC (iV fuel) y6 y7 fuel 0 x29 x30 x31 x32 x33 x34 x35).bind fun (x64, x65, x66, x67, x68, x69, x70) =>
 (idx y2.Kids 0).bind fun y17 =>
 ((iV fuel) (⟨(⟨x64, x65, x66, x67⟩ : ScopeProg), x68, x69, x70⟩ : bP) y17 y7).bind fun y18 =>
 some (⟨(⟨y18.p.Free, y18.p.Nodes, y18.p.Defs, y18.p.Main⟩ : ScopeProg), y18.Envs, y18.Sizes, y18.Heads⟩ : bP)
def uM (a0 : ScopeProg) : Nat → Int → (List (List Ref05_Chan)) → Option (List (List Ref05_Chan))
| 0, _, _ => none
| k + 1, x4, x5 =>
 if x4 < (a0.Nodes.length : Int) then
  (dD (x5 ++ [[]])).bind fun z1 =>
  (chk (x4 + 1)).bind fun z2 =>
  uM a0 k z2 z1
 else
  some x5
def tZ (a0 : ScopeProg) : Nat → Int → (List Int) → Option (List Int)
| 0, _, _ => none
| k + 1, x9, x10 =>
 if x9 < (a0.Defs.length : Int) then
  (dD (x10 ++ [0])).bind fun z3 =>
  (chk (x9 + 1)).bind fun z4 =>
  tZ a0 k z4 z3
 else
  some x10
def aA8 (fuel : Nat) (a0 : ScopeProg) : Option (bP) :=
 (pW fuel (⟨a0.Free, a0.Nodes, a0.Defs, a0.Main⟩ : ScopeProg)).bind fun y1 =>
 (uM a0 fuel 0 []).bind fun x1 =>
 (tZ a0 fuel 0 []).bind fun x6 =>
 (wA fuel [] (a0.Free.length : Int)).bind fun y2 =>
 (iV fuel (⟨(⟨a0.Free, a0.Nodes, a0.Defs, a0.Main⟩ : ScopeProg), x1, y1, x6⟩ : bP) a0.Main y2).bind fun y3 =>
 some (⟨(⟨y3.p.Free, y3.p.Nodes, y3.p.Defs, y3.p.Main⟩ : ScopeProg), y3.Envs, y3.Sizes, y3.Heads⟩ : bP)
def wX (a0 : Int) : Option (Int) :=
 if a0 = 0 then
  some 1
 else
  if a0 = 1 then
   some 3
  else
   some 4
def tH (a0 : Int) (a1 : Int) : Option (Int) :=
 (chk (a0 + a1)).bind fun z1 =>
 some (min z1 2)
def sZ (a0 : Int) : Option (Int) :=
 if a0 = 1 then
  some 0
 else
  if a0 = 4 then
   some 2
  else
   some 1
end Go.Proofs.YtmnbfgeljmhekaaGreat
set_option maxRecDepth 100000
set_option maxHeartbeats 2000000
namespace Go.Proofs.YtmnbfgeljmhekaaGreat
open Go.SX Go.SW Go.Dt
attribute [local irreducible] Code.wpIn wpListIn Exit.then Exit.inBlock
def qY (a1 : List UsageDef) (a3 : Int) (y1 : ScopeNode) (y3 : Ref05_Chan) : Nat → Int → Int → Option (Int)
| 0, _, _ => none
| k + 1, x5, x6 =>
 if x6 < (y1.Args.length : Int) then
  ((idx y1.Args x6).bind fun y6 =>
  if y6.Op ≠ 2 then
   some x5
  else
   (idx y1.Args x6).bind fun y7 =>
   if y7.N ≠ a3 then
    some x5
   else
    if y3.Def < 0 then
     some 2
    else
     (idx a1 y3.Def).bind fun y8 =>
     (idx y8.Args y3.Index).bind fun y9 =>
     (idx y9 x6).bind fun y10 =>
     (sZ y10).bind fun y11 =>
     (tH x5 y11).bind fun y12 =>
     some y12).bind fun x7 =>
  (chk (x6 + 1)).bind fun z1 =>
  qY a1 a3 y1 y3 k x7 z1
 else
  some x5
def aCC (fuel : Nat) (a0 : bP) (a1 : List UsageDef) (a2 : Int) (a3 : Int) : Option (Int) :=
 (idx a0.p.Nodes a2).bind fun y1 =>
 (idx a0.Envs a2).bind fun y2 =>
 (idx y2 y1.N).bind fun y3 =>
 (if 0 ≤ y3.Def then
  (idx a0.p.Defs y3.Def).bind fun y4 =>
  (idx y4.Chans y3.Index).bind fun y5 =>
  if y5.Many ≠ (y1.Args.length : Int) then
   (some 0).bind fun r => some (Sum.inr r)
  else
   some (Sum.inl ())
 else
  some (Sum.inl ())).bind fun o => match o with
 | Sum.inr r => some r
 | Sum.inl _ =>
 (if y1.N = a3 then
  some 1
 else
  some 0).bind fun x1 =>
 (qY a1 a3 y1 y3 fuel x1 0).bind fun x2 =>
 some x2
def aCk (a0 : Int) (a1 : Int) : Option (Int) :=
 (chk (a0 * a1)).bind fun z1 =>
 some (min z1 2)
def sH (rec_r05_Look_Sends : bP → (List UsageDef) → Int → Int → Option (Int)) (a0 : bP) (a1 : List UsageDef) (a3 : Int) (y2 : ScopeDef) : Nat → Int → Int → Option (Int)
| 0, _, _ => none
| k + 1, x4, x5 =>
 if x5 < (y2.Spots.length : Int) then
  (idx y2.Spots x5).bind fun y5 =>
  (rec_r05_Look_Sends a0 a1 y5.Node a3).bind fun y6 =>
  (tH x4 y6).bind fun y7 =>
  (chk (x5 + 1)).bind fun z1 =>
  sH rec_r05_Look_Sends a0 a1 a3 y2 k y7 z1
 else
  some x4
def vZ (rec_r05_Look_Sends : bP → (List UsageDef) → Int → Int → Option (Int)) (a0 : bP) (a1 : List UsageDef) (a3 : Int) (y1 : ScopeNode) (y2 : ScopeDef) : Nat → Int → Int → Option (Int)
| 0, _, _ => none
| k + 1, x9, x10 =>
 if x10 < (y2.Rules.length : Int) then
  (idx a1 y1.N).bind fun y8 =>
  (idx y8.Rules x10).bind fun y9 =>
  (sZ y9).bind fun y10 =>
  (idx y2.Rules x10).bind fun y11 =>
  (rec_r05_Look_Sends a0 a1 y11.Node a3).bind fun y12 =>
  (aCk y10 y12).bind fun y13 =>
  (tH x9 y13).bind fun y14 =>
  (chk (x10 + 1)).bind fun z2 =>
  vZ rec_r05_Look_Sends a0 a1 a3 y1 y2 k y14 z2
 else
  some x9
mutual
def gZ : Nat → bP → (List UsageDef) → Int → Int → Option (Int)
| 0, _, _, _, _ => none
| fuel + 1, a0, a1, a2, a3 =>
 (idx a0.p.Nodes a2).bind fun y1 =>
 if y1.Op = 2 then
  (aCC fuel a0 a1 a2 a3).bind fun y2 =>
  some y2
 else
  if y1.Op = 3 then
   (idx y1.Kids 0).bind fun y3 =>
   ((gZ fuel) a0 a1 y3 a3).bind fun y4 =>
   (idx y1.Kids 1).bind fun y5 =>
   ((gZ fuel) a0 a1 y5 a3).bind fun y6 =>
   (tH y4 y6).bind fun y7 =>
   some y7
  else
   if y1.Op = 5 then
    (idx y1.Kids 0).bind fun y8 =>
    ((gZ fuel) a0 a1 y8 a3).bind fun y9 =>
    (idx y1.Kids 1).bind fun y10 =>
    ((gZ fuel) a0 a1 y10 a3).bind fun y11 =>
    some (max y9 y11)
   else
    (if y1.Op = 6 then
     some (decide (y1.Op = 6))
    else
     some (decide (y1.Op = 8))).bind fun x1 =>
    bif x1 then
     (idx y1.Kids 0).bind fun y12 =>
     ((gZ fuel) a0 a1 y12 a3).bind fun y13 =>
     some y13
    else
     if y1.Op = 4 then
      ((yC fuel) a0 a1 a2 a3).bind fun y14 =>
      some y14
     else
      some 0
def yC : Nat → bP → (List UsageDef) → Int → Int → Option (Int)
| 0, _, _, _, _ => none
| fuel + 1, a0, a1, a2, a3 =>
 (idx a0.p.Nodes a2).bind fun y1 =>
 (idx a0.p.Defs y1.N).bind fun y2 =>
 (idx y1.Kids 0).bind fun y3 =>
 ((gZ fuel) a0 a1 y3 a3).bind fun y4 =>
 (sH (gZ fuel) a0 a1 a3 y2 fuel y4 0).bind fun x1 =>
 (vZ (gZ fuel) a0 a1 a3 y1 y2 fuel x1 0).bind fun x6 =>
 some x6
end
end Go.Proofs.YtmnbfgeljmhekaaGreat
set_option maxRecDepth 100000
set_option maxHeartbeats 2000000
namespace Go.Proofs.YtmnbfgeljmhekaaGreat
open Go.SX Go.SW Go.Dt
attribute [local irreducible] Code.wpIn wpListIn Exit.then Exit.inBlock
def tT (rec_r05_Look_Sure : bP → Int → Int → Option (Int)) (a0 : bP) (a2 : Int) (y2 : ScopeDef) : Nat → Int → Int → Option (Int)
| 0, _, _ => none
| k + 1, x4, x5 =>
 if x5 < (y2.Spots.length : Int) then
  (idx y2.Spots x5).bind fun y5 =>
  (rec_r05_Look_Sure a0 y5.Node a2).bind fun y6 =>
  (chk (x4 + y6)).bind fun z1 =>
  (chk (x5 + 1)).bind fun z2 =>
  tT rec_r05_Look_Sure a0 a2 y2 k z1 z2
 else
  some x4
mutual
def nP : Nat → bP → Int → Int → Option (Int)
| 0, _, _, _ => none
| fuel + 1, a0, a1, a2 =>
 (idx a0.p.Nodes a1).bind fun y1 =>
 (if y1.Op = 2 then
  (idx a0.Envs a1).bind fun y2 =>
  (idx y2 a2).bind fun y3 =>
  if y1.N = a2 then
   if 0 ≤ y3.Def then
    (idx a0.p.Defs y3.Def).bind fun y4 =>
    (idx y4.Chans y3.Index).bind fun y5 =>
    if y5.Many = (y1.Args.length : Int) then
     (some 1).bind fun r => some (Sum.inr r)
    else
     some (Sum.inl ())
   else
    some (Sum.inl ())
  else
   some (Sum.inl ())
 else
  if y1.Op = 3 then
   (idx y1.Kids 0).bind fun y6 =>
   ((nP fuel) a0 y6 a2).bind fun y7 =>
   (idx y1.Kids 1).bind fun y8 =>
   ((nP fuel) a0 y8 a2).bind fun y9 =>
   (chk (y7 + y9)).bind fun z1 =>
   (some z1).bind fun r => some (Sum.inr r)
  else
   if y1.Op = 5 then
    (idx y1.Kids 0).bind fun y10 =>
    ((nP fuel) a0 y10 a2).bind fun y11 =>
    (idx y1.Kids 1).bind fun y12 =>
    ((nP fuel) a0 y12 a2).bind fun y13 =>
    (some (min y11 y13)).bind fun r => some (Sum.inr r)
   else
    if y1.Op = 4 then
     ((uA fuel) a0 a1 a2).bind fun y14 =>
     (some y14).bind fun r => some (Sum.inr r)
    else
     some (Sum.inl ())).bind fun o => match o with
 | Sum.inr r => some r
 | Sum.inl _ =>
 some 0
def uA : Nat → bP → Int → Int → Option (Int)
| 0, _, _, _ => none
| fuel + 1, a0, a1, a2 =>
 (idx a0.p.Nodes a1).bind fun y1 =>
 (idx a0.p.Defs y1.N).bind fun y2 =>
 (idx y1.Kids 0).bind fun y3 =>
 ((nP fuel) a0 y3 a2).bind fun y4 =>
 (tT (nP fuel) a0 a2 y2 fuel y4 0).bind fun x1 =>
 some x1
end
def yV (a0 : bP) (a1 : Int) (a2 : Int) : Option (Int) :=
 (idx a0.Heads a1).bind fun y1 =>
 (idx a0.Sizes y1).bind fun y2 =>
 (chk (y2 + a2)).bind fun z1 =>
 some z1
def tO (a2 : Int) (a3 : Int) (y1 : ScopeDef) : Nat → Int → Int → Option (Int)
| 0, _, _ => none
| k + 1, x4, x5 =>
 if x5 < a3 then
  (idx y1.Rules a2).bind fun y4 =>
  (idx y4.Joins x5).bind fun y5 =>
  (idx y1.Chans y5).bind fun y6 =>
  (chk (x4 + y6.Many)).bind fun z4 =>
  (chk (x5 + 1)).bind fun z5 =>
  tO a2 a3 y1 k z4 z5
 else
  some x4
def aBc (fuel : Nat) (a0 : bP) (a1 : Int) (a2 : Int) (a3 : Int) (a4 : Int) : Option (Int) :=
 (idx a0.p.Defs a1).bind fun y1 =>
 (idx a0.Heads a1).bind fun y2 =>
 (idx a0.Sizes y2).bind fun y3 =>
 (chk (y3 + (y1.Chans.length : Int))).bind fun z1 =>
 (chk (z1 + (y1.Spots.length : Int))).bind fun z2 =>
 (chk (z2 + a4)).bind fun z3 =>
 (tO a2 a3 y1 fuel z3 0).bind fun x1 =>
 some x1
end Go.Proofs.YtmnbfgeljmhekaaGreat
set_option maxRecDepth 100000
set_option maxHeartbeats 2000000
namespace Go.Proofs.YtmnbfgeljmhekaaGreat
open Go.SX Go.SW Go.Dt
attribute [local irreducible] Code.wpIn wpListIn Exit.then Exit.inBlock
def rA (fuel : Nat) (a0 : bP) (a1 : List UsageDef) (a2 : Int) (a3 : Int) (a4 : Int) (y1 : ScopeDef) (x5 : Int) : Nat → Int → Int → Option (Int)
| 0, _, _ => none
| k + 1, x9, x10 =>
 (idx y1.Rules x5).bind fun y2 =>
 if x10 < (y2.Joins.length : Int) then
  ((idx y1.Rules x5).bind fun y3 =>
  (idx y3.Joins x10).bind fun y4 =>
  if y4 = a3 then
   (idx a1 a2).bind fun y5 =>
   (idx y5.Rules x5).bind fun y6 =>
   (sZ y6).bind fun y7 =>
   if 0 < y7 then
    (idx y1.Rules x5).bind fun y8 =>
    (aBc fuel a0 a2 x5 x10 a4).bind fun y9 =>
    (gZ fuel a0 a1 y8.Node y9).bind fun y10 =>
    some (max x9 y10)
   else
    some x9
  else
   some x9).bind fun x11 =>
  (chk (x10 + 1)).bind fun z1 =>
  rA fuel a0 a1 a2 a3 a4 y1 x5 k x11 z1
 else
  some x9
def vK (fuel : Nat) (a0 : bP) (a1 : List UsageDef) (a2 : Int) (a3 : Int) (a4 : Int) (y1 : ScopeDef) : Nat → Int → Int → Option (Int)
| 0, _, _ => none
| k + 1, x4, x5 =>
 if x5 < (y1.Rules.length : Int) then
  (rA fuel a0 a1 a2 a3 a4 y1 x5 fuel x4 0).bind fun x6 =>
  (chk (x5 + 1)).bind fun z2 =>
  vK fuel a0 a1 a2 a3 a4 y1 k x6 z2
 else
  some x4
def aFu (fuel : Nat) (a0 : bP) (a1 : List UsageDef) (a2 : Int) (a3 : Int) (a4 : Int) : Option (Int) :=
 (idx a0.p.Defs a2).bind fun y1 =>
 (vK fuel a0 a1 a2 a3 a4 y1 fuel 0 0).bind fun x1 =>
 some x1
def tP (fuel : Nat) (a0 : bP) (a1 : List UsageDef) (a2 : Int) (y1 : ScopeDef) (x6 : Int) : Nat → (List Int) → Int → Option (List Int)
| 0, _, _ => none
| k + 1, x14, x15 =>
 (idx y1.Chans x6).bind fun y6 =>
 if x15 < y6.Many then
  (aFu fuel a0 a1 a2 x6 x15).bind fun y7 =>
  (wX y7).bind fun y8 =>
  (dD (x14 ++ [y8])).bind fun z2 =>
  (chk (x15 + 1)).bind fun z3 =>
  tP fuel a0 a1 a2 y1 x6 k z2 z3
 else
  some x14
def vN (fuel : Nat) (a0 : bP) (a1 : List UsageDef) (a2 : Int) (y1 : ScopeDef) : Nat → Int → (List Int) → (List (List Int)) → Option (List Int × List (List Int))
| 0, _, _, _ => none
| k + 1, x6, x7, x8 =>
 if x6 < (y1.Chans.length : Int) then
  ((idx a0.Heads a2).bind fun y2 =>
  (yV a0 a2 x6).bind fun y3 =>
  (yC fuel a0 a1 y2 y3).bind fun y4 =>
  (wX y4).bind fun y5 =>
  (dD (x7 ++ [y5])).bind fun z1 =>
  (tP fuel a0 a1 a2 y1 x6 fuel ([] : List Int) 0).bind fun x11 =>
  (dD (x8 ++ ([x11] : List (List Int)))).bind fun z4 =>
  some (z1, z4)).bind fun (x9, x10) =>
  (chk (x6 + 1)).bind fun z5 =>
  vN fuel a0 a1 a2 y1 k z5 x9 x10
 else
  some (x7, x8)
def vP (a1 : List UsageDef) (a2 : Int) (y1 : ScopeDef) (x19 : Int) : Nat → Int → Int → Option (Int)
| 0, _, _ => none
| k + 1, x25, x26 =>
 (idx y1.Rules x19).bind fun y9 =>
 if x26 < (y9.Joins.length : Int) then
  (idx a1 a2).bind fun y10 =>
  (idx y1.Rules x19).bind fun y11 =>
  (idx y11.Joins x26).bind fun y12 =>
  (idx y10.Chans y12).bind fun y13 =>
  (sZ y13).bind fun y14 =>
  (chk (x26 + 1)).bind fun z6 =>
  vP a1 a2 y1 x19 k (min x25 y14) z6
 else
  some x25
def vG (fuel : Nat) (a1 : List UsageDef) (a2 : Int) (y1 : ScopeDef) : Nat → Int → (List Int) → Option (List Int)
| 0, _, _ => none
| k + 1, x19, x20 =>
 if x19 < (y1.Rules.length : Int) then
  ((vP a1 a2 y1 x19 fuel 2 0).bind fun x22 =>
  (wX x22).bind fun y15 =>
  (dD (x20 ++ [y15])).bind fun z7 =>
  some z7).bind fun x21 =>
  (chk (x19 + 1)).bind fun z8 =>
  vG fuel a1 a2 y1 k z8 x21
 else
  some x20
def yY (fuel : Nat) (a0 : bP) (a1 : List UsageDef) (a2 : Int) : Option (UsageDef) :=
 (idx a0.p.Defs a2).bind fun y1 =>
 (vN fuel a0 a1 a2 y1 fuel 0 [] []).bind fun (x1, x2) =>
 (vG fuel a1 a2 y1 fuel 0 []).bind fun x16 =>
 some (⟨x1, x16, x2⟩ : UsageDef)
def uY (fuel : Nat) (a0 : bP) (a1 : List UsageDef) : Nat → (List UsageDef) → Int → Option (List UsageDef)
| 0, _, _ => none
| k + 1, x4, x5 =>
 if x5 < (a0.p.Defs.length : Int) then
  (yY fuel a0 a1 x5).bind fun y1 =>
  (dD (x4 ++ ([(⟨y1.Chans, y1.Rules, y1.Args⟩ : UsageDef)] : List UsageDef))).bind fun z1 =>
  (chk (x5 + 1)).bind fun z2 =>
  uY fuel a0 a1 k z1 z2
 else
  some x4
def aB4 (fuel : Nat) (a0 : bP) (a1 : List UsageDef) : Option (List UsageDef) :=
 (uY fuel a0 a1 fuel [] 0).bind fun x1 =>
 some x1
def uO (a0 : ScopeProg) (x5 : Int) (x12 : Int) : Nat → (List Int) → Int → Option (List Int)
| 0, _, _ => none
| k + 1, x20, x21 =>
 (idx a0.Defs x5).bind fun y2 =>
 (idx y2.Chans x12).bind fun y3 =>
 if x21 < y3.Many then
  (dD (x20 ++ [1])).bind fun z2 =>
  (chk (x21 + 1)).bind fun z3 =>
  uO a0 x5 x12 k z2 z3
 else
  some x20
def tA (fuel : Nat) (a0 : ScopeProg) (x5 : Int) : Nat → Int → (List Int) → (List (List Int)) → Option (List Int × List (List Int))
| 0, _, _, _ => none
| k + 1, x12, x13, x14 =>
 (idx a0.Defs x5).bind fun y1 =>
 if x12 < (y1.Chans.length : Int) then
  ((dD (x13 ++ [1])).bind fun z1 =>
  (uO a0 x5 x12 fuel ([] : List Int) 0).bind fun x17 =>
  (dD (x14 ++ ([x17] : List (List Int)))).bind fun z4 =>
  some (z1, z4)).bind fun (x15, x16) =>
  (chk (x12 + 1)).bind fun z5 =>
  tA fuel a0 x5 k z5 x15 x16
 else
  some (x13, x14)
def sS (a0 : ScopeProg) (x5 : Int) : Nat → Int → (List Int) → Option (List Int)
| 0, _, _ => none
| k + 1, x25, x26 =>
 (idx a0.Defs x5).bind fun y4 =>
 if x25 < (y4.Rules.length : Int) then
  (dD (x26 ++ [1])).bind fun z6 =>
  (chk (x25 + 1)).bind fun z7 =>
  sS a0 x5 k z7 z6
 else
  some x26
def sO (fuel : Nat) (a0 : ScopeProg) : Nat → (List UsageDef) → Int → Option (List UsageDef)
| 0, _, _ => none
| k + 1, x4, x5 =>
 if x5 < (a0.Defs.length : Int) then
  ((tA fuel a0 x5 fuel 0 [] []).bind fun (x7, x8) =>
  (sS a0 x5 fuel 0 []).bind fun x22 =>
  (dD (x4 ++ ([(⟨x7, x22, x8⟩ : UsageDef)] : List UsageDef))).bind fun z8 =>
  some z8).bind fun x6 =>
  (chk (x5 + 1)).bind fun z9 =>
  sO fuel a0 k x6 z9
 else
  some x4
def aBN (fuel : Nat) (a0 : ScopeProg) : Option (List UsageDef) :=
 (sO fuel a0 fuel [] 0).bind fun x1 =>
 some x1
end Go.Proofs.YtmnbfgeljmhekaaGreat
set_option maxRecDepth 100000
set_option maxHeartbeats 2000000
namespace Go.Proofs.YtmnbfgeljmhekaaGreat
open Go.SX Go.SW Go.Dt
attribute [local irreducible] Code.wpIn wpListIn Exit.then Exit.inBlock
def wW (fuel : Nat) (y1 : bP) : Nat → (List UsageDef) → Option (List UsageDef)
| 0, _ => none
| k + 1, x3 =>
 (aB4 fuel y1 x3).bind fun y3 =>
 (sP fuel x3 y3).bind fun y4 =>
 bif y4 then
  some x3
 else
  wW fuel y1 k y3
def sQ (fuel : Nat) (y1 : bP) (x8 : Int) : Nat → (List UsageDef) → Int → Option (List UsageDef)
| 0, _, _ => none
| k + 1, x12, x13 =>
 (idx x12 x8).bind fun y5 =>
 if x13 < (y5.Chans.length : Int) then
  ((idx x12 x8).bind fun y6 =>
  (idx y5.Chans x13).bind fun y7 =>
  if y7 = 3 then
   (idx y1.Heads x8).bind fun y8 =>
   (yV y1 x8 x13).bind fun y9 =>
   (uA fuel y1 y8 y9).bind fun y10 =>
   if y10 = 1 then
    (idx x12 x8).bind fun y11 =>
    (idx y5.Chans x13).bind fun y12 =>
    some (y5.Chans.set x13.toNat 2)
   else
    some y5.Chans
  else
   some y5.Chans).bind fun x14 =>
  (chk (x13 + 1)).bind fun z1 =>
  sQ fuel y1 x8 k (x12.set x8.toNat ({ y5 with Chans := x14 })) z1
 else
  some (x12.set x8.toNat ({ y5 with Chans := y5.Chans }))
def rP (fuel : Nat) (y1 : bP) : Nat → (List UsageDef) → Int → Option (List UsageDef)
| 0, _, _ => none
| k + 1, x7, x8 =>
 if x8 < (x7.length : Int) then
  (sQ fuel y1 x8 fuel x7 0).bind fun x9 =>
  (chk (x8 + 1)).bind fun z2 =>
  rP fuel y1 k x9 z2
 else
  some x7
def yS (a0 : List ScopeNode) : Option (List ScopeNode) :=
 (dD (([] : List ScopeNode) ++ a0)).bind fun z1 =>
 some z1
theorem aGQ  (a0 : List ScopeNode) (r : List ScopeNode) (H : yS a0 = some r) : FnS Tryz.prog 52 [fSl aL a0] [] fAny (fun v => [(fun v => aE v 51 aL r) v]) := by
 unfold yS at H
 refine bB Tryz.func52 rfl Tryz.ntmps52 rfl (fun β => ?_)
 refine Z3 ?_
 refine aG ?_
 refine Z2 ?_
 refine Yy (xP rfl hh (us rfl)) ?_
 refine Z1 ?_
 refine xJ (has rfl) (fun hx => ?_) ?_
 replace H : some ([] : List ScopeNode) = some r := by subst hx; exact H
 refine Z4 ?_
 refine qC aL 51 ?_
 cases H
 exact pH rfl (bM rfl) (fun _ _ _ => trivial) rfl
 refine Z3 ?_
 refine Tn (cJ (t := aL) (xs := ([] : List ScopeNode)) rfl (et rfl) aP.nil rfl rfl rfl) fun b1 => ?_
 generalize (Value.slice (some ⟨b1, 0, none⟩) _ _) = v1
 refine aS 0 rfl (fun hc_v1 => ?_)
 revert H; refine B1 fun z1 h1 H => ?_
 refine oO (ys := a0) trivial rfl rfl rfl (has rfl) (has rfl) (et rfl) rfl h1 (fun v2 => ?_)
 refine aS 0 rfl (fun hc_v2 => ?_)
 refine Z3 ?_
 cases H
 exact pH rfl (bM rfl) (fun _ _ _ => trivial) rfl
end Go.Proofs.YtmnbfgeljmhekaaGreat
set_option maxRecDepth 100000
set_option maxHeartbeats 2000000
namespace Go.Proofs.YtmnbfgeljmhekaaGreat
open Go.SX Go.SW Go.Dt
attribute [local irreducible] Code.wpIn wpListIn Exit.then Exit.inBlock
def aAg (a0 : List Int) : Option (List Int) :=
 (dD (([] : List Int) ++ a0)).bind fun z1 =>
 some z1
theorem aIw  (a0 : List Int) (r : List Int) (H : aAg a0 = some r) : FnS Tryz.prog 53 [fSl (aB .i64) a0] [] (fSl (aB .i64) r) (fun _ => []) := by
 unfold aAg at H
 refine bB Tryz.func53 rfl Tryz.ntmps53 rfl (fun β => ?_)
 refine Z3 ?_
 refine aG ?_
 refine Z2 ?_
 refine Yy (xP rfl hh (us rfl)) ?_
 refine Z1 ?_
 refine xJ (has rfl) (fun hx => ?_) ?_
 replace H : some [] = some r := by subst hx; exact H
 refine Z4 ?_
 cases H
 exact kV rfl (iJ rfl dU) rfl
 refine Z3 ?_
 refine Tn (cJ (t := (aB .i64)) (xs := ([] : List Int)) rfl (et rfl) aP.nil rfl rfl rfl) fun b1 => ?_
 generalize (Value.slice (some ⟨b1, 0, none⟩) _ _) = v1
 refine aS 0 rfl (fun hc_v1 => ?_)
 revert H; refine B1 fun z1 h1 H => ?_
 refine oO (ys := a0) trivial rfl rfl rfl (has rfl) (has rfl) (et rfl) rfl h1 (fun v2 => ?_)
 refine aS 0 rfl (fun hc_v2 => ?_)
 refine Z3 ?_
 refine cO (φ := fSl (aB .i64) z1) (v := v2) [2, 7] cG fz ?_
 refine cP ?_
 cases H
 exact To
def aAc (a0 : List ScopeDef) : Option (List ScopeDef) :=
 (dD (([] : List ScopeDef) ++ a0)).bind fun z1 =>
 some z1
theorem aGI  (a0 : List ScopeDef) (r : List ScopeDef) (H : aAc a0 = some r) : FnS Tryz.prog 54 [fSl aI a0] [] fAny (fun v => [(fun v => aE v 99 aI r) v]) := by
 unfold aAc at H
 refine bB Tryz.func54 rfl Tryz.ntmps54 rfl (fun β => ?_)
 refine Z3 ?_
 refine aG ?_
 refine Z2 ?_
 refine Yy (xP rfl hh (us rfl)) ?_
 refine Z1 ?_
 refine xJ (has rfl) (fun hx => ?_) ?_
 replace H : some ([] : List ScopeDef) = some r := by subst hx; exact H
 refine Z4 ?_
 refine qC aI 99 ?_
 cases H
 exact pH rfl (bM rfl) (fun _ _ _ => trivial) rfl
 refine Z3 ?_
 refine Tn (cJ (t := aI) (xs := ([] : List ScopeDef)) rfl (et rfl) aP.nil rfl rfl rfl) fun b1 => ?_
 generalize (Value.slice (some ⟨b1, 0, none⟩) _ _) = v1
 refine aS 0 rfl (fun hc_v1 => ?_)
 revert H; refine B1 fun z1 h1 H => ?_
 refine oO (ys := a0) trivial rfl rfl rfl (has rfl) (has rfl) (et rfl) rfl h1 (fun v2 => ?_)
 refine aS 0 rfl (fun hc_v2 => ?_)
 refine Z3 ?_
 cases H
 exact pH rfl (bM rfl) (fun _ _ _ => trivial) rfl
def aAw (a0 : List ScopeSpot) : Option (List ScopeSpot) :=
 (dD (([] : List ScopeSpot) ++ a0)).bind fun z1 =>
 some z1
theorem aHr  (a0 : List ScopeSpot) (r : List ScopeSpot) (H : aAw a0 = some r) : FnS Tryz.prog 55 [fSl bV a0] [] (fSl bV r) (fun _ => []) := by
 unfold aAw at H
 refine bB Tryz.func55 rfl Tryz.ntmps55 rfl (fun β => ?_)
 refine Z3 ?_
 refine aG ?_
 refine Z2 ?_
 refine Yy (xP rfl hh (us rfl)) ?_
 refine Z1 ?_
 refine xJ (has rfl) (fun hx => ?_) ?_
 replace H : some [] = some r := by subst hx; exact H
 refine Z4 ?_
 cases H
 exact kV rfl (iJ rfl dU) rfl
 refine Z3 ?_
 refine Tn (cJ (t := bV) (xs := ([] : List ScopeSpot)) rfl (et rfl) aP.nil rfl rfl rfl) fun b1 => ?_
 generalize (Value.slice (some ⟨b1, 0, none⟩) _ _) = v1
 refine aS 0 rfl (fun hc_v1 => ?_)
 revert H; refine B1 fun z1 h1 H => ?_
 refine oO (ys := a0) trivial rfl rfl rfl (has rfl) (has rfl) (et rfl) rfl h1 (fun v2 => ?_)
 refine aS 0 rfl (fun hc_v2 => ?_)
 refine Z3 ?_
 refine cO (φ := fSl bV z1) (v := v2) [2, 7] cG fz ?_
 refine cP ?_
 cases H
 exact To
def aAC (a0 : List ScopeRule) : Option (List ScopeRule) :=
 (dD (([] : List ScopeRule) ++ a0)).bind fun z1 =>
 some z1
theorem aGN  (a0 : List ScopeRule) (r : List ScopeRule) (H : aAC a0 = some r) : FnS Tryz.prog 56 [fSl bH a0] [] (fSl bH r) (fun _ => []) := by
 unfold aAC at H
 refine bB Tryz.func56 rfl Tryz.ntmps56 rfl (fun β => ?_)
 refine Z3 ?_
 refine aG ?_
 refine Z2 ?_
 refine Yy (xP rfl hh (us rfl)) ?_
 refine Z1 ?_
 refine xJ (has rfl) (fun hx => ?_) ?_
 replace H : some [] = some r := by subst hx; exact H
 refine Z4 ?_
 cases H
 exact kV rfl (iJ rfl dU) rfl
 refine Z3 ?_
 refine Tn (cJ (t := bH) (xs := ([] : List ScopeRule)) rfl (et rfl) aP.nil rfl rfl rfl) fun b1 => ?_
 generalize (Value.slice (some ⟨b1, 0, none⟩) _ _) = v1
 refine aS 0 rfl (fun hc_v1 => ?_)
 revert H; refine B1 fun z1 h1 H => ?_
 refine oO (ys := a0) trivial rfl rfl rfl (has rfl) (has rfl) (et rfl) rfl h1 (fun v2 => ?_)
 refine aS 0 rfl (fun hc_v2 => ?_)
 refine Z3 ?_
 refine cO (φ := fSl bH z1) (v := v2) [2, 7] cG fz ?_
 refine cP ?_
 cases H
 exact To
def nK (y1 : List ScopeNode) : Nat → Int → (List ScopeNode) → Option (List ScopeNode)
| 0, _, _ => none
| k + 1, x4, x5 =>
 if x4 < (y1.length : Int) then
  (idx x5 x4).bind fun y2 =>
  (aAg y2.Kids).bind fun y3 =>
  (idx x5 x4).bind fun y4 =>
  (chk (x4 + 1)).bind fun z1 =>
  nK y1 k z1 (x5.set x4.toNat ({ y4 with Kids := y3 }))
 else
  some x5
def mW (y5 : List ScopeDef) : Nat → Int → (List ScopeDef) → Option (List ScopeDef)
| 0, _, _ => none
| k + 1, x9, x10 =>
 if x9 < (y5.length : Int) then
  (idx x10 x9).bind fun y6 =>
  (aAw y6.Spots).bind fun y7 =>
  (idx x10 x9).bind fun y8 =>
  (idx (x10.set x9.toNat ({ y8 with Spots := y7 })) x9).bind fun y9 =>
  (aAC y9.Rules).bind fun y10 =>
  (idx (x10.set x9.toNat ({ y8 with Spots := y7 })) x9).bind fun y11 =>
  (chk (x9 + 1)).bind fun z2 =>
  mW y5 k z2 ((x10.set x9.toNat ({ y8 with Spots := y7 })).set x9.toNat ({ y11 with Rules := y10 }))
 else
  some x10
def wS (fuel : Nat) (a0 : ScopeProg) : Option (ScopeProg) :=
 (yS a0.Nodes).bind fun y1 =>
 (nK y1 fuel 0 y1).bind fun x1 =>
 (aAc a0.Defs).bind fun y5 =>
 (mW y5 fuel 0 y5).bind fun x6 =>
 some (⟨a0.Free, x1, x6, a0.Main⟩ : ScopeProg)
theorem aG2 (fuel : Nat)  (a0 : ScopeProg) (r : ScopeProg) (H : wS fuel a0 = some r) : FnS Tryz.prog 20 [fSt dJ a0] [] fAny (fun v => [rJ .agg [.pure (fSl aN r.Free), .own (fun v => aE v 51 aL r.Nodes) (fun _ => dS), .own (fun v => aE v 99 aI r.Defs) (fun _ => dS), .pure (aA .i64 r.Main)] v]) := by
 unfold wS at H
 refine bB Tryz.func20 rfl Tryz.ntmps20 rfl (fun β => ?_)
 refine Z1 ?_
 refine Tn (cD rfl (has rfl) bJ) fun b1 => ?_
 refine Tn (cL rfl aAr rfl) fun b2 => ?_
 revert H; refine B4 fun y1 h1 H => ?_
 refine rK trivial rfl rfl rfl (has rfl) (aK.cons (has rfl) aK.nil) rfl (cb rfl) (aGQ a0.Nodes y1 h1) (Δi := []) rfl (fun v1 => ?_)
 dsimp only [List.append, List.cons_append, List.nil_append]
 refine aS 0 rfl (fun hc_v1 => ?_)
 refine Z1 ?_
 refine eB ?_
 refine cX (φs' := [fSl aN a0.Free, fEq v1, fSl aI a0.Defs, aA .i64 a0.Main]) trivial rfl rfl (has rfl) (has rfl) (aD hc_v1) (sz rfl) rfl rfl ?_
 revert H; refine B1 fun o1 H Hr1 => ?_
 refine aW (ι := List ScopeNode) (fun i => o1 = i) (fun i => [(1, fEq (ptr b1)), (2, fEq (ptr b2))]) (fun i => [aC b1 26 [fSl aN a0.Free, fEq v1, fSl aI a0.Defs, aA .i64 a0.Main], aC b2 26 [fEq (.slice none 0 0), fEq (.slice none 0 0), fEq (.slice none 0 0), aA .i64 0], aE v1 51 aL i]) ?_ ?_
 refine Z7 ?_
 refine aJ [0, 2, 1] (by decide) ?_
 refine Tl (ι := Nat × Int × List ScopeNode) (fun i => nK y1 i.1 i.2.1 i.2.2 = _) (fun i => i.1) (fun i => [(1, fEq (ptr b1)), (2, fEq (ptr b2)), (11, aA .i64 (y1.length : Int)), (12, aA .i64 i.2.1)]) (fun i => [aC b1 26 [fSl aN a0.Free, fEq v1, fSl aI a0.Defs, aA .i64 a0.Main], aC b2 26 [fEq (.slice none 0 0), fEq (.slice none 0 0), fEq (.slice none 0 0), aA .i64 0], aE v1 51 aL i.2.2]) (fuel, 0, y1) H ?_
 clear H; rintro ⟨k1, x4, x5⟩ H
 replace H : nK y1 k1 x4 x5 = _ := H
 try dsimp only
 obtain _ | k1 := k1
 rw [nK] at H; cases H
 rw [nK] at H
 refine Z3 ?_
 refine aG ?_
 revert H; refine is (fun c1 H => ?_) fun c1 H => ?_
 refine Z3 ?_
 refine aG ?_
 revert H; refine B5 fun y2 h2 H => ?_
 revert H; refine bs fun y3 h3 H => ?_
 revert H; refine bs fun y4 h4 H => ?_
 apply bE (ods := [_, _, _, _, _, _, _, _, _, _, _, _, _]) 13 0 3 bF rfl rfl rfl
 refine ND ?_
 refine M7 ?_
 intros
 refine My (nB 3 rfl hh (fa rfl) rfl) fun _ => ?_
 refine Mo 2 rfl (iG rfl rfl hh (sc rfl) (bN h2) rfl) fun _ => ?_
 refine Nc (aIw _ _ h3) fun _ => ?_
 refine M1 ?_
 intros
 refine My (nB 3 rfl hh (fa rfl) rfl) fun _ => ?_
 refine mB (od := odC [2] true (fAny) [aE v1 51 aL (x5.set x4.toNat ({ y4 with Kids := y3 }))]) (p := 2) (z' := { y4 with Kids := y3 }) rfl (fun _ => rfl) (fun _ => rfl) trivial rfl rfl rfl rfl (has rfl) (has rfl) (aZ) (sz rfl) (bN h4) rfl rfl (fun _ => ?_)
 revert H; refine B5 fun z1 h5 H => ?_
 refine Z3 ?_
 exact Tm ((k1, z1, x5.set x4.toNat ({ y4 with Kids := y3 }))) ⟨H, ls⟩
 exact fk
 kernel_rfl
 refine Z6 ?_
 exact Tm (x5) (ij H)
 clear H; intro x1 hi; subst o1; have H := Hr1; clear Hr1; try dsimp only at H
 try dsimp only
 revert H; refine B3 fun y5 h6 H => ?_
 refine rK trivial rfl rfl rfl (has rfl) (aK.cons (has rfl) aK.nil) rfl (cb rfl) (aGI a0.Defs y5 h6) (Δi := []) rfl (fun v2 => ?_)
 dsimp only [List.append, List.cons_append, List.nil_append]
 refine aS 0 rfl (fun hc_v2 => ?_)
 refine Z1 ?_
 refine cU ?_
 refine cX (φs' := [fSl aN a0.Free, fEq v1, fEq v2, aA .i64 a0.Main]) trivial rfl rfl (has rfl) (has rfl) (aD hc_v2) (sz rfl) rfl rfl ?_
 revert H; refine B1 fun o2 H Hr2 => ?_
 refine aW (ι := List ScopeDef) (fun i => o2 = i) (fun i => [(1, fEq (ptr b1)), (2, fEq (ptr b2))]) (fun i => [aC b1 26 [fSl aN a0.Free, fEq v1, fEq v2, aA .i64 a0.Main], aC b2 26 [fEq (.slice none 0 0), fEq (.slice none 0 0), fEq (.slice none 0 0), aA .i64 0], aE v1 51 aL x1, aE v2 99 aI i]) ?_ ?_
 refine Z7 ?_
 refine aJ [0, 2, 3, 1] (by decide) ?_
 refine Tl (ι := Nat × Int × List ScopeDef) (fun i => mW y5 i.1 i.2.1 i.2.2 = _) (fun i => i.1) (fun i => [(1, fEq (ptr b1)), (2, fEq (ptr b2)), (34, aA .i64 (y5.length : Int)), (35, aA .i64 i.2.1)]) (fun i => [aC b1 26 [fSl aN a0.Free, fEq v1, fEq v2, aA .i64 a0.Main], aC b2 26 [fEq (.slice none 0 0), fEq (.slice none 0 0), fEq (.slice none 0 0), aA .i64 0], aE v1 51 aL x1, aE v2 99 aI i.2.2]) (fuel, 0, y5) H ?_
 clear H; rintro ⟨k2, x9, x10⟩ H
 replace H : mW y5 k2 x9 x10 = _ := H
 try dsimp only
 obtain _ | k2 := k2
 rw [mW] at H; cases H
 rw [mW] at H
 refine Z3 ?_
 refine aG ?_
 revert H; refine is (fun c2 H => ?_) fun c2 H => ?_
 refine Z3 ?_
 refine aG ?_
 refine Z5 ?_
 refine aG ?_
 revert H; refine bs fun y6 h7 H => ?_
 revert H; refine bs fun y7 h8 H => ?_
 revert H; refine bs fun y8 h9 H => ?_
 apply bE (ods := [_, _, _, _, _, _, _, _, _, _, _, _, _]) 13 0 4 bF rfl rfl rfl
 refine ND ?_
 refine M7 ?_
 intros
 refine My (nB 1 rfl hh (fa rfl) rfl) fun _ => ?_
 refine Mo 3 rfl (iG rfl rfl hh (sc rfl) (bN h7) rfl) fun _ => ?_
 refine Nc (aHr _ _ h8) fun _ => ?_
 refine M1 ?_
 intros
 refine My (nB 1 rfl hh (fa rfl) rfl) fun _ => ?_
 refine mB (od := odC [3] true (fAny) [aE v2 99 aI (x10.set x9.toNat ({ y8 with Spots := y7 }))]) (p := 3) (z' := { y8 with Spots := y7 }) rfl (fun _ => rfl) (fun _ => rfl) trivial rfl rfl rfl rfl (has rfl) (has rfl) (aZ) (sz rfl) (bN h9) rfl rfl (fun _ => ?_)
 revert H; refine B2 fun y9 h10 H => ?_
 revert H; refine bs fun y10 h11 H => ?_
 revert H; refine bs fun y11 h12 H => ?_
 apply bE (ods := [_, _, _, _, _, _, _, _, _, _, _, _, _]) 13 0 4 bF rfl rfl rfl
 refine ND ?_
 refine M7 ?_
 intros
 refine My (nB 2 rfl hh (fa rfl) rfl) fun _ => ?_
 refine Mo 3 rfl (iG rfl rfl hh (sc rfl) (bN h10) rfl) fun _ => ?_
 refine Nc (aGN _ _ h11) fun _ => ?_
 refine M1 ?_
 intros
 refine My (nB 2 rfl hh (fa rfl) rfl) fun _ => ?_
 refine mB (od := odC [3] true (fAny) [aE v2 99 aI ((x10.set x9.toNat ({ y8 with Spots := y7 })).set x9.toNat ({ y11 with Rules := y10 }))]) (p := 3) (z' := { y11 with Rules := y10 }) rfl (fun _ => rfl) (fun _ => rfl) trivial rfl rfl rfl rfl (has rfl) (has rfl) (aZ) (sz rfl) (bN h12) rfl rfl (fun _ => ?_)
 revert H; refine B5 fun z2 h13 H => ?_
 refine Z3 ?_
 exact Tm ((k2, z2, (x10.set x9.toNat ({ y8 with Spots := y7 })).set x9.toNat ({ y11 with Rules := y10 }))) ⟨H, ls⟩
 exact fk
 kernel_rfl
 exact fk
 kernel_rfl
 refine Z6 ?_
 exact Tm (x10) (ij H)
 clear H; intro x6 hi; subst o2; have H := Hr2; clear Hr2; try dsimp only at H
 try dsimp only
 refine Z2 ?_
 refine cU ?_
 refine dG (φs' := [fSl aN a0.Free, fEq v1, fEq v2, aA .i64 a0.Main]) trivial rfl rfl (has rfl) (has rfl) (aO (aZ) (aO (aD hc_v1) (aO (aD hc_v2) (aO (aD trivial) bX)))) (sz rfl) rfl rfl rfl ?_
 refine Z2 ?_
 cases H
 refine aJ [0, 2, 3] (by decide) ?_
 exact aFH rfl (ag rfl) (bM rfl) (eL.pure Ent.rfl (aZ) (eL.own (eL.own (eL.pure Ent.rfl (aD trivial) eL.nil)))) rfl rfl
def nI (a0 : List UsageDef) (a1 : List UsageDef) (a2 : UsageDef × UsageDef → Option Bool) : Nat → Int → Option ((Unit) ⊕ (Bool))
| 0, _ => none
| k + 1, x2 =>
 if x2 < (a0.length : Int) then
  (idx a0 x2).bind fun y1 =>
  (idx a1 x2).bind fun y2 =>
  (a2 ((⟨y1.Chans, y1.Rules, y1.Args⟩ : UsageDef), (⟨y2.Chans, y2.Rules, y2.Args⟩ : UsageDef))).bind fun y3 =>
  bif y3 then
   (chk (x2 + 1)).bind fun z1 =>
   nI a0 a1 a2 k z1
  else
   (some false).bind fun r => some (Sum.inr r)
 else
  some (Sum.inl ())
def xK (fuel : Nat) (a0 : List UsageDef) (a1 : List UsageDef) (a2 : UsageDef × UsageDef → Option Bool) : Option (Bool) :=
 if (a0.length : Int) ≠ (a1.length : Int) then
  some false
 else
  (nI a0 a1 a2 fuel 0).bind fun o => match o with
  | Sum.inr r => some r
  | Sum.inl _ =>
  some true
theorem aHc (fuel : Nat)  (a0 : List UsageDef) (a1 : List UsageDef) (a2 : UsageDef × UsageDef → Option Bool) (r : Bool) (H : xK fuel a0 a1 a2 = some r) : FnS Tryz.prog 57 [fSl bD a0, fSl bD a1, fFn Tryz.prog (fun (x : UsageDef × UsageDef) => [fSt bD x.1, fSt bD x.2]) (fun (r : Bool) => aH r) a2] [] (aH r) (fun _ => []) := by
 unfold xK at H
 refine bB Tryz.func57 rfl Tryz.ntmps57 rfl (fun β => ?_)
 refine Z3 ?_
 refine aG ?_
 revert H; refine I7 (fun c1 H => ?_) fun c1 H => ?_
 refine Z5 ?_
 cases H
 exact To
 revert H; refine B3 fun o1 H Hr1 => ?_
 refine aW (ι := Unit) (fun i => o1 = Sum.inl ()) (fun i => []) (fun i => []) ?_ ?_
 refine Z6 ?_
 refine Tl (ι := Nat × Int) (fun i => nI a0 a1 a2 i.1 i.2 = _) (fun i => i.1) (fun i => [(1, fSl bD a1), (2, fFn Tryz.prog (fun (x : UsageDef × UsageDef) => [fSt bD x.1, fSt bD x.2]) (fun (r : Bool) => aH r) a2), (15, fSl bD a0), (16, aA .i64 (a0.length : Int)), (17, aA .i64 i.2)]) (fun i => []) (fuel, 0) H ?_
 clear H; rintro ⟨k1, x2⟩ H
 replace H : nI a0 a1 a2 k1 x2 = _ := H
 try dsimp only
 obtain _ | k1 := k1
 rw [nI] at H; cases H
 rw [nI] at H
 refine Z3 ?_
 refine aG ?_
 revert H; refine is (fun c2 H => ?_) fun c2 H => ?_
 refine Z3 ?_
 refine aG ?_
 revert H; refine B3 fun y1 h1 H => ?_
 refine Z2 ?_
 refine Tn (cL rfl sT rfl) fun b1 => ?_
 refine Z1 ?_
 refine dG (φs' := [fSl (aB .i64) y1.Chans, fSl (aB .i64) y1.Rules, fSl (tSl (aB .i64)) y1.Args]) trivial rfl rfl (has rfl) (has rfl) (aO (aZ) (aO (aZ) (aO (aZ) bX))) (sz rfl) rfl rfl rfl ?_
 revert H; refine B4 fun y2 h2 H => ?_
 refine Z2 ?_
 refine Tn (cL rfl sT rfl) fun b2 => ?_
 refine dG (φs' := [fSl (aB .i64) y2.Chans, fSl (aB .i64) y2.Rules, fSl (tSl (aB .i64)) y2.Args]) trivial rfl rfl (has rfl) (has rfl) (aO (aZ) (aO (aZ) (aO (aZ) bX))) (sz rfl) rfl rfl rfl ?_
 revert H; refine B5 fun y3 h3 H => ?_
 refine uI ((⟨y1.Chans, y1.Rules, y1.Args⟩ : UsageDef), (⟨y2.Chans, y2.Rules, y2.Args⟩ : UsageDef)) trivial rfl rfl rfl (has rfl) (aK.cons (has rfl) (aK.cons (has rfl) aK.nil)) h3 ?_
 refine Z2 ?_
 revert H; refine cs (fun c3 H => ?_) fun c3 H => ?_
 revert H; refine B5 fun z1 h4 H => ?_
 refine Z3 ?_
 refine aJ [] (by decide) ?_
 exact Tm ((k1, z1)) ⟨H, ls⟩
 revert H; refine B10 fun r1 H e1 => ?_
 cases e1; cases Hr1
 cases H
 refine aJ [] (by decide) ?_
 exact To
 refine Z6 ?_
 exact Tm (()) (ij H)
 clear H; intro i hi; subst o1; have H := Hr1; clear Hr1; try dsimp only at H
 try dsimp only
 refine Z4 ?_
 cases H
 exact To
def mO (a0 : List Int) (a1 : List Int) (a2 : Int × Int → Option Bool) : Nat → Int → Option ((Unit) ⊕ (Bool))
| 0, _ => none
| k + 1, x2 =>
 if x2 < (a0.length : Int) then
  (idx a0 x2).bind fun y1 =>
  (idx a1 x2).bind fun y2 =>
  (a2 (y1, y2)).bind fun y3 =>
  bif y3 then
   (chk (x2 + 1)).bind fun z1 =>
   mO a0 a1 a2 k z1
  else
   (some false).bind fun r => some (Sum.inr r)
 else
  some (Sum.inl ())
def xT (fuel : Nat) (a0 : List Int) (a1 : List Int) (a2 : Int × Int → Option Bool) : Option (Bool) :=
 if (a0.length : Int) ≠ (a1.length : Int) then
  some false
 else
  (mO a0 a1 a2 fuel 0).bind fun o => match o with
  | Sum.inr r => some r
  | Sum.inl _ =>
  some true
theorem aGS (fuel : Nat)  (a0 : List Int) (a1 : List Int) (a2 : Int × Int → Option Bool) (r : Bool) (H : xT fuel a0 a1 a2 = some r) : FnS Tryz.prog 90 [fSl (aB .i64) a0, fSl (aB .i64) a1, fFn Tryz.prog (fun (x : Int × Int) => [aA .i64 x.1, aA .i64 x.2]) (fun (r : Bool) => aH r) a2] [] (aH r) (fun _ => []) := by
 unfold xT at H
 refine bB Tryz.func90 rfl Tryz.ntmps90 rfl (fun β => ?_)
 refine Z3 ?_
 refine aG ?_
 revert H; refine I7 (fun c1 H => ?_) fun c1 H => ?_
 refine Z5 ?_
 cases H
 exact To
 revert H; refine B3 fun o1 H Hr1 => ?_
 refine aW (ι := Unit) (fun i => o1 = Sum.inl ()) (fun i => []) (fun i => []) ?_ ?_
 refine Z6 ?_
 refine Tl (ι := Nat × Int) (fun i => mO a0 a1 a2 i.1 i.2 = _) (fun i => i.1) (fun i => [(1, fSl (aB .i64) a1), (2, fFn Tryz.prog (fun (x : Int × Int) => [aA .i64 x.1, aA .i64 x.2]) (fun (r : Bool) => aH r) a2), (15, fSl (aB .i64) a0), (16, aA .i64 (a0.length : Int)), (17, aA .i64 i.2)]) (fun i => []) (fuel, 0) H ?_
 clear H; rintro ⟨k1, x2⟩ H
 replace H : mO a0 a1 a2 k1 x2 = _ := H
 try dsimp only
 obtain _ | k1 := k1
 rw [mO] at H; cases H
 rw [mO] at H
 refine Z3 ?_
 refine aG ?_
 revert H; refine is (fun c2 H => ?_) fun c2 H => ?_
 refine Z3 ?_
 refine aG ?_
 revert H; refine B3 fun y1 h1 H => ?_
 revert H; refine B8 fun y2 h2 H => ?_
 revert H; refine B8 fun y3 h3 H => ?_
 refine uI (y1, y2) trivial rfl rfl rfl (has rfl) (aK.cons (has rfl) (aK.cons (has rfl) aK.nil)) h3 ?_
 refine Z2 ?_
 revert H; refine cs (fun c3 H => ?_) fun c3 H => ?_
 revert H; refine B5 fun z1 h4 H => ?_
 refine Z3 ?_
 exact Tm ((k1, z1)) ⟨H, ls⟩
 revert H; refine B10 fun r1 H e1 => ?_
 cases e1; cases Hr1
 cases H
 exact To
 refine Z6 ?_
 exact Tm (()) (ij H)
 clear H; intro i hi; subst o1; have H := Hr1; clear Hr1; try dsimp only at H
 try dsimp only
 refine Z4 ?_
 cases H
 exact To
def tU (a0 : Int) : Option (Int) :=
 if a0 = 1 then
  some 0
 else
  (if a0 = 2 then
   some (decide (a0 = 2))
  else
   some (decide (a0 = 3))).bind fun x1 =>
  bif x1 then
   some 1
  else
   some 1000
theorem aEl  (a0 : Int) (r : Int) (H : tU a0 = some r) : FnS Tryz.prog 92 [aA .i64 a0] [] (aA .i64 r) (fun _ => []) := by
 unfold tU at H
 refine bB Tryz.func92 rfl Tryz.ntmps92 rfl (fun β => ?_)
 refine Z3 ?_
 refine aG ?_
 revert H; refine I8 (fun c1 H => ?_) fun c1 H => ?_
 refine Z7 ?_
 cases H
 exact To
 revert H; refine B1 fun o1 H Hr1 => ?_
 refine aW (ι := Bool) (fun i => o1 = i) (fun i => [(6, aH i)]) (fun i => []) ?_ ?_
 revert H; refine I4 (fun c2 H => ?_) fun c2 H => ?_
 refine Z3 ?_
 exact Tm (decide (a0 = 2)) (ij H)
 refine Z5 ?_
 exact Tm (decide (a0 = 3)) (ij H)
 clear H; intro x1 hi; subst o1; have H := Hr1; clear Hr1; try dsimp only at H
 try dsimp only
 revert H; refine cs (fun c3 H => ?_) fun c3 H => ?_
 refine Z7 ?_
 cases H
 exact To
 refine Z8 ?_
 cases H
 exact To
def vI (a0 : Int) (a1 : Int) : Option (Bool) :=
 (tU a0).bind fun y1 =>
 (tU a1).bind fun y2 =>
 some (decide (y1 ≤ y2))
theorem aIh  (a0 : Int) (a1 : Int) (r : Bool) (H : vI a0 a1 = some r) : FnS Tryz.prog 91 [aA .i64 a0, aA .i64 a1] [] (aH r) (fun _ => []) := by
 unfold vI at H
 refine bB Tryz.func91 rfl Tryz.ntmps91 rfl (fun β => ?_)
 revert H; refine B5 fun y1 h1 H => ?_
 refine Tc (aEl _ _ h1) ?_
 revert H; refine B1 fun y2 h2 H => ?_
 refine Tc (aEl _ _ h2) ?_
 refine Z4 ?_
 cases H
 exact To
def oP (fuel : Nat) (a0 : List Int) (a1 : List Int) : Option (Bool) :=
 (xT fuel a0 a1 (fun x => vI x.1 x.2)).bind fun y1 =>
 some y1
theorem aBd (fuel : Nat)  (a0 : List Int) (a1 : List Int) (r : Bool) (H : oP fuel a0 a1 = some r) : FnS Tryz.prog 59 [fSl (aB .i64) a0, fSl (aB .i64) a1] [] (aH r) (fun _ => []) := by
 unfold oP at H
 refine bB Tryz.func59 rfl Tryz.ntmps59 rfl (fun β => ?_)
 revert H; refine B6 fun y1 h1 H => ?_
 refine gI trivial rfl rfl rfl (has rfl) (aK.cons (has rfl) (aK.cons (has rfl) (aK.cons (cW rfl (mV (cb rfl) (fun x r hx => aIh x.1 x.2 r hx))) aK.nil))) rfl (cb rfl) (aGS fuel a0 a1 (fun x => vI x.1 x.2) y1 h1) rfl ?_
 refine Z3 ?_
 cases H
 exact To
def mF (a0 : List (List Int)) (a1 : List (List Int)) (a2 : (List Int) × (List Int) → Option Bool) : Nat → Int → Option ((Unit) ⊕ (Bool))
| 0, _ => none
| k + 1, x2 =>
 if x2 < (a0.length : Int) then
  (idx a0 x2).bind fun y1 =>
  (idx a1 x2).bind fun y2 =>
  (a2 (y1, y2)).bind fun y3 =>
  bif y3 then
   (chk (x2 + 1)).bind fun z1 =>
   mF a0 a1 a2 k z1
  else
   (some false).bind fun r => some (Sum.inr r)
 else
  some (Sum.inl ())
def wR (fuel : Nat) (a0 : List (List Int)) (a1 : List (List Int)) (a2 : (List Int) × (List Int) → Option Bool) : Option (Bool) :=
 if (a0.length : Int) ≠ (a1.length : Int) then
  some false
 else
  (mF a0 a1 a2 fuel 0).bind fun o => match o with
  | Sum.inr r => some r
  | Sum.inl _ =>
  some true
theorem aID (fuel : Nat)  (a0 : List (List Int)) (a1 : List (List Int)) (a2 : (List Int) × (List Int) → Option Bool) (r : Bool) (H : wR fuel a0 a1 a2 = some r) : FnS Tryz.prog 60 [fSl (tSl (aB .i64)) a0, fSl (tSl (aB .i64)) a1, fFn Tryz.prog (fun (x : (List Int) × (List Int)) => [fSl (aB .i64) x.1, fSl (aB .i64) x.2]) (fun (r : Bool) => aH r) a2] [] (aH r) (fun _ => []) := by
 unfold wR at H
 refine bB Tryz.func60 rfl Tryz.ntmps60 rfl (fun β => ?_)
 refine Z3 ?_
 refine aG ?_
 revert H; refine I7 (fun c1 H => ?_) fun c1 H => ?_
 refine Z5 ?_
 cases H
 exact To
 revert H; refine B3 fun o1 H Hr1 => ?_
 refine aW (ι := Unit) (fun i => o1 = Sum.inl ()) (fun i => []) (fun i => []) ?_ ?_
 refine Z6 ?_
 refine Tl (ι := Nat × Int) (fun i => mF a0 a1 a2 i.1 i.2 = _) (fun i => i.1) (fun i => [(1, fSl (tSl (aB .i64)) a1), (2, fFn Tryz.prog (fun (x : (List Int) × (List Int)) => [fSl (aB .i64) x.1, fSl (aB .i64) x.2]) (fun (r : Bool) => aH r) a2), (15, fSl (tSl (aB .i64)) a0), (16, aA .i64 (a0.length : Int)), (17, aA .i64 i.2)]) (fun i => []) (fuel, 0) H ?_
 clear H; rintro ⟨k1, x2⟩ H
 replace H : mF a0 a1 a2 k1 x2 = _ := H
 try dsimp only
 obtain _ | k1 := k1
 rw [mF] at H; cases H
 rw [mF] at H
 refine Z3 ?_
 refine aG ?_
 revert H; refine is (fun c2 H => ?_) fun c2 H => ?_
 refine Z3 ?_
 refine aG ?_
 revert H; refine B3 fun y1 h1 H => ?_
 revert H; refine B8 fun y2 h2 H => ?_
 revert H; refine B8 fun y3 h3 H => ?_
 refine uI (y1, y2) trivial rfl rfl rfl (has rfl) (aK.cons (has rfl) (aK.cons (has rfl) aK.nil)) h3 ?_
 refine Z2 ?_
 revert H; refine cs (fun c3 H => ?_) fun c3 H => ?_
 revert H; refine B5 fun z1 h4 H => ?_
 refine Z3 ?_
 exact Tm ((k1, z1)) ⟨H, ls⟩
 revert H; refine B10 fun r1 H e1 => ?_
 cases e1; cases Hr1
 cases H
 exact To
 refine Z6 ?_
 exact Tm (()) (ij H)
 clear H; intro i hi; subst o1; have H := Hr1; clear Hr1; try dsimp only at H
 try dsimp only
 refine Z4 ?_
 cases H
 exact To
def uF (fuel : Nat) (a0 : UsageDef) (a1 : UsageDef) : Option (Bool) :=
 ((oP fuel a0.Chans a1.Chans).bind fun y1 =>
 bif y1 then
  (oP fuel a0.Rules a1.Rules).bind fun y2 =>
  bif y2 then
   (wR fuel a0.Args a1.Args (fun x => oP fuel x.1 x.2)).bind fun y3 =>
   some y3
  else
   some false
 else
  some false).bind fun x1 =>
 some x1
theorem aFZ (fuel : Nat)  (a0 : UsageDef) (a1 : UsageDef) (r : Bool) (H : uF fuel a0 a1 = some r) : FnS Tryz.prog 58 [fSt bD a0, fSt bD a1] [] (aH r) (fun _ => []) := by
 unfold uF at H
 refine bB Tryz.func58 rfl Tryz.ntmps58 rfl (fun β => ?_)
 refine Z1 ?_
 refine Tn (cD rfl (has rfl) bJ) fun b1 => ?_
 refine Tn (cD rfl (has rfl) bJ) fun b2 => ?_
 revert H; refine B2 fun o1 H Hr1 => ?_
 refine aW (ι := Bool) (fun i => o1 = i) (fun i => [(4, aH i)]) (fun i => [aC b2 61 [fSl (aB .i64) a1.Chans, fSl (aB .i64) a1.Rules, fSl (tSl (aB .i64)) a1.Args], aC b1 61 [fSl (aB .i64) a0.Chans, fSl (aB .i64) a0.Rules, fSl (tSl (aB .i64)) a0.Args]]) ?_ ?_
 revert H; refine B5 fun y1 h1 H => ?_
 refine Tc (aBd _ _ _ _ h1) ?_
 refine Z1 ?_
 revert H; refine cs (fun c1 H => ?_) fun c1 H => ?_
 revert H; refine B4 fun y2 h2 H => ?_
 refine Tc (aBd _ _ _ _ h2) ?_
 refine Z2 ?_
 revert H; refine cs (fun c2 H => ?_) fun c2 H => ?_
 revert H; refine B4 fun y3 h3 H => ?_
 refine gI ⟨_, _, rfl, rfl, c2⟩ rfl rfl rfl (has rfl) (aK.cons (has rfl) (aK.cons (has rfl) (aK.cons (cW rfl (mV (cb rfl) (fun x r hx => aBd fuel x.1 x.2 r hx))) aK.nil))) rfl (cb rfl) (aID fuel a0.Args a1.Args (fun x => oP fuel x.1 x.2) y3 h3) rfl ?_
 refine Z3 ?_
 exact Tm (y3) (ij H)
 refine Z8 ?_
 exact Tm (false) (ij H)
 refine Z12 ?_
 refine Z3 ?_
 exact Tm (false) (ij H)
 clear H; intro x1 hi; subst o1; have H := Hr1; clear Hr1; try dsimp only at H
 try dsimp only
 refine Z1 ?_
 cases H
 refine aJ [] (by decide) ?_
 exact To
def vY (fuel : Nat) (a0 : List UsageDef) (a1 : List UsageDef) : Option (Bool) :=
 (xK fuel a0 a1 (fun x => uF fuel x.1 x.2)).bind fun y1 =>
 some y1
theorem aHK (fuel : Nat)  (a0 : List UsageDef) (a1 : List UsageDef) (r : Bool) (H : vY fuel a0 a1 = some r) : FnS Tryz.prog 21 [fSl bD a0, fSl bD a1] [] (aH r) (fun _ => []) := by
 unfold vY at H
 refine bB Tryz.func21 rfl Tryz.ntmps21 rfl (fun β => ?_)
 revert H; refine B6 fun y1 h1 H => ?_
 refine gI trivial rfl rfl rfl (has rfl) (aK.cons (has rfl) (aK.cons (has rfl) (aK.cons (cW rfl (mV (cb rfl) (fun x r hx => aFZ fuel x.1 x.2 r hx))) aK.nil))) rfl (cb rfl) (aHc fuel a0 a1 (fun x => uF fuel x.1 x.2) y1 h1) rfl ?_
 refine Z3 ?_
 cases H
 exact To
end Go.Proofs.YtmnbfgeljmhekaaGreat
set_option maxRecDepth 100000
set_option maxHeartbeats 2000000
namespace Go.Proofs.YtmnbfgeljmhekaaGreat
open Go.SX Go.SW Go.Dt
attribute [local irreducible] Code.wpIn wpListIn Exit.then Exit.inBlock
def nT (y5 : Int) (y8 : List Int) : Nat → Int → (List ScopeExp) → Option (List ScopeExp)
| 0, _, _ => none
| k + 1, x4, x5 =>
 if x4 < (y8.length : Int) then
  (idx y8 x4).bind fun y9 =>
  (remI .i64 (IntKind.wrap .i64 y9) y5).bind fun z4 =>
  (dD (x5 ++ [(⟨2, z4, []⟩ : ScopeExp)])).bind fun z5 =>
  (chk (x4 + 1)).bind fun z6 =>
  nT y5 y8 k z6 z5
 else
  some x5
def aAs (fuel : Nat) (a0 : ScopeProg) (a1 : Int) (a2 : Int) (a3 : List Int) : Option (Bool) :=
 (uV fuel (⟨a0.Free, a0.Nodes, a0.Defs, a0.Main⟩ : ScopeProg)).bind fun y1 =>
 if y1 ≠ 0 then
  (oQ fuel).bind fun y2 =>
  some y2
 else
  (chk ((a0.Nodes.length : Int) + 2)).bind fun z1 =>
  if 60 < z1 then
   (oQ fuel).bind fun y3 =>
   some y3
  else
   (remI .i64 (IntKind.wrap .i64 a1) (a0.Nodes.length : Int)).bind fun z2 =>
   (pW fuel (⟨a0.Free, a0.Nodes, a0.Defs, a0.Main⟩ : ScopeProg)).bind fun y4 =>
   (idx y4 z2).bind fun y5 =>
   if y5 = 0 then
    (oQ fuel).bind fun y6 =>
    some y6
   else
    (wS fuel (⟨a0.Free, a0.Nodes, a0.Defs, a0.Main⟩ : ScopeProg)).bind fun y7 =>
    (remI .i64 (IntKind.wrap .i64 a2) y5).bind fun z3 =>
    ((slc a3 0 (min (a3.length : Int) 3)).bind fun y8 =>
    nT y5 y8 fuel 0 []).bind fun x1 =>
    (idx y7.Nodes z2).bind fun y10 =>
    (dD (y7.Nodes ++ [y10, (⟨2, z3, x1, []⟩ : ScopeNode)])).bind fun z7 =>
    (chk ((a0.Nodes.length : Int) + 1)).bind fun z8 =>
    (idx z7 z2).bind fun y11 =>
    (uV fuel (⟨y7.Free, z7.set z2.toNat (⟨3, 0, [], [(a0.Nodes.length : Int), z8]⟩ : ScopeNode), y7.Defs, y7.Main⟩ : ScopeProg)).bind fun y12 =>
    if y12 ≠ 0 then
     (oQ fuel).bind fun y13 =>
     some y13
    else
     (pZ fuel (⟨a0.Free, a0.Nodes, a0.Defs, a0.Main⟩ : ScopeProg)).bind fun y14 =>
     (pZ fuel (⟨y7.Free, z7.set z2.toNat (⟨3, 0, [], [(a0.Nodes.length : Int), z8]⟩ : ScopeNode), y7.Defs, y7.Main⟩ : ScopeProg)).bind fun y15 =>
     (if y14.2 = 0 then
      if y15.2 = 0 then
       (vY fuel y14.1 y15.1).bind fun y16 =>
       bif y16 then
        (oQ fuel).bind fun y17 =>
        some y17
       else
        some false
      else
       some false
     else
      some false).bind fun x6 =>
     some x6
theorem aHA (fuel : Nat)  (a0 : ScopeProg) (a1 : Int) (a2 : Int) (a3 : List Int) (r : Bool) (H : aAs fuel a0 a1 a2 a3 = some r) : FnS Tryz.prog 7 [fSt dJ a0, aA .u8 a1, aA .u8 a2, fSl (aB .u8) a3] [] (aH r) (fun _ => []) := by
 unfold aAs at H
 refine bB Tryz.func7 rfl Tryz.ntmps7 rfl (fun β => ?_)
 refine Z1 ?_
 refine Tn (cD rfl (has rfl) bJ) fun b1 => ?_
 refine Z2 ?_
 refine aG ?_
 revert H; refine B2 fun y1 h1 H => ?_
 refine Tc (aEK _ _ _ h1) ?_
 revert H; refine I2 (fun c1 H => ?_) fun c1 H => ?_
 revert H; refine B9 fun y2 h2 H => ?_
 refine Tc (xE _ _ h2) ?_
 refine Z3 ?_
 cases H
 refine aJ [] (by decide) ?_
 exact To
 revert H; refine B3 fun z1 h3 H => ?_
 revert H; refine I4 (fun c2 H => ?_) fun c2 H => ?_
 revert H; refine B2 fun y3 h4 H => ?_
 refine Tc (xE _ _ h4) ?_
 refine Z3 ?_
 cases H
 refine aJ [] (by decide) ?_
 exact To
 refine Z5 ?_
 refine Yy (sW rfl hh aA4 tW) ?_
 revert H; refine B3 fun z2 h5 H => ?_
 refine Yy (o_rem rfl hh hh h5) ?_
 revert H; refine B4 fun y4 h6 H => ?_
 refine Tc (aHE _ _ _ h6) ?_
 revert H; refine B1 fun y5 h7 H => ?_
 refine Z4 ?_
 refine aG ?_
 revert H; refine I4 (fun c3 H => ?_) fun c3 H => ?_
 revert H; refine B2 fun y6 h8 H => ?_
 refine Tc (xE _ _ h8) ?_
 refine Z3 ?_
 cases H
 refine aJ [] (by decide) ?_
 exact To
 revert H; refine B5 fun y7 h9 H => ?_
 refine rK trivial rfl rfl rfl (has rfl) (aK.cons (has rfl) aK.nil) rfl (cb rfl) (aG2 fuel (⟨a0.Free, a0.Nodes, a0.Defs, a0.Main⟩ : ScopeProg) y7 h9) (Δi := []) rfl (fun v1 => ?_)
 dsimp only [List.append, List.cons_append, List.nil_append]
 refine aE4 (c := .agg) (fs := [.pure (fSl aN y7.Free), .own (fun v => aE v 51 aL y7.Nodes) (fun _ => dS), .own (fun v => aE v 99 aI y7.Defs) (fun _ => dS), .pure (aA .i64 y7.Main)]) (fun v2 v3 => ?_)
 dsimp only [List.append, List.cons_append, List.nil_append]
 refine aS 0 rfl (fun hc_v2 => ?_)
 refine aS 1 rfl (fun hc_v3 => ?_)
 refine Tn (cL rfl aAr rfl) fun b2 => ?_
 refine dG (φs' := [fSl aN y7.Free, fEq v2, fEq v3, aA .i64 y7.Main]) trivial rfl rfl (has rfl) (has rfl) (aO (aZ) (aO (aD hc_v2) (aO (aD hc_v3) (aO (aD trivial) bX)))) (sz rfl) rfl rfl rfl ?_
 refine Z3 ?_
 refine Yy (sW rfl hh aA4 tW) ?_
 revert H; refine B1 fun z3 h10 H => ?_
 refine Yy (o_rem rfl hh hh h10) ?_
 refine Yy (dO (ψs := [aA .i64 2, aA .i64 z3, fEq (.slice none 0 0), fEq (.slice none 0 0)]) rfl iU rfl (aU.cons (has rfl) (aT (aD trivial)) (aU.cons (has rfl) (aT (aD trivial)) aU.nil)) rfl) ?_
 refine Tn (cL rfl oT rfl) fun b3 => ?_
 refine dG (φs' := [aA .i64 2, aA .i64 z3, fEq (.slice none 0 0), fEq (.slice none 0 0)]) trivial rfl rfl (has rfl) (has rfl) (aO (aD trivial) (aO (aD trivial) (aO (aD trivial) (aO (aD trivial) bX)))) (sz rfl) rfl rfl rfl ?_
 revert H; refine B1 fun o1 H Hr1 => ?_
 refine aW (ι := List ScopeExp × Value) (fun i => o1 = i.1) (fun i => [(4, fEq (ptr b1)), (9, aA .i64 z2), (11, fEq (ptr b2)), (12, fEq (ptr b3))]) (fun i => [aC b3 51 [aA .i64 2, aA .i64 z3, fEq i.2, fEq (.slice none 0 0)], aC b2 26 [fSl aN y7.Free, fEq v2, fEq v3, aA .i64 y7.Main], aC b1 26 [fSl aN a0.Free, fSl aL a0.Nodes, fSl aI a0.Defs, aA .i64 a0.Main], aE i.2 56 bA i.1, aE v2 51 aL y7.Nodes, aE v3 99 aI y7.Defs]) ?_ ?_
 revert H; refine B5 fun y8 h11 H => ?_
 refine Yy (aFx (t := (aB .u8)) rfl hh yG (yU hh) (el rfl) h11) ?_
 refine Z4 ?_
 refine qC bA 56 ?_
 refine aJ [1, 2, 5, 0, 3, 4] (by decide) ?_
 refine Tl (ι := Nat × Int × List ScopeExp × Value) (fun i => nT y5 y8 i.1 i.2.1 i.2.2.1 = _) (fun i => i.1) (fun i => [(4, fEq (ptr b1)), (9, aA .i64 z2), (10, aA .i64 y5), (11, fEq (ptr b2)), (12, fEq (ptr b3)), (55, fSl (aB .u8) y8), (56, aA .i64 (y8.length : Int)), (57, aA .i64 i.2.1)]) (fun i => [aC b3 51 [aA .i64 2, aA .i64 z3, fEq i.2.2.2, fEq (.slice none 0 0)], aC b2 26 [fSl aN y7.Free, fEq v2, fEq v3, aA .i64 y7.Main], aC b1 26 [fSl aN a0.Free, fSl aL a0.Nodes, fSl aI a0.Defs, aA .i64 a0.Main], aE i.2.2.2 56 bA i.2.2.1, aE v2 51 aL y7.Nodes, aE v3 99 aI y7.Defs]) (fuel, 0, [], (.slice none 0 0)) H ?_
 clear H; rintro ⟨k1, x4, x5, v6⟩ H
 replace H : nT y5 y8 k1 x4 x5 = _ := H
 try dsimp only
 obtain _ | k1 := k1
 rw [nT] at H; cases H
 rw [nT] at H
 refine aS 3 rfl (fun hc_v6 => ?_)
 refine Z3 ?_
 refine aG ?_
 revert H; refine is (fun c4 H => ?_) fun c4 H => ?_
 refine Z3 ?_
 refine aG ?_
 revert H; refine B2 fun y9 h12 H => ?_
 revert H; refine B4 fun z4 h13 H => ?_
 apply bE (ods := [_, _, _, _, _, _, _, _]) 8 0 6 bF rfl rfl rfl
 refine ND ?_
 refine M3 ?_
 intros
 refine My (sW rfl hh aA4 tW) fun _ => ?_
 refine M1 ?_
 intros
 refine My (o_rem rfl hh hh h13) fun _ => ?_
 refine My (dO (ψs := [aA .i64 2, aA .i64 z4, fEq (.slice none 0 0)]) rfl aCu rfl (aU.cons (has rfl) (aT (aD trivial)) (aU.cons (has rfl) (aT (aD trivial)) aU.nil)) rfl) fun _ => ?_
 refine Mf (φ := fSl bA [(⟨2, z4, []⟩ : ScopeExp)]) (cJ (t := bA) (xs := [(⟨2, z4, []⟩ : ScopeExp)]) rfl (et rfl) (aP.cons rfl (cW rfl (fZ (aM.cons Ent.rfl (aM.cons Ent.rfl (aM.cons (aA3 dU) aM.nil))))) bJ aP.nil) rfl rfl rfl) (fun b => cG) fun _ => ?_
 revert H; refine B1 fun z5 h14 H => ?_
 refine dZ ?_
 refine oO (ys := [(⟨2, z4, []⟩ : ScopeExp)]) trivial rfl rfl rfl (has rfl) (has rfl) (et rfl) rfl h14 (fun v8 => ?_)
 refine aS 0 rfl (fun hc_v8 => ?_)
 refine Z1 ?_
 refine cU ?_
 refine cX (φs' := [aA .i64 2, aA .i64 z3, fEq v8, fEq (.slice none 0 0)]) trivial rfl rfl (has rfl) (has rfl) (aD hc_v8) (sz rfl) rfl rfl ?_
 revert H; refine B4 fun z6 h15 H => ?_
 refine Z3 ?_
 refine aJ [0, 2, 3, 1, 4, 5] (by decide) ?_
 exact Tm ((k1, z6, z5, v8)) ⟨H, ls⟩
 exact fk
 kernel_rfl
 refine Z6 ?_
 exact Tm ((x5, v6)) (ij H)
 clear H; intro i hi; obtain ⟨x1, v4⟩ := i; subst o1; have H := Hr1; clear Hr1; try dsimp only at H
 try dsimp only
 refine aS 3 rfl (fun hc_v4 => ?_)
 refine aG ?_
 refine dZ ?_
 refine cO (φ := fSl bA x1) (v := v4) [] cG (fun _ h => nomatch h) ?_
 refine gJ (φs' := [aA .i64 2, aA .i64 z3, fSl bA x1, fEq (.slice none 0 0)]) (i := 2) rfl rfl ?_
 refine cP ?_
 revert H; refine bs fun y10 h16 H => ?_
 apply bE (ods := [_, _, _, _, _, _, _, _, _]) 9 0 5 bF rfl rfl rfl
 refine ND ?_
 refine M6 ?_
 intros
 refine Mo 3 rfl (o_loadRS rfl rfl hh (ag rfl) (bN h16)) fun _ => ?_
 refine M1 ?_
 intros
 refine Mf (φ := fSl aL [y10, (⟨2, z3, x1, []⟩ : ScopeNode)]) (cJ (t := aL) (xs := [y10, (⟨2, z3, x1, []⟩ : ScopeNode)]) rfl (et rfl) (aP.cons rfl (has rfl) bJ (aP.cons rfl (cW rfl (fZ (aM.cons Ent.rfl (aM.cons Ent.rfl (aM.cons Ent.rfl (aM.cons dU aM.nil)))))) bJ aP.nil)) rfl rfl rfl) (fun b => cG) fun _ => ?_
 revert H; refine B1 fun z7 h17 H => ?_
 refine dZ ?_
 refine oO (ys := [y10, (⟨2, z3, x1, []⟩ : ScopeNode)]) trivial rfl rfl rfl (has rfl) (has rfl) (et rfl) rfl h17 (fun v10 => ?_)
 refine aS 0 rfl (fun hc_v10 => ?_)
 refine Z1 ?_
 refine eB ?_
 refine cX (φs' := [fSl aN y7.Free, fEq v10, fEq v3, aA .i64 y7.Main]) trivial rfl rfl (has rfl) (has rfl) (aD hc_v10) (sz rfl) rfl rfl ?_
 revert H; refine B11 fun z8 h18 H => ?_
 refine Z1 ?_
 refine Tn (cJ (t := (aB .i64)) (xs := [(a0.Nodes.length : Int), z8]) rfl (et rfl) (aP.cons rfl (has rfl) (aT (aD trivial)) (aP.cons rfl (has rfl) (aT (aD trivial)) aP.nil)) rfl rfl rfl) fun b6 => ?_
 generalize (Value.slice (some ⟨b6, 0, none⟩) _ _) = v11
 refine aS 0 rfl (fun hc_v11 => ?_)
 refine Yy (dO (ψs := [aA .i64 3, aA .i64 0, fEq (.slice none 0 0), fEq v11]) rfl iU rfl (aU.cons (has rfl) (aT (aD trivial)) (aU.cons (has rfl) (aT (aD hc_v11)) aU.nil)) rfl) ?_
 revert H; refine bs fun y11 h19 H => ?_
 refine Z1 ?_
 refine cO (φ := fSl (aB .i64) [(a0.Nodes.length : Int), z8]) (v := v11) [93] cG fz ?_
 refine kL 94 (ψ := eD [aA .i64 3, aA .i64 0, fEq (.slice none 0 0), fEq v11]) rfl (kC (i := 3) (φs := [aA .i64 3, aA .i64 0, fEq (.slice none 0 0), fEq v11]) (φs' := [aA .i64 3, aA .i64 0, fEq (.slice none 0 0), fSl (aB .i64) [(a0.Nodes.length : Int), z8]]) rfl rfl) ?_
 refine cP ?_
 refine cU ?_
 refine aGv (z := (⟨3, 0, [], [(a0.Nodes.length : Int), z8]⟩ : ScopeNode)) trivial rfl rfl rfl (has rfl) (cW rfl (fZ (aM.cons Ent.rfl (aM.cons Ent.rfl (aM.cons dU (aM.cons Ent.rfl aM.nil)))))) (sz rfl) (List.getElem?_eq_some_iff.1 (bN h19)).1 ?_
 refine Z1 ?_
 refine aG ?_
 refine Z2 ?_
 refine bI ?_
 refine cU ?_
 revert H; refine bs fun y12 h20 H => ?_
 refine xB (Δl := [aE v10 51 aL (z7.set z2.toNat (⟨3, 0, [], [(a0.Nodes.length : Int), z8]⟩ : ScopeNode)), aE v3 99 aI y7.Defs]) (Δi := []) (Δo := []) [(v10, fSl aL (z7.set z2.toNat (⟨3, 0, [], [(a0.Nodes.length : Int), z8]⟩ : ScopeNode))), (v3, fSl aI y7.Defs)] trivial rfl rfl rfl (has rfl) (eE.cons rfl (entW_agg (hE.cons (qP Ent.rfl) (hE.cons (pX 0 rfl) (hE.cons (pX 1 rfl) (hE.cons (qP Ent.rfl) hE.nil))))) eE.nil) (cb rfl) (aEK fuel (⟨y7.Free, z7.set z2.toNat (⟨3, 0, [], [(a0.Nodes.length : Int), z8]⟩ : ScopeNode), y7.Defs, y7.Main⟩ : ScopeProg) y12 h20) sR (fun _ h => nomatch h) (fV.cons cG (fV.cons cG fV.nil)) rfl ?_
 dsimp only [List.append, List.cons_append, List.nil_append]
 revert H; refine I2 (fun c5 H => ?_) fun c5 H => ?_
 revert H; refine B2 fun y13 h21 H => ?_
 refine Tc (xE _ _ h21) ?_
 refine Z3 ?_
 cases H
 refine aJ [] (by decide) ?_
 exact To
 revert H; refine B5 fun y14 h22 H => ?_
 refine gI trivial rfl rfl rfl (has rfl) (aK.cons (has rfl) aK.nil) rfl (cb rfl) (aBl fuel (⟨a0.Free, a0.Nodes, a0.Defs, a0.Main⟩ : ScopeProg) y14 h22) rfl ?_
 refine Z8 ?_
 refine cO (φ := fSl aL (z7.set z2.toNat (⟨3, 0, [], [(a0.Nodes.length : Int), z8]⟩ : ScopeNode))) (v := v10) [81, 84] cG fz ?_
 refine eB ?_
 refine cU ?_
 refine gJ (φs' := [fSl aN y7.Free, fSl aL (z7.set z2.toNat (⟨3, 0, [], [(a0.Nodes.length : Int), z8]⟩ : ScopeNode)), fEq v3, aA .i64 y7.Main]) (i := 1) rfl rfl ?_
 refine kL 96 (ψ := eD [fSl aN y7.Free, fEq v10, fEq v3, aA .i64 y7.Main]) rfl (kC (i := 1) (φs := [fSl aN y7.Free, fEq v10, fEq v3, aA .i64 y7.Main]) (φs' := [fSl aN y7.Free, fSl aL (z7.set z2.toNat (⟨3, 0, [], [(a0.Nodes.length : Int), z8]⟩ : ScopeNode)), fEq v3, aA .i64 y7.Main]) rfl rfl) ?_
 refine kL 106 (ψ := eD [fSl aN y7.Free, fEq v10, fEq v3, aA .i64 y7.Main]) rfl (kC (i := 1) (φs := [fSl aN y7.Free, fEq v10, fEq v3, aA .i64 y7.Main]) (φs' := [fSl aN y7.Free, fSl aL (z7.set z2.toNat (⟨3, 0, [], [(a0.Nodes.length : Int), z8]⟩ : ScopeNode)), fEq v3, aA .i64 y7.Main]) rfl rfl) ?_
 refine cP ?_
 refine cU ?_
 refine cO (φ := fSl aI y7.Defs) (v := v3) [] cG (fun _ h => nomatch h) ?_
 refine gJ (φs' := [fSl aN y7.Free, fSl aL (z7.set z2.toNat (⟨3, 0, [], [(a0.Nodes.length : Int), z8]⟩ : ScopeNode)), fSl aI y7.Defs, aA .i64 y7.Main]) (i := 2) rfl rfl ?_
 refine kL 96 (ψ := eD [fSl aN y7.Free, fSl aL (z7.set z2.toNat (⟨3, 0, [], [(a0.Nodes.length : Int), z8]⟩ : ScopeNode)), fEq v3, aA .i64 y7.Main]) rfl (kC (i := 2) (φs := [fSl aN y7.Free, fSl aL (z7.set z2.toNat (⟨3, 0, [], [(a0.Nodes.length : Int), z8]⟩ : ScopeNode)), fEq v3, aA .i64 y7.Main]) (φs' := [fSl aN y7.Free, fSl aL (z7.set z2.toNat (⟨3, 0, [], [(a0.Nodes.length : Int), z8]⟩ : ScopeNode)), fSl aI y7.Defs, aA .i64 y7.Main]) rfl rfl) ?_
 refine kL 106 (ψ := eD [fSl aN y7.Free, fSl aL (z7.set z2.toNat (⟨3, 0, [], [(a0.Nodes.length : Int), z8]⟩ : ScopeNode)), fEq v3, aA .i64 y7.Main]) rfl (kC (i := 2) (φs := [fSl aN y7.Free, fSl aL (z7.set z2.toNat (⟨3, 0, [], [(a0.Nodes.length : Int), z8]⟩ : ScopeNode)), fEq v3, aA .i64 y7.Main]) (φs' := [fSl aN y7.Free, fSl aL (z7.set z2.toNat (⟨3, 0, [], [(a0.Nodes.length : Int), z8]⟩ : ScopeNode)), fSl aI y7.Defs, aA .i64 y7.Main]) rfl rfl) ?_
 refine cP ?_
 revert H; refine bs fun y15 h23 H => ?_
 refine gI trivial rfl rfl rfl (has rfl) (aK.cons (has rfl) aK.nil) rfl (cb rfl) (aBl fuel (⟨y7.Free, z7.set z2.toNat (⟨3, 0, [], [(a0.Nodes.length : Int), z8]⟩ : ScopeNode), y7.Defs, y7.Main⟩ : ScopeProg) y15 h23) rfl ?_
 revert H; refine B6 fun o2 H Hr2 => ?_
 refine aW (ι := Bool) (fun i => o2 = i) (fun i => [(8, aH i)]) (fun i => [aC b2 26 [fSl aN y7.Free, fSl aL (z7.set z2.toNat (⟨3, 0, [], [(a0.Nodes.length : Int), z8]⟩ : ScopeNode)), fSl aI y7.Defs, aA .i64 y7.Main], aC b3 51 [aA .i64 2, aA .i64 z3, fSl bA x1, fEq (.slice none 0 0)], aC b1 26 [fSl aN a0.Free, fSl aL a0.Nodes, fSl aI a0.Defs, aA .i64 a0.Main]]) ?_ ?_
 revert H; refine I4 (fun c6 H => ?_) fun c6 H => ?_
 revert H; refine I4 (fun c7 H => ?_) fun c7 H => ?_
 revert H; refine B2 fun y16 h24 H => ?_
 refine Tc (aHK _ _ _ _ h24) ?_
 refine Z2 ?_
 revert H; refine cs (fun c8 H => ?_) fun c8 H => ?_
 revert H; refine bs fun y17 h25 H => ?_
 refine Tc (xE _ _ h25) ?_
 refine Z3 ?_
 exact Tm (y17) (ij H)
 refine Z4 ?_
 exact Tm (false) (ij H)
 refine Z9 ?_
 exact Tm (false) (ij H)
 refine Z12 ?_
 refine Z1 ?_
 exact Tm (false) (ij H)
 clear H; intro x6 hi; subst o2; have H := Hr2; clear Hr2; try dsimp only at H
 try dsimp only
 refine Z1 ?_
 cases H
 refine aJ [] (by decide) ?_
 exact To
 exact fk
 kernel_rfl
end Go.Proofs.YtmnbfgeljmhekaaGreat
