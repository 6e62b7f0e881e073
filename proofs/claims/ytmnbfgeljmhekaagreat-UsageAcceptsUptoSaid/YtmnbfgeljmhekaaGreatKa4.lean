/- Parts of the proof: lemmas, and the steps through the program. -/
import Derived.Test.YtmnbfgeljmhekaaGreatKa3
set_option linter.unusedVariables false
set_option linter.unusedSimpArgs false
set_option maxRecDepth 100000
set_option maxHeartbeats 2000000
namespace Go.Proofs.YtmnbfgeljmhekaaGreat
open Go.SX Go.SW Go.Dt
attribute [local irreducible] Code.wpIn wpListIn Exit.then Exit.inBlock
def mN (rec_r05_Look_Sure : Ref05_Look → Int → Int → Option (Int)) (a0 : Ref05_Look) (a2 : Int) (y2 : ScopeDef) : Nat → Int → Int → Option (Int)
| 0, _, _ => none
| k + 1, x4, x5 =>
 if x5 < (y2.Spots.length : Int) then
  (idx y2.Spots x5).bind fun y5 =>
  (rec_r05_Look_Sure a0 y5.Node a2).bind fun y6 =>
  (chk (x4 + y6)).bind fun z1 =>
  (chk (x5 + 1)).bind fun z2 =>
  mN rec_r05_Look_Sure a0 a2 y2 k z1 z2
 else
  some x4
mutual
def gV : Nat → Ref05_Look → Int → Int → Option (Int)
| 0, _, _, _ => none
| fuel + 1, a0, a1, a2 =>
 (idx a0.p.Nodes a1).bind fun y1 =>
 (if y1.Op = 2 then
  (idx a0.Envs a1).bind fun y2 =>
  (idx y2 a2).bind fun y3 =>
  if y1.N = a2 then
   if 0 ≤ y3.Def then
    (idx a0.p.Defs y3.Def).bind fun y4 =>
    (idx y4.Chans y3.Index).bind fun y5 =>
    if y5.Many = (y1.Args.length : Int) then
     (some 1).bind fun r => some (Sum.inr r)
    else
     some (Sum.inl ())
   else
    some (Sum.inl ())
  else
   some (Sum.inl ())
 else
  if y1.Op = 3 then
   (idx y1.Kids 0).bind fun y6 =>
   ((gV fuel) a0 y6 a2).bind fun y7 =>
   (idx y1.Kids 1).bind fun y8 =>
   ((gV fuel) a0 y8 a2).bind fun y9 =>
   (chk (y7 + y9)).bind fun z1 =>
   (some z1).bind fun r => some (Sum.inr r)
  else
   if y1.Op = 5 then
    (idx y1.Kids 0).bind fun y10 =>
    ((gV fuel) a0 y10 a2).bind fun y11 =>
    (idx y1.Kids 1).bind fun y12 =>
    ((gV fuel) a0 y12 a2).bind fun y13 =>
    (some (min y11 y13)).bind fun r => some (Sum.inr r)
   else
    if y1.Op = 4 then
     ((nT fuel) a0 a1 a2).bind fun y14 =>
     (some y14).bind fun r => some (Sum.inr r)
    else
     some (Sum.inl ())).bind fun o => match o with
 | Sum.inr r => some r
 | Sum.inl _ =>
 some 0
def nT : Nat → Ref05_Look → Int → Int → Option (Int)
| 0, _, _, _ => none
| fuel + 1, a0, a1, a2 =>
 (idx a0.p.Nodes a1).bind fun y1 =>
 (idx a0.p.Defs y1.N).bind fun y2 =>
 (idx y1.Kids 0).bind fun y3 =>
 ((gV fuel) a0 y3 a2).bind fun y4 =>
 (mN (gV fuel) a0 a2 y2 fuel y4 0).bind fun x1 =>
 some x1
end
theorem aHi : ∀ (fuel : Nat), (∀  (a0 : Ref05_Look) (a1 : Int) (a2 : Int) (r : Int) (H : gV fuel a0 a1 a2 = some r), FnS Tryz.prog 34 [aF dX a0, aA .i64 a1, aA .i64 a2] [] (aA .i64 r) (fun _ => [])) ∧ (∀  (a0 : Ref05_Look) (a1 : Int) (a2 : Int) (r : Int) (H : nT fuel a0 a1 a2 = some r), FnS Tryz.prog 49 [aF dX a0, aA .i64 a1, aA .i64 a2] [] (aA .i64 r) (fun _ => [])) := by
 intro fuel
 induction fuel with
 | zero => exact ⟨fun a0 a1 a2 r H => (by rw [gV] at H; cases H), fun a0 a1 a2 r H => (by rw [nT] at H; cases H)⟩
 | succ fuel ih =>
 obtain ⟨ih_r05_Look_Sure, ih_r05_Look_begun⟩ := ih
 refine ⟨?_, ?_⟩
 intro a0 a1 a2 r H
 rw [gV] at H
 refine bJ Tryz.func34 rfl Tryz.ntmps34 rfl (fun β => ?_)
 revert H; refine B10 fun y1 h1 H => ?_
 refine Z2 ?_
 refine Tn (bZ rfl hZ rfl) fun b1 => ?_
 refine cS (φs' := [aA .i64 y1.Op, aA .i64 y1.N, fSl bD y1.Args, fSl (aB .i64) y1.Kids]) trivial rfl rfl (has rfl) (has rfl) (aJ (aE trivial) (aJ (aE trivial) (aJ (bA) (aJ (bA) bP)))) (sz rfl) rfl rfl rfl ?_
 revert H; refine B1 fun o1 H Hr1 => ?_
 refine aR (ι := Unit) (fun i => o1 = Sum.inl ()) (fun i => []) (fun i => [aC b1 51 [aA .i64 y1.Op, aA .i64 y1.N, fSl bD y1.Args, fSl (aB .i64) y1.Kids]]) ?_ ?_
 revert H; refine I9 (fun c1 H => ?_) fun c1 H => ?_
 revert H; refine B7 fun y2 h2 H => ?_
 revert H; refine B3 fun y3 h3 H => ?_
 refine Z2 ?_
 refine Tn (bZ rfl aCM rfl) fun b2 => ?_
 refine cS (φs' := [aA .i64 y3.Def, aA .i64 y3.Index]) trivial rfl rfl (has rfl) (has rfl) (aJ (aE trivial) (aJ (aE trivial) bP)) (sz rfl) rfl rfl rfl ?_
 refine Z1 ?_
 refine aG ?_
 revert H; refine is (fun c2 H => ?_) fun c2 H => ?_
 revert H; refine is (fun c3 H => ?_) fun c3 H => ?_
 revert H; refine bs fun y4 h4 H => ?_
 revert H; refine bs fun y5 h5 H => ?_
 apply bC (ods := [_, _, _, _, _, _, _, _, _, _, _, _, _, _, _, _, _, _, _, _, _, _, _, _, _, _, _, _, _, _]) 30 0 2 bB rfl rfl rfl
 refine ND ?_
 refine M8 ?_
 intros
 refine M8 ?_
 intros
 refine M8 ?_
 intros
 refine M6 ?_
 intros
 revert H; refine I2 (fun c4 H => ?_) fun c4 H => ?_
 revert H; refine B7 fun r1 H e1 => ?_
 cases e1; cases Hr1
 cases H
 refine aH [] (by decide) ?_
 exact To
 refine Z4 ?_
 refine aH [1] (by decide) ?_
 exact Tm (()) (ij H)
 exact fk
 kernel_rfl
 apply bC (ods := [_, _, _, _, _, _, _, _, _, _, _, _, _, _, _, _, _, _, _, _, _, _, _, _, _, _, _, _, _, _]) 30 0 2 bB rfl rfl rfl
 refine ND ?_
 refine M8 ?_
 intros
 refine M8 ?_
 intros
 refine M8 ?_
 intros
 refine M6 ?_
 intros
 refine Z6 ?_
 refine aH [1] (by decide) ?_
 exact Tm (()) (ij H)
 exact fk
 kernel_rfl
 apply bC (ods := [_, _, _, _, _, _, _, _, _, _, _, _, _, _, _, _, _, _, _, _, _, _, _, _, _, _, _, _, _, _]) 30 0 2 bB rfl rfl rfl
 refine ND ?_
 refine M8 ?_
 intros
 refine M8 ?_
 intros
 refine M8 ?_
 intros
 refine M6 ?_
 intros
 refine Z6 ?_
 refine aH [1] (by decide) ?_
 exact Tm (()) (ij H)
 exact fk
 kernel_rfl
 revert H; refine I5 (fun c5 H => ?_) fun c5 H => ?_
 refine Z1 ?_
 refine aG ?_
 revert H; refine bs fun y6 h6 H => ?_
 revert H; refine bs fun y7 h7 H => ?_
 revert H; refine bs fun y8 h8 H => ?_
 revert H; refine bs fun y9 h9 H => ?_
 revert H; refine bs fun z1 h10 H => ?_
 apply bC (ods := [_, _, _, _, _, _, _, _, _, _, _, _, _, _, _, _]) 16 0 1 bB rfl rfl rfl
 refine ND ?_
 refine M6 ?_
 intros
 refine Nc (ih_r05_Look_Sure _ _ _ _ h7) fun _ => ?_
 refine M6 ?_
 intros
 refine Nc (ih_r05_Look_Sure _ _ _ _ h9) fun _ => ?_
 refine M2 ?_
 intros
 revert H; refine B5 fun r2 H e2 => ?_
 cases e2; cases Hr1
 cases H
 refine aH [] (by decide) ?_
 exact To
 exact fk
 kernel_rfl
 revert H; refine I5 (fun c6 H => ?_) fun c6 H => ?_
 refine Z1 ?_
 refine aG ?_
 revert H; refine bs fun y10 h11 H => ?_
 revert H; refine bs fun y11 h12 H => ?_
 revert H; refine bs fun y12 h13 H => ?_
 revert H; refine bs fun y13 h14 H => ?_
 apply bC (ods := [_, _, _, _, _, _, _, _, _, _, _, _, _, _, _, _]) 16 0 1 bB rfl rfl rfl
 refine ND ?_
 refine M6 ?_
 intros
 refine Nc (ih_r05_Look_Sure _ _ _ _ h12) fun _ => ?_
 refine M6 ?_
 intros
 refine Nc (ih_r05_Look_Sure _ _ _ _ h14) fun _ => ?_
 refine M2 ?_
 intros
 revert H; refine B5 fun r3 H e3 => ?_
 cases e3; cases Hr1
 cases H
 refine aH [] (by decide) ?_
 exact To
 exact fk
 kernel_rfl
 revert H; refine I5 (fun c7 H => ?_) fun c7 H => ?_
 revert H; refine B5 fun y14 h15 H => ?_
 refine Tc (ih_r05_Look_begun _ _ _ _ h15) ?_
 revert H; refine B5 fun r4 H e4 => ?_
 cases e4; cases Hr1
 cases H
 refine aH [] (by decide) ?_
 exact To
 refine Z4 ?_
 exact Tm (()) (ij H)
 clear H; intro i hi; subst o1; have H := Hr1; clear Hr1; try dsimp only at H
 try dsimp only
 refine Z4 ?_
 cases H
 refine aH [] (by decide) ?_
 exact To
 intro a0 a1 a2 r H
 rw [nT] at H
 refine bJ Tryz.func49 rfl Tryz.ntmps49 rfl (fun β => ?_)
 revert H; refine B10 fun y1 h1 H => ?_
 refine Z2 ?_
 refine Tn (bZ rfl hZ rfl) fun b1 => ?_
 refine cS (φs' := [aA .i64 y1.Op, aA .i64 y1.N, fSl bD y1.Args, fSl (aB .i64) y1.Kids]) trivial rfl rfl (has rfl) (has rfl) (aJ (aE trivial) (aJ (aE trivial) (aJ (bA) (aJ (bA) bP)))) (sz rfl) rfl rfl rfl ?_
 refine Z1 ?_
 refine aG ?_
 revert H; refine bs fun y2 h2 H => ?_
 apply bC (ods := [_, _, _, _, _, _, _, _, _, _, _]) 11 1 2 bB rfl rfl rfl
 refine ND ?_
 refine M8 ?_
 intros
 refine M1 ?_
 intros
 refine Mn 1 (fun b2 => ptr b2) (fun b2 => aC b2 99 [fEq (.slice none 0 0), fEq (.slice none 0 0), fEq (.slice none 0 0)]) rfl (bZ rfl jD rfl) (fun b2 u1 => ?_)
 refine oT (od := od1 9 [1] true (fun b2 _ => fAny) (fun b2 _ => [aC b2 99 [fSl aU y2.Chans, fSl bH y2.Spots, fSl aZ y2.Rules]])) (p := 1) (φs' := [fSl aU y2.Chans, fSl bH y2.Spots, fSl aZ y2.Rules]) rfl (fun _ => rfl) (fun _ => rfl) trivial rfl rfl rfl (has rfl) (has rfl) (aJ (bA) (aJ (bA) (aJ (bA) bP))) (sz rfl) rfl rfl rfl (fun _ => ?_)
 revert H; refine B6 fun y3 h3 H => ?_
 revert H; refine B3 fun y4 h4 H => ?_
 refine Tc (ih_r05_Look_Sure _ _ _ _ h4) ?_
 revert H; refine B2 fun o1 H Hr1 => ?_
 refine aR (ι := Int) (fun i => o1 = i) (fun i => [(9, aA .i64 i)]) (fun i => [aC b1 51 [aA .i64 y1.Op, aA .i64 y1.N, fSl bD y1.Args, fSl (aB .i64) y1.Kids], aC b2 99 [fSl aU y2.Chans, fSl bH y2.Spots, fSl aZ y2.Rules]]) ?_ ?_
 refine Z4 ?_
 refine Tl (ι := Nat × Int × Int) (fun i => mN (gV fuel) a0 a2 y2 i.1 i.2.1 i.2.2 = _) (fun i => i.1) (fun i => [(0, aF dX a0), (2, aA .i64 a2), (8, fEq (ptr b2)), (9, aA .i64 i.2.1), (10, aA .i64 i.2.2)]) (fun i => [aC b1 51 [aA .i64 y1.Op, aA .i64 y1.N, fSl bD y1.Args, fSl (aB .i64) y1.Kids], aC b2 99 [fSl aU y2.Chans, fSl bH y2.Spots, fSl aZ y2.Rules]]) (fuel, y4, 0) H ?_
 clear H; rintro ⟨k1, x4, x5⟩ H
 replace H : mN (gV fuel) a0 a2 y2 k1 x4 x5 = _ := H
 try dsimp only
 obtain _ | k1 := k1
 rw [mN] at H; cases H
 rw [mN] at H
 refine aG ?_
 revert H; refine I7 (fun c1 H => ?_) fun c1 H => ?_
 refine Z3 ?_
 refine aG ?_
 revert H; refine B7 fun y5 h5 H => ?_
 revert H; refine B4 fun y6 h6 H => ?_
 refine Tc (ih_r05_Look_Sure _ _ _ _ h6) ?_
 revert H; refine bs fun z1 h7 H => ?_
 revert H; refine B7 fun z2 h8 H => ?_
 refine Z3 ?_
 exact Tm ((k1, z1, z2)) ⟨H, ls⟩
 refine Z6 ?_
 exact Tm (x4) (ij H)
 clear H; intro x1 hi; subst o1; have H := Hr1; clear Hr1; try dsimp only at H
 try dsimp only
 refine Z5 ?_
 cases H
 refine aH [] (by decide) ?_
 exact To
 exact fk
 kernel_rfl
theorem aFQ (fuel : Nat)  (a0 : Ref05_Look) (a1 : Int) (a2 : Int) (r : Int) (H : nT fuel a0 a1 a2 = some r) : FnS Tryz.prog 49 [aF dX a0, aA .i64 a1, aA .i64 a2] [] (aA .i64 r) (fun _ => []) := (aHi fuel).2 a0 a1 a2 r H
def sT (a0 : Ref05_Look) (a1 : Int) (a2 : Int) : Option (Int) :=
 (idx a0.Heads a1).bind fun y1 =>
 (idx a0.Sizes y1).bind fun y2 =>
 (chk (y2 + a2)).bind fun z1 =>
 some z1
theorem aCQ  (a0 : Ref05_Look) (a1 : Int) (a2 : Int) (r : Int) (H : sT a0 a1 a2 = some r) : FnS Tryz.prog 50 [aF dX a0, aA .i64 a1, aA .i64 a2] [] (aA .i64 r) (fun _ => []) := by
 unfold sT at H
 refine bJ Tryz.func50 rfl Tryz.ntmps50 rfl (fun β => ?_)
 refine Z3 ?_
 refine aG ?_
 revert H; refine bs fun y1 h1 H => ?_
 revert H; refine bs fun y2 h2 H => ?_
 revert H; refine bs fun z1 h3 H => ?_
 apply bC (ods := [_, _, _, _, _, _, _, _, _, _, _, _, _, _, _, _]) 16 0 0 bB rfl rfl rfl
 refine ND ?_
 refine M8 ?_
 intros
 refine M8 ?_
 intros
 refine Z3 ?_
 cases H
 exact To
 exact fk
 kernel_rfl
def nD (a2 : Int) (a3 : Int) (y1 : ScopeDef) : Nat → Int → Int → Option (Int)
| 0, _, _ => none
| k + 1, x4, x5 =>
 if x5 < a3 then
  (idx y1.Rules a2).bind fun y4 =>
  (idx y4.Joins x5).bind fun y5 =>
  (idx y1.Chans y5).bind fun y6 =>
  (chk (x4 + y6.Many)).bind fun z4 =>
  (chk (x5 + 1)).bind fun z5 =>
  nD a2 a3 y1 k z4 z5
 else
  some x4
def wP (fuel : Nat) (a0 : Ref05_Look) (a1 : Int) (a2 : Int) (a3 : Int) (a4 : Int) : Option (Int) :=
 (idx a0.p.Defs a1).bind fun y1 =>
 (idx a0.Heads a1).bind fun y2 =>
 (idx a0.Sizes y2).bind fun y3 =>
 (chk (y3 + (y1.Chans.length : Int))).bind fun z1 =>
 (chk (z1 + (y1.Spots.length : Int))).bind fun z2 =>
 (chk (z2 + a4)).bind fun z3 =>
 (nD a2 a3 y1 fuel z3 0).bind fun x1 =>
 some x1
theorem aGv (fuel : Nat)  (a0 : Ref05_Look) (a1 : Int) (a2 : Int) (a3 : Int) (a4 : Int) (r : Int) (H : wP fuel a0 a1 a2 a3 a4 = some r) : FnS Tryz.prog 117 [aF dX a0, aA .i64 a1, aA .i64 a2, aA .i64 a3, aA .i64 a4] [] (aA .i64 r) (fun _ => []) := by
 unfold wP at H
 refine bJ Tryz.func117 rfl Tryz.ntmps117 rfl (fun β => ?_)
 revert H; refine B10 fun y1 h1 H => ?_
 refine Z2 ?_
 refine Tn (bZ rfl jD rfl) fun b1 => ?_
 refine cS (φs' := [fSl aU y1.Chans, fSl bH y1.Spots, fSl aZ y1.Rules]) trivial rfl rfl (has rfl) (has rfl) (aJ (bA) (aJ (bA) (aJ (bA) bP))) (sz rfl) rfl rfl rfl ?_
 refine Z1 ?_
 refine aG ?_
 revert H; refine bs fun y2 h2 H => ?_
 revert H; refine bs fun y3 h3 H => ?_
 revert H; refine bs fun z1 h4 H => ?_
 revert H; refine bs fun z2 h5 H => ?_
 revert H; refine bs fun z3 h6 H => ?_
 apply bC (ods := [_, _, _, _, _, _, _, _, _, _, _, _, _, _, _, _, _, _, _, _, _, _, _, _]) 24 0 1 bB rfl rfl rfl
 refine ND ?_
 refine M8 ?_
 intros
 refine M8 ?_
 intros
 refine M8 ?_
 intros
 revert H; refine B2 fun o1 H Hr1 => ?_
 refine aR (ι := Int) (fun i => o1 = i) (fun i => [(12, aA .i64 i)]) (fun i => [aC b1 99 [fSl aU y1.Chans, fSl bH y1.Spots, fSl aZ y1.Rules]]) ?_ ?_
 refine Z4 ?_
 refine Tl (ι := Nat × Int × Int) (fun i => nD a2 a3 y1 i.1 i.2.1 i.2.2 = _) (fun i => i.1) (fun i => [(2, aA .i64 a2), (3, aA .i64 a3), (11, fEq (ptr b1)), (12, aA .i64 i.2.1), (13, aA .i64 i.2.2)]) (fun i => [aC b1 99 [fSl aU y1.Chans, fSl bH y1.Spots, fSl aZ y1.Rules]]) (fuel, z3, 0) H ?_
 clear H; rintro ⟨k1, x4, x5⟩ H
 replace H : nD a2 a3 y1 k1 x4 x5 = _ := H
 try dsimp only
 obtain _ | k1 := k1
 rw [nD] at H; cases H
 rw [nD] at H
 refine aG ?_
 revert H; refine I5 (fun c1 H => ?_) fun c1 H => ?_
 refine Z3 ?_
 refine aG ?_
 revert H; refine B1 fun y4 h7 H => ?_
 revert H; refine bs fun y5 h8 H => ?_
 revert H; refine bs fun y6 h9 H => ?_
 revert H; refine bs fun z4 h10 H => ?_
 apply bC (ods := [_, _, _, _, _, _, _, _, _, _, _, _, _, _, _, _, _]) 17 0 1 bB rfl rfl rfl
 refine ND ?_
 refine M8 ?_
 intros
 refine M8 ?_
 intros
 refine M1 ?_
 intros
 revert H; refine B6 fun z5 h11 H => ?_
 refine Z3 ?_
 exact Tm ((k1, z4, z5)) ⟨H, ls⟩
 exact fk
 kernel_rfl
 refine Z6 ?_
 exact Tm (x4) (ij H)
 clear H; intro x1 hi; subst o1; have H := Hr1; clear Hr1; try dsimp only at H
 try dsimp only
 refine Z5 ?_
 cases H
 refine aH [] (by decide) ?_
 exact To
 exact fk
 kernel_rfl
end Go.Proofs.YtmnbfgeljmhekaaGreat
set_option maxRecDepth 100000
set_option maxHeartbeats 2000000
namespace Go.Proofs.YtmnbfgeljmhekaaGreat
open Go.SX Go.SW Go.Dt
attribute [local irreducible] Code.wpIn wpListIn Exit.then Exit.inBlock
def lB (fuel : Nat) (a0 : Ref05_Look) (a1 : List UsageDef) (a2 : Int) (a3 : Int) (a4 : Int) (y1 : ScopeDef) (x5 : Int) : Nat → Int → Int → Option (Int)
| 0, _, _ => none
| k + 1, x9, x10 =>
 (idx y1.Rules x5).bind fun y2 =>
 if x10 < (y2.Joins.length : Int) then
  ((idx y1.Rules x5).bind fun y3 =>
  (idx y3.Joins x10).bind fun y4 =>
  if y4 = a3 then
   (idx a1 a2).bind fun y5 =>
   (idx y5.Rules x5).bind fun y6 =>
   (nG y6).bind fun y7 =>
   if 0 < y7 then
    (idx y1.Rules x5).bind fun y8 =>
    (wP fuel a0 a2 x5 x10 a4).bind fun y9 =>
    (fB fuel a0 a1 y8.Node y9).bind fun y10 =>
    some (max x9 y10)
   else
    some x9
  else
   some x9).bind fun x11 =>
  (chk (x10 + 1)).bind fun z1 =>
  lB fuel a0 a1 a2 a3 a4 y1 x5 k x11 z1
 else
  some x9
def nQ (fuel : Nat) (a0 : Ref05_Look) (a1 : List UsageDef) (a2 : Int) (a3 : Int) (a4 : Int) (y1 : ScopeDef) : Nat → Int → Int → Option (Int)
| 0, _, _ => none
| k + 1, x4, x5 =>
 if x5 < (y1.Rules.length : Int) then
  (lB fuel a0 a1 a2 a3 a4 y1 x5 fuel x4 0).bind fun x6 =>
  (chk (x5 + 1)).bind fun z2 =>
  nQ fuel a0 a1 a2 a3 a4 y1 k x6 z2
 else
  some x4
def xO (fuel : Nat) (a0 : Ref05_Look) (a1 : List UsageDef) (a2 : Int) (a3 : Int) (a4 : Int) : Option (Int) :=
 (idx a0.p.Defs a2).bind fun y1 =>
 (nQ fuel a0 a1 a2 a3 a4 y1 fuel 0 0).bind fun x1 =>
 some x1
theorem aHM (fuel : Nat)  (a0 : Ref05_Look) (a1 : List UsageDef) (a2 : Int) (a3 : Int) (a4 : Int) (r : Int) (H : xO fuel a0 a1 a2 a3 a4 = some r) : FnS Tryz.prog 102 [aF dX a0, fSl aX a1, aA .i64 a2, aA .i64 a3, aA .i64 a4] [] (aA .i64 r) (fun _ => []) := by
 unfold xO at H
 refine bJ Tryz.func102 rfl Tryz.ntmps102 rfl (fun β => ?_)
 revert H; refine B10 fun y1 h1 H => ?_
 refine Z2 ?_
 refine Tn (bZ rfl jD rfl) fun b1 => ?_
 refine cS (φs' := [fSl aU y1.Chans, fSl bH y1.Spots, fSl aZ y1.Rules]) trivial rfl rfl (has rfl) (has rfl) (aJ (bA) (aJ (bA) (aJ (bA) bP))) (sz rfl) rfl rfl rfl ?_
 revert H; refine B4 fun o1 H Hr1 => ?_
 refine aR (ι := Int) (fun i => o1 = i) (fun i => [(12, aA .i64 i)]) (fun i => [aC b1 99 [fSl aU y1.Chans, fSl bH y1.Spots, fSl aZ y1.Rules]]) ?_ ?_
 refine Z4 ?_
 refine Tl (ι := Nat × Int × Int) (fun i => nQ fuel a0 a1 a2 a3 a4 y1 i.1 i.2.1 i.2.2 = _) (fun i => i.1) (fun i => [(0, aF dX a0), (1, fSl aX a1), (2, aA .i64 a2), (3, aA .i64 a3), (4, aA .i64 a4), (11, fEq (ptr b1)), (12, aA .i64 i.2.1), (13, aA .i64 i.2.2)]) (fun i => [aC b1 99 [fSl aU y1.Chans, fSl bH y1.Spots, fSl aZ y1.Rules]]) (fuel, 0, 0) H ?_
 clear H; rintro ⟨k1, x4, x5⟩ H
 replace H : nQ fuel a0 a1 a2 a3 a4 y1 k1 x4 x5 = _ := H
 try dsimp only
 obtain _ | k1 := k1
 rw [nQ] at H; cases H
 rw [nQ] at H
 refine aG ?_
 revert H; refine I7 (fun c1 H => ?_) fun c1 H => ?_
 revert H; refine B3 fun o2 H Hr2 => ?_
 refine aR (ι := Int) (fun i => o2 = i) (fun i => [(0, aF dX a0), (1, fSl aX a1), (2, aA .i64 a2), (3, aA .i64 a3), (4, aA .i64 a4), (11, fEq (ptr b1)), (12, aA .i64 i), (13, aA .i64 x5)]) (fun i => [aC b1 99 [fSl aU y1.Chans, fSl bH y1.Spots, fSl aZ y1.Rules]]) ?_ ?_
 refine Z5 ?_
 refine Tl (ι := Nat × Int × Int) (fun i => lB fuel a0 a1 a2 a3 a4 y1 x5 i.1 i.2.1 i.2.2 = _) (fun i => i.1) (fun i => [(0, aF dX a0), (1, fSl aX a1), (2, aA .i64 a2), (3, aA .i64 a3), (4, aA .i64 a4), (11, fEq (ptr b1)), (12, aA .i64 i.2.1), (13, aA .i64 x5), (14, aA .i64 i.2.2)]) (fun i => [aC b1 99 [fSl aU y1.Chans, fSl bH y1.Spots, fSl aZ y1.Rules]]) (fuel, x4, 0) H ?_
 clear H; rintro ⟨k2, x9, x10⟩ H
 replace H : lB fuel a0 a1 a2 a3 a4 y1 x5 k2 x9 x10 = _ := H
 try dsimp only
 obtain _ | k2 := k2
 rw [lB] at H; cases H
 rw [lB] at H
 refine aG ?_
 revert H; refine B5 fun y2 h2 H => ?_
 revert H; refine I6 (fun c2 H => ?_) fun c2 H => ?_
 revert H; refine B3 fun o3 H Hr3 => ?_
 refine aR (ι := Int) (fun i => o3 = i) (fun i => [(0, aF dX a0), (1, fSl aX a1), (2, aA .i64 a2), (3, aA .i64 a3), (4, aA .i64 a4), (11, fEq (ptr b1)), (12, aA .i64 i), (13, aA .i64 x5), (14, aA .i64 x10)]) (fun i => [aC b1 99 [fSl aU y1.Chans, fSl bH y1.Spots, fSl aZ y1.Rules]]) ?_ ?_
 revert H; refine B5 fun y3 h3 H => ?_
 revert H; refine B4 fun y4 h4 H => ?_
 revert H; refine I5 (fun c3 H => ?_) fun c3 H => ?_
 revert H; refine B2 fun y5 h5 H => ?_
 revert H; refine B4 fun y6 h6 H => ?_
 revert H; refine B2 fun y7 h7 H => ?_
 refine Tc (uQ _ _ h7) ?_
 revert H; refine I3 (fun c4 H => ?_) fun c4 H => ?_
 revert H; refine B1 fun y8 h8 H => ?_
 revert H; refine bs fun y9 h9 H => ?_
 revert H; refine bs fun y10 h10 H => ?_
 apply bC (ods := [_, _, _, _, _, _, _, _, _, _, _, _, _, _, _, _, _, _]) 18 0 1 bB rfl rfl rfl
 refine ND ?_
 refine M8 ?_
 intros
 refine M6 ?_
 intros
 refine Nc (aGv _ _ _ _ _ _ _ h9) fun _ => ?_
 refine Nc (aGH _ _ _ _ _ _ h10) fun _ => ?_
 refine My (o_max rfl hh hh) fun _ => ?_
 refine M1 ?_
 intros
 refine Z4 ?_
 exact Tm (max x9 y10) (ij H)
 exact fk
 kernel_rfl
 refine Z4 ?_
 exact Tm (x9) (ij H)
 refine Z12 ?_
 refine Z4 ?_
 exact Tm (x9) (ij H)
 clear H; intro x11 hi; subst o3; have H := Hr3; clear Hr3; try dsimp only at H
 try dsimp only
 revert H; refine B2 fun z1 h11 H => ?_
 refine Z3 ?_
 exact Tm ((k2, x11, z1)) ⟨H, ls⟩
 refine Z7 ?_
 exact Tm (x9) (ij H)
 clear H; intro x6 hi; subst o2; have H := Hr2; clear Hr2; try dsimp only at H
 try dsimp only
 revert H; refine B2 fun z2 h12 H => ?_
 refine Z3 ?_
 exact Tm ((k1, x6, z2)) ⟨H, ls⟩
 refine Z6 ?_
 exact Tm (x4) (ij H)
 clear H; intro x1 hi; subst o1; have H := Hr1; clear Hr1; try dsimp only at H
 try dsimp only
 refine Z5 ?_
 cases H
 refine aH [] (by decide) ?_
 exact To
def mZ (fuel : Nat) (a0 : Ref05_Look) (a1 : List UsageDef) (a2 : Int) (y1 : ScopeDef) (x6 : Int) : Nat → (List Int) → Int → Option (List Int)
| 0, _, _ => none
| k + 1, x14, x15 =>
 (idx y1.Chans x6).bind fun y6 =>
 if x15 < y6.Many then
  (xO fuel a0 a1 a2 x6 x15).bind fun y7 =>
  (rE y7).bind fun y8 =>
  (eI (x14 ++ [y8])).bind fun z2 =>
  (chk (x15 + 1)).bind fun z3 =>
  mZ fuel a0 a1 a2 y1 x6 k z2 z3
 else
  some x14
def mX (fuel : Nat) (a0 : Ref05_Look) (a1 : List UsageDef) (a2 : Int) (y1 : ScopeDef) : Nat → Int → (List Int) → (List (List Int)) → Option (List Int × List (List Int))
| 0, _, _, _ => none
| k + 1, x6, x7, x8 =>
 if x6 < (y1.Chans.length : Int) then
  ((idx a0.Heads a2).bind fun y2 =>
  (sT a0 a2 x6).bind fun y3 =>
  (oK fuel a0 a1 y2 y3).bind fun y4 =>
  (rE y4).bind fun y5 =>
  (eI (x7 ++ [y5])).bind fun z1 =>
  (mZ fuel a0 a1 a2 y1 x6 fuel ([] : List Int) 0).bind fun x11 =>
  (eI (x8 ++ ([x11] : List (List Int)))).bind fun z4 =>
  some (z1, z4)).bind fun (x9, x10) =>
  (chk (x6 + 1)).bind fun z5 =>
  mX fuel a0 a1 a2 y1 k z5 x9 x10
 else
  some (x7, x8)
def lX (a1 : List UsageDef) (a2 : Int) (y1 : ScopeDef) (x19 : Int) : Nat → Int → Int → Option (Int)
| 0, _, _ => none
| k + 1, x25, x26 =>
 (idx y1.Rules x19).bind fun y9 =>
 if x26 < (y9.Joins.length : Int) then
  (idx a1 a2).bind fun y10 =>
  (idx y1.Rules x19).bind fun y11 =>
  (idx y11.Joins x26).bind fun y12 =>
  (idx y10.Chans y12).bind fun y13 =>
  (nG y13).bind fun y14 =>
  (chk (x26 + 1)).bind fun z6 =>
  lX a1 a2 y1 x19 k (min x25 y14) z6
 else
  some x25
def lP (fuel : Nat) (a1 : List UsageDef) (a2 : Int) (y1 : ScopeDef) : Nat → Int → (List Int) → Option (List Int)
| 0, _, _ => none
| k + 1, x19, x20 =>
 if x19 < (y1.Rules.length : Int) then
  ((lX a1 a2 y1 x19 fuel 2 0).bind fun x22 =>
  (rE x22).bind fun y15 =>
  (eI (x20 ++ [y15])).bind fun z7 =>
  some z7).bind fun x21 =>
  (chk (x19 + 1)).bind fun z8 =>
  lP fuel a1 a2 y1 k z8 x21
 else
  some x20
def uC (fuel : Nat) (a0 : Ref05_Look) (a1 : List UsageDef) (a2 : Int) : Option (UsageDef) :=
 (idx a0.p.Defs a2).bind fun y1 =>
 (mX fuel a0 a1 a2 y1 fuel 0 [] []).bind fun (x1, x2) =>
 (lP fuel a1 a2 y1 fuel 0 []).bind fun x16 =>
 some (⟨x1, x16, x2⟩ : UsageDef)
theorem aFD (fuel : Nat)  (a0 : Ref05_Look) (a1 : List UsageDef) (a2 : Int) (r : UsageDef) (H : uC fuel a0 a1 a2 = some r) : FnS Tryz.prog 85 [aF dX a0, fSl aX a1, aA .i64 a2] [] fAny (fun v => [sD .agg [.own (fun v => aD v 30 (aB .i64) r.Chans) (fun _ => dQ), .own (fun v => aD v 30 (aB .i64) r.Rules) (fun _ => dQ), .own (fun v => bM v 58 (bW 30 (aB .i64)) r.Args) (fun _ => iJ)] v]) := by
 unfold uC at H
 refine bJ Tryz.func85 rfl Tryz.ntmps85 rfl (fun β => ?_)
 refine Z1 ?_
 refine Tn (bZ rfl uV rfl) fun b1 => ?_
 revert H; refine B8 fun y1 h1 H => ?_
 refine Z2 ?_
 refine Tn (bZ rfl jD rfl) fun b2 => ?_
 refine cS (φs' := [fSl aU y1.Chans, fSl bH y1.Spots, fSl aZ y1.Rules]) trivial rfl rfl (has rfl) (has rfl) (aJ (bA) (aJ (bA) (aJ (bA) bP))) (sz rfl) rfl rfl rfl ?_
 refine Z2 ?_
 refine Tn (bZ rfl uV rfl) fun b3 => ?_
 revert H; refine B1 fun o1 H Hr1 => ?_
 refine aR (ι := List Int × List (List Int) × Value × Value) (fun i => o1 = (i.1, i.2.1)) (fun i => [(1, fSl aX a1), (2, aA .i64 a2), (6, fEq (ptr b1)), (7, fEq (ptr b2)), (8, fEq (ptr b3))]) (fun i => [aC b3 61 [fEq i.2.2.1, fEq (.slice none 0 0), fEq i.2.2.2], aC b2 99 [fSl aU y1.Chans, fSl bH y1.Spots, fSl aZ y1.Rules], aC b1 61 [fEq (.slice none 0 0), fEq (.slice none 0 0), fEq (.slice none 0 0)], aD i.2.2.1 30 (aB .i64) i.1, bM i.2.2.2 58 (bW 30 (aB .i64)) i.2.1]) ?_ ?_
 refine Z4 ?_
 refine oF (aB .i64) 30 ?_
 refine qR (bW 30 (aB .i64)) 58 ?_
 refine aH [2, 3, 4, 1, 0] (by decide) ?_
 refine Tl (ι := Nat × Int × List Int × List (List Int) × Value × Value) (fun i => mX fuel a0 a1 a2 y1 i.1 i.2.1 i.2.2.1 i.2.2.2.1 = _) (fun i => i.1) (fun i => [(0, aF dX a0), (1, fSl aX a1), (2, aA .i64 a2), (6, fEq (ptr b1)), (7, fEq (ptr b2)), (8, fEq (ptr b3)), (9, aA .i64 i.2.1)]) (fun i => [aC b3 61 [fEq i.2.2.2.2.1, fEq (.slice none 0 0), fEq i.2.2.2.2.2], aC b2 99 [fSl aU y1.Chans, fSl bH y1.Spots, fSl aZ y1.Rules], aC b1 61 [fEq (.slice none 0 0), fEq (.slice none 0 0), fEq (.slice none 0 0)], aD i.2.2.2.2.1 30 (aB .i64) i.2.2.1, bM i.2.2.2.2.2 58 (bW 30 (aB .i64)) i.2.2.2.1]) (fuel, 0, [], [], (.slice none 0 0), (.slice none 0 0)) H ?_
 clear H; rintro ⟨k1, x6, x7, x8, v5, v6⟩ H
 replace H : mX fuel a0 a1 a2 y1 k1 x6 x7 x8 = _ := H
 try dsimp only
 obtain _ | k1 := k1
 rw [mX] at H; cases H
 rw [mX] at H
 refine aN 3 rfl (fun hc_v5 => ?_)
 refine dJ 4 rfl (fun hc_v6 => ?_)
 refine aG ?_
 revert H; refine I7 (fun c1 H => ?_) fun c1 H => ?_
 revert H; refine B3 fun o2 H Hr2 => ?_
 refine aR (ι := List Int × List (List Int) × Value × Value) (fun i => o2 = (i.1, i.2.1)) (fun i => [(0, aF dX a0), (1, fSl aX a1), (2, aA .i64 a2), (6, fEq (ptr b1)), (7, fEq (ptr b2)), (8, fEq (ptr b3)), (9, aA .i64 x6)]) (fun i => [aC b3 61 [fEq i.2.2.1, fEq (.slice none 0 0), fEq i.2.2.2], aC b2 99 [fSl aU y1.Chans, fSl bH y1.Spots, fSl aZ y1.Rules], aC b1 61 [fEq (.slice none 0 0), fEq (.slice none 0 0), fEq (.slice none 0 0)], aD i.2.2.1 30 (aB .i64) i.1, bM i.2.2.2 58 (bW 30 (aB .i64)) i.2.1]) ?_ ?_
 refine Z1 ?_
 refine aG ?_
 revert H; refine bs fun y2 h2 H => ?_
 revert H; refine bs fun y3 h3 H => ?_
 revert H; refine bs fun y4 h4 H => ?_
 revert H; refine bs fun y5 h5 H => ?_
 apply bC (ods := [_, _, _, _, _, _, _, _, _, _, _, _, _, _, _, _, _, _]) 18 0 5 bB rfl rfl rfl
 refine ND ?_
 refine M8 ?_
 intros
 refine M6 ?_
 intros
 refine Nc (aCQ _ _ _ _ h3) fun _ => ?_
 refine Nc (aHm _ _ _ _ _ _ h4) fun _ => ?_
 refine Nc (aBB _ _ h5) fun _ => ?_
 refine Mf (φ := fSl (aB .i64) [y5]) (cH (t := (aB .i64)) (xs := [y5]) rfl (et rfl) (aQ.cons rfl (has rfl) (aS (aE trivial)) aQ.nil) rfl rfl rfl) (fun b => cL) fun _ => ?_
 revert H; refine B1 fun z1 h6 H => ?_
 refine cX ?_
 refine uW (ys := [y5]) trivial rfl rfl rfl (has rfl) (has rfl) (et rfl) rfl h6 (fun v10 => ?_)
 refine aN 0 rfl (fun hc_v10 => ?_)
 refine Z1 ?_
 refine cI ?_
 refine dA (φs' := [fEq v10, fEq (.slice none 0 0), fEq v6]) trivial rfl rfl (has rfl) (has rfl) (aE hc_v10) (sz rfl) rfl rfl ?_
 refine Z2 ?_
 refine Tn (cH (t := (aB .i64)) (xs := ([] : List Int)) rfl (et rfl) aQ.nil rfl rfl rfl) fun b5 => ?_
 generalize (Value.slice (some ⟨b5, 0, none⟩) _ _) = v11
 refine aN 0 rfl (fun hc_v11 => ?_)
 revert H; refine B2 fun o3 H Hr3 => ?_
 refine aR (ι := List Int × Value) (fun i => o3 = i.1) (fun i => [(0, aF dX a0), (1, fSl aX a1), (2, aA .i64 a2), (6, fEq (ptr b1)), (7, fEq (ptr b2)), (8, fEq (ptr b3)), (9, aA .i64 x6), (10, fEq i.2)]) (fun i => [aC b3 61 [fEq v10, fEq (.slice none 0 0), fEq v6], aC b2 99 [fSl aU y1.Chans, fSl bH y1.Spots, fSl aZ y1.Rules], aC b1 61 [fEq (.slice none 0 0), fEq (.slice none 0 0), fEq (.slice none 0 0)], aD i.2 30 (aB .i64) i.1, aD v10 30 (aB .i64) z1, bM v6 58 (bW 30 (aB .i64)) x8]) ?_ ?_
 refine Z4 ?_
 refine aH [1, 3, 4, 0, 2, 5] (by decide) ?_
 refine Tl (ι := Nat × List Int × Int × Value) (fun i => mZ fuel a0 a1 a2 y1 x6 i.1 i.2.1 i.2.2.1 = _) (fun i => i.1) (fun i => [(0, aF dX a0), (1, fSl aX a1), (2, aA .i64 a2), (6, fEq (ptr b1)), (7, fEq (ptr b2)), (8, fEq (ptr b3)), (9, aA .i64 x6), (10, fEq i.2.2.2), (11, aA .i64 i.2.2.1)]) (fun i => [aC b3 61 [fEq v10, fEq (.slice none 0 0), fEq v6], aC b2 99 [fSl aU y1.Chans, fSl bH y1.Spots, fSl aZ y1.Rules], aC b1 61 [fEq (.slice none 0 0), fEq (.slice none 0 0), fEq (.slice none 0 0)], aD i.2.2.2 30 (aB .i64) i.2.1, aD v10 30 (aB .i64) z1, bM v6 58 (bW 30 (aB .i64)) x8]) (fuel, ([] : List Int), 0, v11) H ?_
 clear H; rintro ⟨k2, x14, x15, v14⟩ H
 replace H : mZ fuel a0 a1 a2 y1 x6 k2 x14 x15 = _ := H
 try dsimp only
 obtain _ | k2 := k2
 rw [mZ] at H; cases H
 rw [mZ] at H
 refine aN 3 rfl (fun hc_v14 => ?_)
 refine aG ?_
 revert H; refine B5 fun y6 h7 H => ?_
 revert H; refine I5 (fun c2 H => ?_) fun c2 H => ?_
 refine Z3 ?_
 refine aG ?_
 revert H; refine B8 fun y7 h8 H => ?_
 refine Tc (aHM _ _ _ _ _ _ _ h8) ?_
 revert H; refine bs fun y8 h9 H => ?_
 refine Tc (aBB _ _ h9) ?_
 refine Tn (cH (t := (aB .i64)) (xs := [y8]) rfl (et rfl) (aQ.cons rfl (has rfl) (aS (aE trivial)) aQ.nil) rfl rfl rfl) fun b6 => ?_
 generalize (Value.slice (some ⟨b6, 0, none⟩) _ _) = v15
 refine aN 0 rfl (fun hc_v15 => ?_)
 revert H; refine bs fun z2 h10 H => ?_
 refine bK ?_
 refine cI ?_
 refine pQ trivial rfl rfl rfl (has rfl) (has rfl) (et rfl) rfl h10 (fun v16 => ?_)
 refine aN 0 rfl (fun hc_v16 => ?_)
 revert H; refine B6 fun z3 h11 H => ?_
 refine Z3 ?_
 refine aH [1, 2, 3, 0, 4, 5] (by decide) ?_
 exact Tm ((k2, z2, z3, v16)) ⟨H, ls⟩
 refine Z6 ?_
 exact Tm ((x14, v14)) (ij H)
 clear H; intro i hi; obtain ⟨x11, v12⟩ := i; subst o3; have H := Hr3; clear Hr3; try dsimp only at H
 try dsimp only
 refine aN 3 rfl (fun hc_v12 => ?_)
 refine Z4 ?_
 refine Tn (cH (t := tF 1) (xs := [[⟨fEq v12, aE hc_v12⟩]]) rfl (et rfl) (aQ.cons rfl (has rfl) (aS (aE hc_v12)) aQ.nil) rfl rfl rfl) fun b7 => ?_
 generalize (Value.slice (some ⟨b7, 0, none⟩) _ _) = v17
 refine oR ?_
 refine bK ?_
 refine fN (p := 0) (f := (fun v => aD v 30 (aB .i64) x11)) (hf := (fun _ => dQ)) rfl Ent.rfl ?_
 refine oZ (o := (bW 30 (aB .i64))) (xs := ([x11] : List (List Int))) rfl rfl rfl ?_
 refine dJ 0 rfl (fun hc_v17 => ?_)
 revert H; refine bs fun z4 h12 H => ?_
 refine lC ?_
 refine cI ?_
 refine sM (q := (bW 30 (aB .i64))) trivial rfl rfl rfl (has rfl) (has rfl) (et rfl) rfl h12 (fun v18 => ?_)
 refine dJ 0 rfl (fun hc_v18 => ?_)
 refine Z1 ?_
 refine cI ?_
 refine dA (φs' := [fEq v10, fEq (.slice none 0 0), fEq v18]) trivial rfl rfl (has rfl) (has rfl) (aE hc_v18) (sz rfl) rfl rfl ?_
 refine Z3 ?_
 refine aH [0, 2, 3, 4, 1] (by decide) ?_
 exact Tm ((z1, z4, v10, v18)) (ij H)
 exact fk
 kernel_rfl
 clear H; intro i hi; obtain ⟨x9, x10, v7, v8⟩ := i; subst o2; have H := Hr2; clear Hr2; try dsimp only at H
 try dsimp only
 refine aN 3 rfl (fun hc_v7 => ?_)
 refine dJ 4 rfl (fun hc_v8 => ?_)
 revert H; refine B2 fun z5 h13 H => ?_
 refine Z3 ?_
 exact Tm ((k1, z5, x9, x10, v7, v8)) ⟨H, ls⟩
 refine Z6 ?_
 exact Tm ((x7, x8, v5, v6)) (ij H)
 clear H; intro i hi; obtain ⟨x1, x2, v1, v2⟩ := i; subst o1; have H := Hr1; clear Hr1; try dsimp only at H
 try dsimp only
 refine aN 3 rfl (fun hc_v1 => ?_)
 refine dJ 4 rfl (fun hc_v2 => ?_)
 revert H; refine bs fun o4 H Hr4 => ?_
 refine aR (ι := List Int × Value) (fun i => o4 = i.1) (fun i => [(6, fEq (ptr b1)), (8, fEq (ptr b3))]) (fun i => [aC b3 61 [fEq v1, fEq i.2, fEq v2], aC b2 99 [fSl aU y1.Chans, fSl bH y1.Spots, fSl aZ y1.Rules], aC b1 61 [fEq (.slice none 0 0), fEq (.slice none 0 0), fEq (.slice none 0 0)], aD v1 30 (aB .i64) x1, aD i.2 30 (aB .i64) i.1, bM v2 58 (bW 30 (aB .i64)) x2]) ?_ ?_
 refine Z4 ?_
 refine oF (aB .i64) 30 ?_
 refine aH [1, 2, 3, 4, 0, 5] (by decide) ?_
 refine Tl (ι := Nat × Int × List Int × Value) (fun i => lP fuel a1 a2 y1 i.1 i.2.1 i.2.2.1 = _) (fun i => i.1) (fun i => [(1, fSl aX a1), (2, aA .i64 a2), (6, fEq (ptr b1)), (7, fEq (ptr b2)), (8, fEq (ptr b3)), (12, aA .i64 i.2.1)]) (fun i => [aC b3 61 [fEq v1, fEq i.2.2.2, fEq v2], aC b2 99 [fSl aU y1.Chans, fSl bH y1.Spots, fSl aZ y1.Rules], aC b1 61 [fEq (.slice none 0 0), fEq (.slice none 0 0), fEq (.slice none 0 0)], aD v1 30 (aB .i64) x1, aD i.2.2.2 30 (aB .i64) i.2.2.1, bM v2 58 (bW 30 (aB .i64)) x2]) (fuel, 0, [], (.slice none 0 0)) H ?_
 clear H; rintro ⟨k3, x19, x20, v21⟩ H
 replace H : lP fuel a1 a2 y1 k3 x19 x20 = _ := H
 try dsimp only
 obtain _ | k3 := k3
 rw [lP] at H; cases H
 rw [lP] at H
 refine aN 4 rfl (fun hc_v21 => ?_)
 refine aG ?_
 revert H; refine I7 (fun c3 H => ?_) fun c3 H => ?_
 revert H; refine B3 fun o5 H Hr5 => ?_
 refine aR (ι := List Int × Value) (fun i => o5 = i.1) (fun i => [(1, fSl aX a1), (2, aA .i64 a2), (6, fEq (ptr b1)), (7, fEq (ptr b2)), (8, fEq (ptr b3)), (12, aA .i64 x19)]) (fun i => [aC b3 61 [fEq v1, fEq i.2, fEq v2], aC b2 99 [fSl aU y1.Chans, fSl bH y1.Spots, fSl aZ y1.Rules], aC b1 61 [fEq (.slice none 0 0), fEq (.slice none 0 0), fEq (.slice none 0 0)], aD v1 30 (aB .i64) x1, aD i.2 30 (aB .i64) i.1, bM v2 58 (bW 30 (aB .i64)) x2]) ?_ ?_
 revert H; refine B4 fun o6 H Hr6 => ?_
 refine aR (ι := Int) (fun i => o6 = i) (fun i => [(1, fSl aX a1), (2, aA .i64 a2), (6, fEq (ptr b1)), (7, fEq (ptr b2)), (8, fEq (ptr b3)), (12, aA .i64 x19), (13, aA .i64 i)]) (fun i => [aC b3 61 [fEq v1, fEq v21, fEq v2], aC b2 99 [fSl aU y1.Chans, fSl bH y1.Spots, fSl aZ y1.Rules], aC b1 61 [fEq (.slice none 0 0), fEq (.slice none 0 0), fEq (.slice none 0 0)], aD v1 30 (aB .i64) x1, aD v21 30 (aB .i64) x20, bM v2 58 (bW 30 (aB .i64)) x2]) ?_ ?_
 refine Z4 ?_
 refine Tl (ι := Nat × Int × Int) (fun i => lX a1 a2 y1 x19 i.1 i.2.1 i.2.2 = _) (fun i => i.1) (fun i => [(1, fSl aX a1), (2, aA .i64 a2), (6, fEq (ptr b1)), (7, fEq (ptr b2)), (8, fEq (ptr b3)), (12, aA .i64 x19), (13, aA .i64 i.2.1), (14, aA .i64 i.2.2)]) (fun i => [aC b3 61 [fEq v1, fEq v21, fEq v2], aC b2 99 [fSl aU y1.Chans, fSl bH y1.Spots, fSl aZ y1.Rules], aC b1 61 [fEq (.slice none 0 0), fEq (.slice none 0 0), fEq (.slice none 0 0)], aD v1 30 (aB .i64) x1, aD v21 30 (aB .i64) x20, bM v2 58 (bW 30 (aB .i64)) x2]) (fuel, 2, 0) H ?_
 clear H; rintro ⟨k4, x25, x26⟩ H
 replace H : lX a1 a2 y1 x19 k4 x25 x26 = _ := H
 try dsimp only
 obtain _ | k4 := k4
 rw [lX] at H; cases H
 rw [lX] at H
 refine aG ?_
 revert H; refine B5 fun y9 h14 H => ?_
 revert H; refine I6 (fun c4 H => ?_) fun c4 H => ?_
 refine Z3 ?_
 refine aG ?_
 revert H; refine B1 fun y10 h15 H => ?_
 revert H; refine bs fun y11 h16 H => ?_
 revert H; refine bs fun y12 h17 H => ?_
 revert H; refine bs fun y13 h18 H => ?_
 revert H; refine bs fun y14 h19 H => ?_
 apply bC (ods := [_, _, _, _, _, _, _, _, _, _, _, _, _, _, _, _, _, _, _, _]) 20 0 6 bB rfl rfl rfl
 refine ND ?_
 refine M8 ?_
 intros
 refine M8 ?_
 intros
 refine M1 ?_
 intros
 refine Nc (uQ _ _ h19) fun _ => ?_
 refine M2 ?_
 intros
 revert H; refine B6 fun z6 h20 H => ?_
 refine Z3 ?_
 exact Tm ((k4, min x25 y14, z6)) ⟨H, ls⟩
 exact fk
 kernel_rfl
 refine Z6 ?_
 exact Tm (x25) (ij H)
 clear H; intro x22 hi; subst o6; have H := Hr6; clear Hr6; try dsimp only at H
 try dsimp only
 revert H; refine bs fun y15 h21 H => ?_
 apply bC (ods := [_, _, _, _, _]) 5 0 6 bB rfl rfl rfl
 refine ND ?_
 refine M3 ?_
 intros
 refine Nc (aBB _ _ h21) fun _ => ?_
 refine Mf (φ := fSl (aB .i64) [y15]) (cH (t := (aB .i64)) (xs := [y15]) rfl (et rfl) (aQ.cons rfl (has rfl) (aS (aE trivial)) aQ.nil) rfl rfl rfl) (fun b => cL) fun _ => ?_
 revert H; refine B1 fun z7 h22 H => ?_
 refine bK ?_
 refine uW (ys := [y15]) trivial rfl rfl rfl (has rfl) (has rfl) (et rfl) rfl h22 (fun v24 => ?_)
 refine aN 0 rfl (fun hc_v24 => ?_)
 refine Z1 ?_
 refine cI ?_
 refine dA (φs' := [fEq v1, fEq v24, fEq v2]) trivial rfl rfl (has rfl) (has rfl) (aE hc_v24) (sz rfl) rfl rfl ?_
 refine Z3 ?_
 refine aH [0, 2, 3, 4, 1, 5] (by decide) ?_
 exact Tm ((z7, v24)) (ij H)
 exact fk
 kernel_rfl
 clear H; intro i hi; obtain ⟨x21, v22⟩ := i; subst o5; have H := Hr5; clear Hr5; try dsimp only at H
 try dsimp only
 refine aN 4 rfl (fun hc_v22 => ?_)
 revert H; refine B2 fun z8 h23 H => ?_
 refine Z3 ?_
 exact Tm ((k3, z8, x21, v22)) ⟨H, ls⟩
 refine Z6 ?_
 exact Tm ((x20, v21)) (ij H)
 clear H; intro i hi; obtain ⟨x16, v19⟩ := i; subst o4; have H := Hr4; clear Hr4; try dsimp only at H
 try dsimp only
 refine aN 4 rfl (fun hc_v19 => ?_)
 refine Z2 ?_
 refine eB ?_
 refine cS (φs' := [fEq v1, fEq v19, fEq v2]) trivial rfl rfl (has rfl) (has rfl) (aJ (aE hc_v1) (aJ (aE hc_v19) (aJ (aE hc_v2) bP))) (sz rfl) rfl rfl rfl ?_
 refine Z2 ?_
 cases H
 refine aH [0, 3, 4, 5] (by decide) ?_
 exact aDw rfl (ag rfl) (bL rfl) (eJ.own (eJ.own (eJ.own eJ.nil))) rfl rfl
def nK (fuel : Nat) (a0 : Ref05_Look) (a1 : List UsageDef) : Nat → (List UsageDef) → Int → Option (List UsageDef)
| 0, _, _ => none
| k + 1, x4, x5 =>
 if x5 < (a0.p.Defs.length : Int) then
  (uC fuel a0 a1 x5).bind fun y1 =>
  (eI (x4 ++ ([(⟨y1.Chans, y1.Rules, y1.Args⟩ : UsageDef)] : List UsageDef))).bind fun z1 =>
  (chk (x5 + 1)).bind fun z2 =>
  nK fuel a0 a1 k z1 z2
 else
  some x4
def uR (fuel : Nat) (a0 : Ref05_Look) (a1 : List UsageDef) : Option (List UsageDef) :=
 (nK fuel a0 a1 fuel [] 0).bind fun x1 =>
 some x1
theorem aGK (fuel : Nat)  (a0 : Ref05_Look) (a1 : List UsageDef) (r : List UsageDef) (H : uR fuel a0 a1 = some r) : FnS Tryz.prog 47 [aF dX a0, fSl aX a1] [] fAny (fun v => [(fun v => bM v 61 cW r) v]) := by
 unfold uR at H
 refine bJ Tryz.func47 rfl Tryz.ntmps47 rfl (fun β => ?_)
 revert H; refine B6 fun o1 H Hr1 => ?_
 refine aR (ι := List UsageDef × Value) (fun i => o1 = i.1) (fun i => [(5, fEq i.2)]) (fun i => [bM i.2 61 cW i.1]) ?_ ?_
 refine Z4 ?_
 refine qR cW 61 ?_
 refine Tl (ι := Nat × List UsageDef × Int × Value) (fun i => nK fuel a0 a1 i.1 i.2.1 i.2.2.1 = _) (fun i => i.1) (fun i => [(0, aF dX a0), (1, fSl aX a1), (5, fEq i.2.2.2), (6, aA .i64 i.2.2.1)]) (fun i => [bM i.2.2.2 61 cW i.2.1]) (fuel, [], 0, (.slice none 0 0)) H ?_
 clear H; rintro ⟨k1, x4, x5, v3⟩ H
 replace H : nK fuel a0 a1 k1 x4 x5 = _ := H
 try dsimp only
 obtain _ | k1 := k1
 rw [nK] at H; cases H
 rw [nK] at H
 refine dJ 0 rfl (fun hc_v3 => ?_)
 refine aG ?_
 revert H; refine I10 (fun c1 H => ?_) fun c1 H => ?_
 refine Z3 ?_
 refine aG ?_
 revert H; refine B6 fun y1 h1 H => ?_
 refine vH trivial rfl rfl rfl (has rfl) (aO.cons (has rfl) (aO.cons (has rfl) (aO.cons (has rfl) aO.nil))) rfl (cb rfl) (aFD fuel a0 a1 x5 y1 h1) (Δi := []) rfl (fun v4 => ?_)
 dsimp only [List.append, List.cons_append, List.nil_append]
 refine aEN (c := .agg) (fs := [.own (fun v => aD v 30 (aB .i64) y1.Chans) (fun _ => dQ), .own (fun v => aD v 30 (aB .i64) y1.Rules) (fun _ => dQ), .own (fun v => bM v 58 (bW 30 (aB .i64)) y1.Args) (fun _ => iJ)]) (fun v5 v6 v7 => ?_)
 dsimp only [List.append, List.cons_append, List.nil_append]
 refine aN 0 rfl (fun hc_v5 => ?_)
 refine aN 1 rfl (fun hc_v6 => ?_)
 refine dJ 2 rfl (fun hc_v7 => ?_)
 refine Tn (cH (t := tF 3) (xs := [[⟨fEq v5, aE hc_v5⟩, ⟨fEq v6, aE hc_v6⟩, ⟨fEq v7, aE hc_v7⟩]]) rfl (et rfl) (aQ.cons rfl (has rfl) bO aQ.nil) rfl rfl rfl) fun b1 => ?_
 generalize (Value.slice (some ⟨b1, 0, none⟩) _ _) = v8
 refine oR ?_
 refine cI ?_
 refine fN (p := 0) (f := (fun v => aD v 30 (aB .i64) y1.Chans)) (hf := (fun _ => dQ)) rfl Ent.rfl ?_
 refine cI ?_
 refine fN (p := 1) (f := (fun v => aD v 30 (aB .i64) y1.Rules)) (hf := (fun _ => dQ)) rfl Ent.rfl ?_
 refine cI ?_
 refine fN (p := 2) (f := (fun v => bM v 58 (bW 30 (aB .i64)) y1.Args)) (hf := (fun _ => iJ)) rfl Ent.rfl ?_
 refine oZ (o := cW) (xs := ([(⟨y1.Chans, y1.Rules, y1.Args⟩ : UsageDef)] : List UsageDef)) rfl rfl rfl ?_
 refine dJ 0 rfl (fun hc_v8 => ?_)
 revert H; refine bs fun z1 h2 H => ?_
 refine sM (q := cW) trivial rfl rfl rfl (has rfl) (has rfl) (et rfl) rfl h2 (fun v9 => ?_)
 refine dJ 0 rfl (fun hc_v9 => ?_)
 revert H; refine B6 fun z2 h3 H => ?_
 refine Z3 ?_
 exact Tm ((k1, z1, z2, v9)) ⟨H, ls⟩
 refine Z6 ?_
 exact Tm ((x4, v3)) (ij H)
 clear H; intro i hi; obtain ⟨x1, v1⟩ := i; subst o1; have H := Hr1; clear Hr1; try dsimp only at H
 try dsimp only
 refine dJ 0 rfl (fun hc_v1 => ?_)
 refine Z5 ?_
 cases H
 exact wL rfl (bL rfl) (fun _ _ _ => trivial) rfl
theorem aG8 (fuel : Nat)  (a0 : Ref05_Look) (a1 : List UsageDef) (r : List UsageDef) (H : uR fuel a0 a1 = some r) : FnS Tryz.prog 47 [aF dX a0, fSl aX a1] [] (fSl aX r) (fun _ => []) := (aGK fuel a0 a1 r H).frz (fun v => (lI rfl nC))
end Go.Proofs.YtmnbfgeljmhekaaGreat
set_option maxRecDepth 100000
set_option maxHeartbeats 2000000
namespace Go.Proofs.YtmnbfgeljmhekaaGreat
open Go.SX Go.SW Go.Dt
attribute [local irreducible] Code.wpIn wpListIn Exit.then Exit.inBlock
def nM (a0 : List Int) (a1 : List Int) : Nat → Int → Option ((Unit) ⊕ (Bool))
| 0, _ => none
| k + 1, x2 =>
 if x2 < (a0.length : Int) then
  (idx a0 x2).bind fun y1 =>
  (nG y1).bind fun y2 =>
  (idx a1 x2).bind fun y3 =>
  (nG y3).bind fun y4 =>
  if y2 < y4 then
   (some false).bind fun r => some (Sum.inr r)
  else
   (chk (x2 + 1)).bind fun z1 =>
   nM a0 a1 k z1
 else
  some (Sum.inl ())
def rT (fuel : Nat) (a0 : List Int) (a1 : List Int) : Option (Bool) :=
 (nM a0 a1 fuel 0).bind fun o => match o with
 | Sum.inr r => some r
 | Sum.inl _ =>
 some true
theorem vC (fuel : Nat)  (a0 : List Int) (a1 : List Int) (r : Bool) (H : rT fuel a0 a1 = some r) : FnS Tryz.prog 48 [fSl (aB .i64) a0, fSl (aB .i64) a1] [] (aL r) (fun _ => []) := by
 unfold rT at H
 refine bJ Tryz.func48 rfl Tryz.ntmps48 rfl (fun β => ?_)
 revert H; refine B3 fun o1 H Hr1 => ?_
 refine aR (ι := Unit) (fun i => o1 = Sum.inl ()) (fun i => []) (fun i => []) ?_ ?_
 refine Z4 ?_
 refine Tl (ι := Nat × Int) (fun i => nM a0 a1 i.1 i.2 = _) (fun i => i.1) (fun i => [(0, fSl (aB .i64) a0), (1, fSl (aB .i64) a1), (5, aA .i64 i.2)]) (fun i => []) (fuel, 0) H ?_
 clear H; rintro ⟨k1, x2⟩ H
 replace H : nM a0 a1 k1 x2 = _ := H
 try dsimp only
 obtain _ | k1 := k1
 rw [nM] at H; cases H
 rw [nM] at H
 refine aG ?_
 revert H; refine I6 (fun c1 H => ?_) fun c1 H => ?_
 refine Z3 ?_
 refine aG ?_
 refine Z1 ?_
 refine aG ?_
 revert H; refine bs fun y1 h1 H => ?_
 revert H; refine bs fun y2 h2 H => ?_
 revert H; refine bs fun y3 h3 H => ?_
 revert H; refine bs fun y4 h4 H => ?_
 apply bC (ods := [_, _, _, _, _, _, _, _, _, _, _]) 11 0 0 bB rfl rfl rfl
 refine ND ?_
 refine M4 ?_
 intros
 refine Nc (uQ _ _ h2) fun _ => ?_
 refine M4 ?_
 intros
 refine Nc (uQ _ _ h4) fun _ => ?_
 refine M1 ?_
 intros
 revert H; refine I2 (fun c2 H => ?_) fun c2 H => ?_
 revert H; refine B10 fun r1 H e1 => ?_
 cases e1; cases Hr1
 cases H
 exact To
 revert H; refine B6 fun z1 h5 H => ?_
 refine Z3 ?_
 exact Tm ((k1, z1)) ⟨H, ls⟩
 exact fk
 kernel_rfl
 refine Z6 ?_
 exact Tm (()) (ij H)
 clear H; intro i hi; subst o1; have H := Hr1; clear Hr1; try dsimp only at H
 try dsimp only
 refine Z4 ?_
 cases H
 exact To
def kU (fuel : Nat) (a1 : List UsageDef) (y3 : Ref05_Look) (y4 : List UsageDef) (x2 : Int) : Nat → Int → Option ((Unit) ⊕ ((Unit) ⊕ (Bool × Int)))
| 0, _ => none
| k + 1, x4 =>
 (idx a1 x2).bind fun y11 =>
 if x4 < (y11.Chans.length : Int) then
  ((idx a1 x2).bind fun y12 =>
  (idx y12.Args x4).bind fun y13 =>
  (idx y4 x2).bind fun y14 =>
  (idx y14.Args x4).bind fun y15 =>
  (rT fuel y13 y15).bind fun y16 =>
  bif !y16 then
   (((some (false, 0)).bind fun r => some (Sum.inr r)).bind fun r => some (Sum.inr r)).bind fun r => some (Sum.inr r)
  else
   (idx a1 x2).bind fun y17 =>
   (idx y17.Chans x4).bind fun y18 =>
   if y18 = 2 then
    (idx y3.Heads x2).bind fun y19 =>
    (sT y3 x2 x4).bind fun y20 =>
    (nT fuel y3 y19 y20).bind fun y21 =>
    if y21 ≠ 1 then
     (((some (false, 0)).bind fun r => some (Sum.inr r)).bind fun r => some (Sum.inr r)).bind fun r => some (Sum.inr r)
    else
     some (Sum.inl ())
   else
    some (Sum.inl ())).bind fun o => match o with
  | Sum.inr r => some r
  | Sum.inl _ =>
  (chk (x4 + 1)).bind fun z1 =>
  kU fuel a1 y3 y4 x2 k z1
 else
  some (Sum.inl ())
def jS (fuel : Nat) (a1 : List UsageDef) (y3 : Ref05_Look) (y4 : List UsageDef) : Nat → Int → Option ((Unit) ⊕ (Bool × Int))
| 0, _ => none
| k + 1, x2 =>
 if x2 < (a1.length : Int) then
  ((idx a1 x2).bind fun y5 =>
  (idx y4 x2).bind fun y6 =>
  (rT fuel y5.Chans y6.Chans).bind fun y7 =>
  bif !y7 then
   ((some (false, 0)).bind fun r => some (Sum.inr r)).bind fun r => some (Sum.inr r)
  else
   (idx a1 x2).bind fun y8 =>
   (idx y4 x2).bind fun y9 =>
   (rT fuel y8.Rules y9.Rules).bind fun y10 =>
   bif y10 then
    kU fuel a1 y3 y4 x2 fuel 0
   else
    ((some (false, 0)).bind fun r => some (Sum.inr r)).bind fun r => some (Sum.inr r)).bind fun o => match o with
  | Sum.inr r => some r
  | Sum.inl _ =>
  (chk (x2 + 1)).bind fun z2 =>
  jS fuel a1 y3 y4 k z2
 else
  some (Sum.inl ())
def vK (fuel : Nat) (a0 : ScopeProg) (a1 : List UsageDef) : Option (Bool × Int) :=
 (vZ fuel (⟨a0.Free, a0.Nodes, a0.Defs, a0.Main⟩ : ScopeProg)).bind fun y1 =>
 if y1 ≠ 0 then
  some (false, 2)
 else
  (wS fuel (⟨a0.Free, a0.Nodes, a0.Defs, a0.Main⟩ : ScopeProg) a1).bind fun y2 =>
  bif y2 then
   (tA fuel (⟨a0.Free, a0.Nodes, a0.Defs, a0.Main⟩ : ScopeProg)).bind fun y3 =>
   (uR fuel y3 a1).bind fun y4 =>
   (jS fuel a1 y3 y4 fuel 0).bind fun o => match o with
   | Sum.inr r => some r
   | Sum.inl _ =>
   some (true, 0)
  else
   some (false, 2)
theorem aHC (fuel : Nat)  (a0 : ScopeProg) (a1 : List UsageDef) (r : Bool × Int) (H : vK fuel a0 a1 = some r) : FnS Tryz.prog 18 [fSt cY a0, fSl aX a1] [] (dC [aL r.1, aA .i64 r.2]) (fun _ => []) := by
 unfold vK at H
 refine bJ Tryz.func18 rfl Tryz.ntmps18 rfl (fun β => ?_)
 refine Z1 ?_
 refine Tn (cF rfl (has rfl) bO) fun b1 => ?_
 refine Z3 ?_
 refine aG ?_
 revert H; refine B2 fun y1 h1 H => ?_
 refine Tc (aGo _ _ _ h1) ?_
 revert H; refine I2 (fun c1 H => ?_) fun c1 H => ?_
 refine Yt c1 ?_
 refine Yt c1 ?_
 refine Yt c1 ?_
 refine Yt c1 ?_
 refine Yy (cN rfl hh c1 hh) ?_
 refine Z7 ?_
 cases H
 refine aH [] (by decide) ?_
 exact eW rfl (bL rfl) (bL rfl) rfl
 refine Yh 0 rfl c1 (aDi rfl hh (ag rfl) rfl rfl) ?_
 refine Yg c1 (bF rfl hh) ?_
 revert H; refine bs fun y2 h2 H => ?_
 refine Tc (aFb _ _ _ _ h2) ?_
 refine Yg c1 (gD rfl hh) ?_
 refine Yy (bU rfl hh c1 hh) ?_
 refine Z1 ?_
 revert H; refine cs (fun c2 H => ?_) fun c2 H => ?_
 refine cK (has rfl) (iP c2) ?_
 revert H; refine B4 fun y3 h3 H => ?_
 refine Tc (aGm _ _ _ h3) ?_
 revert H; refine B5 fun y4 h4 H => ?_
 refine iE trivial rfl rfl rfl (has rfl) (aO.cons (has rfl) (aO.cons (has rfl) aO.nil)) rfl (cb rfl) (aG8 fuel y3 a1 y4 h4) rfl ?_
 revert H; refine B2 fun o1 H Hr1 => ?_
 refine aR (ι := Unit) (fun i => o1 = Sum.inl ()) (fun i => []) (fun i => [aC b1 26 [fSl aM a0.Free, fSl aK a0.Nodes, fSl aI a0.Defs, aA .i64 a0.Main]]) ?_ ?_
 refine Z4 ?_
 refine Tl (ι := Nat × Int) (fun i => jS fuel a1 y3 y4 i.1 i.2 = _) (fun i => i.1) (fun i => [(1, fSl aX a1), (6, aF dX y3), (7, fSl aX y4), (8, aA .i64 i.2)]) (fun i => [aC b1 26 [fSl aM a0.Free, fSl aK a0.Nodes, fSl aI a0.Defs, aA .i64 a0.Main]]) (fuel, 0) H ?_
 clear H; rintro ⟨k1, x2⟩ H
 replace H : jS fuel a1 y3 y4 k1 x2 = _ := H
 try dsimp only
 obtain _ | k1 := k1
 rw [jS] at H; cases H
 rw [jS] at H
 refine aG ?_
 revert H; refine I6 (fun c3 H => ?_) fun c3 H => ?_
 refine cJ (has rfl) c3 ?_
 revert H; refine B2 fun o2 H Hr2 => ?_
 refine aR (ι := Unit) (fun i => o2 = Sum.inl ()) (fun i => [(1, fSl aX a1), (6, aF dX y3), (7, fSl aX y4), (8, aA .i64 x2)]) (fun i => [aC b1 26 [fSl aM a0.Free, fSl aK a0.Nodes, fSl aI a0.Defs, aA .i64 a0.Main]]) ?_ ?_
 refine Z1 ?_
 refine aG ?_
 refine aG ?_
 revert H; refine bs fun y5 h5 H => ?_
 revert H; refine bs fun y6 h6 H => ?_
 revert H; refine bs fun y7 h7 H => ?_
 revert H; refine cs (fun c4 H => ?_) fun c4 H => ?_
 apply bC (ods := [_, _, _, _, _, _, _, _, _, _, _, _, _, _, _, _, _, _, _, _, _, _, _, _, _, _]) 26 0 1 bB rfl rfl rfl
 refine ND ?_
 refine M2 ?_
 intros
 refine My (bE rfl hh hh (el rfl) h5) fun _ => ?_
 refine M4 ?_
 intros
 refine My (bE rfl hh hh (el rfl) h6) fun _ => ?_
 refine M2 ?_
 intros
 refine Nc (vC _ _ _ _ h7) fun _ => ?_
 refine M2 ?_
 intros
 refine Mt c4 fun _ => ?_
 refine Mt c4 fun _ => ?_
 refine Mt c4 fun _ => ?_
 refine Mt c4 fun _ => ?_
 refine Mt c4 fun _ => ?_
 refine Mt c4 fun _ => ?_
 refine Mt c4 fun _ => ?_
 refine Mt c4 fun _ => ?_
 refine Mt c4 fun _ => ?_
 refine Mt c4 fun _ => ?_
 refine Mt c4 fun _ => ?_
 refine Mt c4 fun _ => ?_
 refine My (cN rfl hh c4 hh) fun _ => ?_
 revert H; refine B10 fun r1 H e1 => ?_
 cases e1; cases Hr2
 revert H; refine B3 fun r2 H e2 => ?_
 cases e2; cases Hr1
 cases H
 refine aH [] (by decide) ?_
 exact eW rfl (bL rfl) (bL rfl) rfl
 exact fk
 kernel_rfl
 revert H; refine bs fun y8 h8 H => ?_
 revert H; refine bs fun y9 h9 H => ?_
 revert H; refine bs fun y10 h10 H => ?_
 apply bC (ods := [_, _, _, _, _, _, _, _, _, _, _, _, _, _, _, _, _, _, _, _, _, _, _, _, _, _]) 26 0 1 bB rfl rfl rfl
 refine ND ?_
 refine M2 ?_
 intros
 refine My (bE rfl hh hh (el rfl) h5) fun _ => ?_
 refine M4 ?_
 intros
 refine My (bE rfl hh hh (el rfl) h6) fun _ => ?_
 refine M2 ?_
 intros
 refine Nc (vC _ _ _ _ h7) fun _ => ?_
 refine M2 ?_
 intros
 refine Mg c4 (bF rfl hh) fun _ => ?_
 refine Mg c4 (bF rfl hh) fun _ => ?_
 refine Mg c4 (bE rfl hh hh (el rfl) h8) fun _ => ?_
 refine Mg c4 (dP (t' := (tSl (aB .i64))) (z := y8.Rules) rfl hh (fa rfl) rfl) fun _ => ?_
 refine Mg c4 (dB rfl hh (sc rfl) rfl) fun _ => ?_
 refine Mg c4 (bF rfl hh) fun _ => ?_
 refine Mg c4 (bF rfl hh) fun _ => ?_
 refine Mg c4 (bE rfl hh hh (el rfl) h9) fun _ => ?_
 refine Mg c4 (dP (t' := (tSl (aB .i64))) (z := y9.Rules) rfl hh (fa rfl) rfl) fun _ => ?_
 refine Mg c4 (dB rfl hh (sc rfl) rfl) fun _ => ?_
 refine Nc (vC _ _ _ _ h10) fun _ => ?_
 refine Mg c4 (gD rfl hh) fun _ => ?_
 refine My (bU rfl hh c4 hh) fun _ => ?_
 refine Z2 ?_
 revert H; refine cs (fun c5 H => ?_) fun c5 H => ?_
 refine cK (has rfl) (iP c5) ?_
 refine Z6 ?_
 refine Tl (ι := Nat × Int) (fun i => kU fuel a1 y3 y4 x2 i.1 i.2 = _) (fun i => i.1) (fun i => [(1, fSl aX a1), (6, aF dX y3), (7, fSl aX y4), (8, aA .i64 x2), (9, aA .i64 i.2)]) (fun i => [aC b1 26 [fSl aM a0.Free, fSl aK a0.Nodes, fSl aI a0.Defs, aA .i64 a0.Main]]) (fuel, 0) H ?_
 clear H; rintro ⟨k2, x4⟩ H
 replace H : kU fuel a1 y3 y4 x2 k2 x4 = _ := H
 try dsimp only
 obtain _ | k2 := k2
 rw [kU] at H; cases H
 rw [kU] at H
 refine aG ?_
 revert H; refine B4 fun y11 h11 H => ?_
 refine Yy (bE rfl hh hh (el rfl) h11) ?_
 revert H; refine I5 (fun c6 H => ?_) fun c6 H => ?_
 refine cJ (has rfl) c6 ?_
 revert H; refine B2 fun o3 H Hr3 => ?_
 refine aR (ι := Unit) (fun i => o3 = Sum.inl ()) (fun i => [(1, fSl aX a1), (6, aF dX y3), (7, fSl aX y4), (8, aA .i64 x2), (9, aA .i64 x4)]) (fun i => [aC b1 26 [fSl aM a0.Free, fSl aK a0.Nodes, fSl aI a0.Defs, aA .i64 a0.Main]]) ?_ ?_
 refine Z1 ?_
 refine aG ?_
 revert H; refine bs fun y12 h12 H => ?_
 revert H; refine bs fun y13 h13 H => ?_
 revert H; refine bs fun y14 h14 H => ?_
 revert H; refine bs fun y15 h15 H => ?_
 revert H; refine bs fun y16 h16 H => ?_
 revert H; refine cs (fun c7 H => ?_) fun c7 H => ?_
 apply bC (ods := [_, _, _, _, _, _, _, _, _, _, _, _, _, _, _, _, _, _, _, _, _, _, _, _, _, _, _, _, _, _, _, _, _, _, _, _, _, _, _, _, _, _, _, _, _]) 45 0 1 bB rfl rfl rfl
 refine ND ?_
 refine M2 ?_
 intros
 refine My (bE rfl hh hh (el rfl) h12) fun _ => ?_
 refine M3 ?_
 intros
 refine My (bE rfl hh hh (el rfl) h13) fun _ => ?_
 refine M3 ?_
 intros
 refine My (bE rfl hh hh (el rfl) h14) fun _ => ?_
 refine M3 ?_
 intros
 refine My (bE rfl hh hh (el rfl) h15) fun _ => ?_
 refine M1 ?_
 intros
 refine Nc (vC _ _ _ _ h16) fun _ => ?_
 refine M2 ?_
 intros
 refine Mt c7 fun _ => ?_
 refine Mt c7 fun _ => ?_
 refine Mt c7 fun _ => ?_
 refine Mt c7 fun _ => ?_
 refine Mt c7 fun _ => ?_
 refine Mt c7 fun _ => ?_
 refine Mt c7 fun _ => ?_
 refine Mt c7 fun _ => ?_
 refine Mt c7 fun _ => ?_
 refine Mt c7 fun _ => ?_
 refine dK (od := odS) rfl (⟨_, _, _, _, rfl, rfl, rfl, nu⟩) rfl (fun _ => ?_)
 refine dK (od := odS) rfl (⟨_, _, _, _, rfl, rfl, rfl, nu⟩) rfl (fun _ => ?_)
 refine dK (od := odS) rfl (⟨_, _, _, _, rfl, rfl, rfl, nu⟩) rfl (fun _ => ?_)
 refine dK (od := odS) rfl (⟨_, _, _, _, rfl, rfl, rfl, nu⟩) rfl (fun _ => ?_)
 refine dK (od := odS) rfl (⟨_, _, _, _, rfl, rfl, rfl, nu⟩) rfl (fun _ => ?_)
 refine dK (od := odS) rfl (⟨_, _, _, _, rfl, rfl, rfl, nu⟩) rfl (fun _ => ?_)
 refine dK (od := odS) rfl (⟨_, _, _, _, rfl, rfl, rfl, nu⟩) rfl (fun _ => ?_)
 refine dK (od := odS) rfl (⟨_, _, _, _, rfl, rfl, rfl, nu⟩) rfl (fun _ => ?_)
 refine dK (od := odS) rfl (⟨_, _, _, _, rfl, rfl, rfl, nu⟩) rfl (fun _ => ?_)
 refine dK (od := odS) rfl (⟨_, _, _, _, rfl, rfl, rfl, nu⟩) rfl (fun _ => ?_)
 refine dK (od := odS) rfl (⟨_, _, _, _, rfl, rfl, rfl, nu⟩) rfl (fun _ => ?_)
 refine dK (od := odS) rfl (⟨_, _, _, _, rfl, rfl, rfl, nu⟩) rfl (fun _ => ?_)
 refine dK (od := odS) rfl (⟨_, _, _, _, rfl, rfl, rfl, nu⟩) rfl (fun _ => ?_)
 refine dK (od := odS) rfl (⟨_, _, _, _, rfl, rfl, rfl, nu⟩) rfl (fun _ => ?_)
 refine Mt c7 fun _ => ?_
 refine My (cN rfl hh c7 hh) fun _ => ?_
 revert H; refine B10 fun r3 H e3 => ?_
 cases e3; cases Hr3
 revert H; refine B4 fun r4 H e4 => ?_
 cases e4; cases Hr2
 revert H; refine B3 fun r5 H e5 => ?_
 cases e5; cases Hr1
 cases H
 refine aH [] (by decide) ?_
 exact eW rfl (bL rfl) (bL rfl) rfl
 exact fk
 kernel_rfl
 revert H; refine bs fun y17 h17 H => ?_
 revert H; refine bs fun y18 h18 H => ?_
 revert H; refine is (fun c8 H => ?_) fun c8 H => ?_
 revert H; refine bs fun y19 h19 H => ?_
 revert H; refine bs fun y20 h20 H => ?_
 revert H; refine bs fun y21 h21 H => ?_
 apply bC (ods := [_, _, _, _, _, _, _, _, _, _, _, _, _, _, _, _, _, _, _, _, _, _, _, _, _, _, _, _, _, _, _, _, _, _, _, _, _, _, _, _, _, _, _, _, _]) 45 0 1 bB rfl rfl rfl
 refine ND ?_
 refine M2 ?_
 intros
 refine My (bE rfl hh hh (el rfl) h12) fun _ => ?_
 refine M3 ?_
 intros
 refine My (bE rfl hh hh (el rfl) h13) fun _ => ?_
 refine M3 ?_
 intros
 refine My (bE rfl hh hh (el rfl) h14) fun _ => ?_
 refine M3 ?_
 intros
 refine My (bE rfl hh hh (el rfl) h15) fun _ => ?_
 refine M1 ?_
 intros
 refine Nc (vC _ _ _ _ h16) fun _ => ?_
 refine M2 ?_
 intros
 refine Mg c7 (bF rfl hh) fun _ => ?_
 refine Mg c7 (bF rfl hh) fun _ => ?_
 refine Mg c7 (bE rfl hh hh (el rfl) h17) fun _ => ?_
 refine Mg c7 (dP (t' := (tSl (aB .i64))) (z := y17.Chans) rfl hh (fa rfl) rfl) fun _ => ?_
 refine Mg c7 (dB rfl hh (sc rfl) rfl) fun _ => ?_
 refine Mg c7 (bF rfl hh) fun _ => ?_
 refine Mg c7 (bE rfl hh hh (el rfl) h18) fun _ => ?_
 refine Mg c7 (dB rfl hh (sc rfl) rfl) fun _ => ?_
 refine Mg c7 (vR rfl hh hh) fun _ => ?_
 refine Mg c7 (bF rfl hh) fun _ => ?_
 refine Mg c8 (bF rfl hh) fun _ => ?_
 refine Mg c8 (bF rfl hh) fun _ => ?_
 refine Mg c8 (iX rfl (has rfl) (fun m v ⟨p, h, _⟩ => ⟨p, h⟩)) fun _ => ?_
 refine Mg c8 (dP (t' := (tSl (aB .i64))) (z := y3.Heads) rfl hh (fa rfl) rfl) fun _ => ?_
 refine Mg c8 (dB rfl hh (sc rfl) rfl) fun _ => ?_
 refine Mg c8 (bF rfl hh) fun _ => ?_
 refine Mg c8 (bE rfl hh hh (el rfl) h19) fun _ => ?_
 refine Mg c8 (dB rfl hh (sc rfl) rfl) fun _ => ?_
 refine Mg c8 (bF rfl hh) fun _ => ?_
 refine Mg c8 (bF rfl hh) fun _ => ?_
 refine Mg c8 (bF rfl hh) fun _ => ?_
 refine Nc (aCQ _ _ _ _ h20) fun _ => ?_
 refine Nc (aFQ _ _ _ _ _ h21) fun _ => ?_
 refine Mg c8 (hP rfl hh hh) fun _ => ?_
 refine Mg c7 (cN rfl hh c8 hh) fun _ => ?_
 refine My (bU rfl hh c7 hh) fun _ => ?_
 revert H; refine I2 (fun c9 H => ?_) fun c9 H => ?_
 refine cJ (has rfl) c9 ?_
 revert H; refine B7 fun r6 H e6 => ?_
 cases e6; cases Hr3
 revert H; refine B4 fun r7 H e7 => ?_
 cases e7; cases Hr2
 revert H; refine B3 fun r8 H e8 => ?_
 cases e8; cases Hr1
 cases H
 refine aH [] (by decide) ?_
 exact eW rfl (bL rfl) (bL rfl) rfl
 refine cK (has rfl) c9 ?_
 refine Z3 ?_
 exact Tm (()) (ij H)
 exact fk
 kernel_rfl
 apply bC (ods := [_, _, _, _, _, _, _, _, _, _, _, _, _, _, _, _, _, _, _, _, _, _, _, _, _, _, _, _, _, _, _, _, _, _, _, _, _, _, _, _, _, _, _, _, _]) 45 0 1 bB rfl rfl rfl
 refine ND ?_
 refine M2 ?_
 intros
 refine My (bE rfl hh hh (el rfl) h12) fun _ => ?_
 refine M3 ?_
 intros
 refine My (bE rfl hh hh (el rfl) h13) fun _ => ?_
 refine M3 ?_
 intros
 refine My (bE rfl hh hh (el rfl) h14) fun _ => ?_
 refine M3 ?_
 intros
 refine My (bE rfl hh hh (el rfl) h15) fun _ => ?_
 refine M1 ?_
 intros
 refine Nc (vC _ _ _ _ h16) fun _ => ?_
 refine M2 ?_
 intros
 refine Mg c7 (bF rfl hh) fun _ => ?_
 refine Mg c7 (bF rfl hh) fun _ => ?_
 refine Mg c7 (bE rfl hh hh (el rfl) h17) fun _ => ?_
 refine Mg c7 (dP (t' := (tSl (aB .i64))) (z := y17.Chans) rfl hh (fa rfl) rfl) fun _ => ?_
 refine Mg c7 (dB rfl hh (sc rfl) rfl) fun _ => ?_
 refine Mg c7 (bF rfl hh) fun _ => ?_
 refine Mg c7 (bE rfl hh hh (el rfl) h18) fun _ => ?_
 refine Mg c7 (dB rfl hh (sc rfl) rfl) fun _ => ?_
 refine Mg c7 (vR rfl hh hh) fun _ => ?_
 refine Mg c7 (bF rfl hh) fun _ => ?_
 refine Mz c8 fun _ => ?_
 refine Mz c8 fun _ => ?_
 refine Mz c8 fun _ => ?_
 refine Mz c8 fun _ => ?_
 refine Mz c8 fun _ => ?_
 refine Mz c8 fun _ => ?_
 refine Mz c8 fun _ => ?_
 refine Mz c8 fun _ => ?_
 refine Mz c8 fun _ => ?_
 refine Mz c8 fun _ => ?_
 refine Mz c8 fun _ => ?_
 refine Mz c8 fun _ => ?_
 refine Mz c8 fun _ => ?_
 refine Mz c8 fun _ => ?_
 refine Mg c7 (bU rfl hh c8 hh) fun _ => ?_
 refine My (bU rfl hh c7 hh) fun _ => ?_
 refine Z6 ?_
 exact Tm (()) (ij H)
 exact fk
 kernel_rfl
 clear H; intro i hi; subst o3; have H := Hr3; clear Hr3; try dsimp only at H
 try dsimp only
 revert H; refine B2 fun z1 h22 H => ?_
 refine Yy (eN rfl hh hh h22) ?_
 refine Z2 ?_
 exact Tm ((k2, z1)) ⟨H, ls⟩
 refine cK (has rfl) c6 ?_
 refine Z6 ?_
 exact Tm (()) (ij H)
 refine cJ (has rfl) (jC c5) ?_
 revert H; refine B7 fun r9 H e9 => ?_
 cases e9; cases Hr2
 revert H; refine B3 fun r10 H e10 => ?_
 cases e10; cases Hr1
 cases H
 refine aH [] (by decide) ?_
 exact eW rfl (bL rfl) (bL rfl) rfl
 exact fk
 kernel_rfl
 clear H; intro i hi; subst o2; have H := Hr2; clear Hr2; try dsimp only at H
 try dsimp only
 revert H; refine B2 fun z2 h23 H => ?_
 refine Yy (eN rfl hh hh h23) ?_
 refine Z2 ?_
 exact Tm ((k1, z2)) ⟨H, ls⟩
 refine cK (has rfl) c3 ?_
 refine Z5 ?_
 exact Tm (()) (ij H)
 clear H; intro i hi; subst o1; have H := Hr1; clear Hr1; try dsimp only at H
 try dsimp only
 refine Z5 ?_
 cases H
 refine aH [] (by decide) ?_
 exact eW rfl (bL rfl) (bL rfl) rfl
 refine cJ (has rfl) (jC c2) ?_
 refine Z5 ?_
 cases H
 refine aH [] (by decide) ?_
 exact eW rfl (bL rfl) (bL rfl) rfl
def yD (fuel : Nat) (a0 : ScopeProg) (a1 : List UsageDef) : Option (Bool) :=
 (vN fuel a1).bind fun y1 =>
 bif y1 then
  (tX fuel).bind fun y2 =>
  some y2
 else
  (qF fuel (⟨a0.Free, a0.Nodes, a0.Defs, a0.Main⟩ : ScopeProg) a1).bind fun y3 =>
  (vK fuel (⟨a0.Free, a0.Nodes, a0.Defs, a0.Main⟩ : ScopeProg) a1).bind fun y4 =>
  (bif y3.1 == y4.1 then
   if y3.2 = y4.2 then
    (tX fuel).bind fun y5 =>
    some y5
   else
    some false
  else
   some false).bind fun x1 =>
  some x1
theorem aGU (fuel : Nat)  (a0 : ScopeProg) (a1 : List UsageDef) (r : Bool) (H : yD fuel a0 a1 = some r) : FnS Tryz.prog 5 [fSt cY a0, fSl aX a1] [] (aL r) (fun _ => []) := by
 unfold yD at H
 refine bJ Tryz.func5 rfl Tryz.ntmps5 rfl (fun β => ?_)
 refine Z1 ?_
 refine Tn (cF rfl (has rfl) bO) fun b1 => ?_
 refine Z2 ?_
 refine aG ?_
 revert H; refine B2 fun y1 h1 H => ?_
 refine Tc (aHF _ _ _ h1) ?_
 refine Z1 ?_
 revert H; refine cs (fun c1 H => ?_) fun c1 H => ?_
 revert H; refine B2 fun y2 h2 H => ?_
 refine Tc (aB2 _ _ h2) ?_
 refine Z3 ?_
 cases H
 refine aH [] (by decide) ?_
 exact To
 revert H; refine B6 fun y3 h3 H => ?_
 refine Tc (zE _ _ _ _ h3) ?_
 revert H; refine B9 fun y4 h4 H => ?_
 refine Tc (aHC _ _ _ _ h4) ?_
 revert H; refine B6 fun o1 H Hr1 => ?_
 refine aR (ι := Bool) (fun i => o1 = i) (fun i => [(4, aL i)]) (fun i => [aC b1 26 [fSl aM a0.Free, fSl aK a0.Nodes, fSl aI a0.Defs, aA .i64 a0.Main]]) ?_ ?_
 refine Z3 ?_
 refine Yy (o_eqlB rfl hh hh aC3) ?_
 refine Z1 ?_
 revert H; refine cs (fun c2 H => ?_) fun c2 H => ?_
 revert H; refine I5 (fun c3 H => ?_) fun c3 H => ?_
 revert H; refine bs fun y5 h5 H => ?_
 refine Tc (aB2 _ _ h5) ?_
 refine Z3 ?_
 exact Tm (y5) (ij H)
 refine Z4 ?_
 exact Tm (false) (ij H)
 refine Z9 ?_
 exact Tm (false) (ij H)
 clear H; intro x1 hi; subst o1; have H := Hr1; clear Hr1; try dsimp only at H
 try dsimp only
 refine Z1 ?_
 cases H
 refine aH [] (by decide) ?_
 exact To
end Go.Proofs.YtmnbfgeljmhekaaGreat
set_option maxRecDepth 100000
namespace Go.Proofs.YtmnbfgeljmhekaaGreat
open Go.SX Go.SW Go.Dt
theorem bsm {α γ : Type} {a : α} {f : α → Option γ} : (some a).bind f = f a := by
 cases h : f a <;> simp [h]
theorem dZ {α : Type} {xs : List α} {i : Nat} {y : α} (h : xs[i]? = some y) : idx xs (i : Int) = some y := by
 unfold idx; rw [if_pos (by omega)]; simpa using h
theorem bX {α : Type} (pre suf : List α) (y : α) : idx (pre ++ y :: suf) (pre.length : Int) = some y := dZ (by simp)
theorem aV {i : Int} (h : -9000000000000000000 ≤ i ∧ i ≤ 9000000000000000000) : chk i = some i := by unfold chk; rw [if_pos (by omega)]
theorem cC {α : Type} (pre suf : List α) (y : α) : (pre.length : Int) < ((pre ++ y :: suf).length : Int) := by simp; omega
theorem cA {α : Type} (pre suf : List α) (y : α) : pre ++ y :: suf = (pre ++ [y]) ++ suf := by simp
theorem bT {α : Type} (pre : List α) (y : α) : (pre.length : Int) + 1 = ((pre ++ [y]).length : Int) := by simp
theorem yU (e : ScopeExp) : (⟨e.Op, e.N, e.Kids⟩ : ScopeExp) = e := by cases e; rfl
def flaw : Value := .iface 167 (.agg ([(.int .i64 2)] : List Value).toArray)
theorem eQ : bV true = some (.inl ()) := rfl
theorem dD : bV false = some (.inr flaw) := rfl
mutual
def nE : ScopeExp → Nat
 | ⟨_, _, ks⟩ => 1 + nL ks
def nL : List ScopeExp → Nat
 | [] => 0
 | k :: ks => nE k + nL ks
end
mutual
def dE : ScopeExp → Nat
 | ⟨_, _, ks⟩ => 1 + dL ks
def dL : List ScopeExp → Nat
 | [] => 0
 | k :: ks => max (dE k) (dL ks)
end
def loc (s op n : Int) (l : Nat) : Bool :=
 if op = 1 then decide (-1000000000 ≤ n ∧ n ≤ 1000000000 ∧ l = 0) else if op = 2 then decide (0 ≤ n ∧ n < s ∧ l = 0) else decide (3 ≤ op ∧ op ≤ 7 ∧ n = 0 ∧ l = 2)
mutual
def fE (s : Int) : ScopeExp → Bool
 | ⟨op, n, ks⟩ => loc s op n ks.length && fL s ks
def fL (s : Int) : List ScopeExp → Bool
 | [] => true
 | k :: ks => fE s k && fL s ks
end
theorem nE_pos (e : ScopeExp) : 1 ≤ nE e := by cases e; simp only [nE]; omega
theorem xK : ∀ l : List ScopeExp, l.length ≤ nL l
 | [] => by simp [nL]
 | k :: ks => by have := xK ks; have := nE_pos k; simp only [nL, List.length_cons]; omega
theorem qU : ∀ {l : List ScopeExp} {e : ScopeExp}, e ∈ l → nE e ≤ nL l
 | k :: ks, e, h => by
  simp only [nL]
  cases h with
  | head => omega
  | tail _ h => have := qU h; omega
def okE (s : Int) (e : ScopeExp) : Bool := fE s e && decide (dE e ≤ 12) && decide (nE e ≤ 60)
def exR (s d w : Int) (e : ScopeExp) : Int ⊕ Value := if fE s e = true ∧ d + dE e ≤ 13 ∧ w + nE e ≤ 60 then .inl (w + nE e) else .inr flaw
theorem aD1 {rec : ScopeExp → Int → Int → Int → Option (Int ⊕ Value)} {op n d s : Int} (hd : 0 ≤ d ∧ d ≤ 12) :
  ∀ (suf pre : List ScopeExp) (k : Nat) (w : Int), suf.length < k → pre.length + suf.length ≤ 1000000000 → 0 ≤ w → w ≤ 60 → (∀ e ∈ suf, ∀ w : Int, 0 ≤ w → w ≤ 60 → rec e (d + 1) w s = some (exR s (d + 1) w e)) →
   pF rec ⟨op, n, pre ++ suf⟩ d s k pre.length w = some (if fL s suf = true ∧ d + 1 + dL suf ≤ 13 ∧ w + nL suf ≤ 60 then .inl (w + nL suf) else .inr flaw)
 | [], pre, k + 1, w, _, _, h0, h1, _ => by
  rw [pF, if_neg (by simp), if_pos ⟨rfl, by simp [dL]; omega, by simpa [nL]⟩]; simp [nL]
 | e :: suf, pre, k + 1, w, hk, hB, h0, h1, hr => by
  rw [pF, if_pos (cC _ _ _), bX]
  have hr1 := hr e (.head _) w h0 h1
  simp only [List.length_cons] at hk hB
  simp only [bsm, aV (i := d + 1) (by omega)]
  rw [yU, hr1]
  simp only [bsm, exR]
  have hn := nE_pos e
  by_cases hc : fE s e = true ∧ d + 1 + dE e ≤ 13 ∧ w + nE e ≤ 60
  ·rw [if_pos hc]
   simp only [aV (i := (pre.length : Int) + 1) (by omega), bsm]
   rw [cA, bT, aD1 hd suf (pre ++ [e]) k _ (by omega) (by simp; omega) (by omega) hc.2.2 (fun x hx => hr x (.tail _ hx))]
   congr 1
   by_cases hs : fL s suf = true ∧ d + 1 + dL suf ≤ 13 ∧ w + nE e + nL suf ≤ 60
   ·rw [if_pos hs, if_pos ⟨by simp [fL, hc.1, hs.1], by simp only [dL]; omega, by simp only [nL]; omega⟩]
    simp only [nL, Int.natCast_add]; congr 1; omega
   ·rw [if_neg hs, if_neg]
    rintro ⟨g1, g2, g3⟩
    simp only [fL, Bool.and_eq_true] at g1
    simp only [dL] at g2; simp only [nL] at g3
    exact hs ⟨g1.2, by omega, by omega⟩
  ·rw [if_neg hc]
   dsimp only
   rw [if_neg]
   rintro ⟨g1, g2, g3⟩
   simp only [fL, Bool.and_eq_true] at g1
   simp only [dL] at g2; simp only [nL] at g3
   exact hc ⟨g1.1, by omega, by omega⟩
theorem aEh : ∀ (fuel : Nat) (e : ScopeExp) (d w s : Int), nE e < fuel → nE e ≤ 1000000000 → 0 ≤ d → d ≤ 1000 → 0 ≤ w → w ≤ 60 → lN fuel e d w s = some (exR s d w e)
 | fuel + 1, ⟨op, n, ks⟩, d, w, s, hf, hB, hd, hd2, hw, hw2 => by
  rw [lN]
  simp only [nE] at hf hB
  have hlen := xK ks
  simp only [aV (i := w + 1) (by omega), bsm]
  have hdE : dE ⟨op, n, ks⟩ = 1 + dL ks := by simp only [dE]
  have hnE : nE ⟨op, n, ks⟩ = 1 + nL ks := by simp only [nE]
  have hfE : fE s ⟨op, n, ks⟩ = (loc s op n ks.length && fL s ks) := by simp only [fE]
  by_cases h1 : w + 1 ≤ 60 ∧ d ≤ 12
  ·by_cases h2 : loc s op n ks.length = true
   ·have hloop := aD1 (rec := lN fuel) (op := op) (n := n) (s := s) ⟨hd, h1.2⟩ ks [] fuel (w + 1) (by omega) (by simp; omega) (by omega) h1.1
     (fun e he w h0 h60 => aEh fuel e (d + 1) w s (by have := qU he; omega) (by have := qU he; omega) (by omega) (by omega) h0 h60)
    simp only [List.nil_append, List.length_nil, Int.natCast_zero] at hloop
    have hres : (some (if fL s ks = true ∧ d + 1 + (dL ks : Int) ≤ 13 ∧ w + 1 + (nL ks : Int) ≤ 60 then Sum.inl (w + 1 + (nL ks : Int)) else Sum.inr flaw) : Option (Int ⊕ Value)) = some (exR s d w ⟨op, n, ks⟩) := by
     unfold exR; rw [hdE, hnE, hfE, h2]
     congr 1
     by_cases hc : fL s ks = true ∧ d + 1 + (dL ks : Int) ≤ 13 ∧ w + 1 + (nL ks : Int) ≤ 60
     ·rw [if_pos hc, if_pos ⟨by simp [hc.1], by omega, by omega⟩]; congr 1; omega
     ·rw [if_neg hc, if_neg]
      rintro ⟨g1, g2, g3⟩
      exact hc ⟨by simpa using g1, by omega, by omega⟩
    rw [← hres, ← hloop]
    unfold loc at h2
    rw [if_pos h1.1, decide_eq_true h1.2, eQ]
    simp only [bsm]
    by_cases o1 : op = 1
    ·rw [if_pos o1] at h2 ⊢
     obtain ⟨a, b, c⟩ := of_decide_eq_true h2
     rw [if_pos a, if_pos b, decide_eq_true (by omega), eQ]; rfl
    ·rw [if_neg o1] at h2 ⊢
     by_cases o2 : op = 2
     ·rw [if_pos o2] at h2 ⊢
      obtain ⟨a, b, c⟩ := of_decide_eq_true h2
      rw [if_pos a, if_pos b, decide_eq_true (by omega), eQ]; rfl
     ·rw [if_neg o2] at h2 ⊢
      obtain ⟨a, b, c, e⟩ := of_decide_eq_true h2
      have : ((if op = 3 then some (decide (op = 3)) else if op = 4 then some (decide (op = 4)) else if op = 5 then some (decide (op = 5)) else if op = 6 then some (decide (op = 6)) else some (decide (op = 7))) : Option Bool) = some true := by
       split; · simp_all
       split; · simp_all
       split; · simp_all
       split; · simp_all
       rw [decide_eq_true (by omega)]
      rw [this]
      simp only [bsm, cond_true]
      rw [if_pos c, decide_eq_true (by omega), eQ]; rfl
   ·have hr : exR s d w ⟨op, n, ks⟩ = .inr flaw := by
     unfold exR; rw [if_neg]; rintro ⟨g, _⟩; rw [hfE] at g; simp [h2] at g
    rw [hr, if_pos h1.1, decide_eq_true h1.2, eQ]
    simp only [bsm]
    unfold loc at h2
    by_cases o1 : op = 1
    ·rw [if_pos o1] at h2 ⊢
     simp only [decide_eq_true_eq] at h2
     by_cases a : -1000000000 ≤ n
     ·rw [if_pos a]
      by_cases b : n ≤ 1000000000
      ·rw [if_pos b, decide_eq_false (by omega), dD]; rfl
      ·rw [if_neg b, dD]; rfl
     ·rw [if_neg a, dD]; rfl
    ·rw [if_neg o1] at h2 ⊢
     by_cases o2 : op = 2
     ·rw [if_pos o2] at h2 ⊢
      simp only [decide_eq_true_eq] at h2
      by_cases a : 0 ≤ n
      ·rw [if_pos a]
       by_cases b : n < s
       ·rw [if_pos b, decide_eq_false (by omega), dD]; rfl
       ·rw [if_neg b, dD]; rfl
      ·rw [if_neg a, dD]; rfl
     ·rw [if_neg o2] at h2 ⊢
      simp only [decide_eq_true_eq] at h2
      have : ((if op = 3 then some (decide (op = 3)) else if op = 4 then some (decide (op = 4)) else if op = 5 then some (decide (op = 5)) else if op = 6 then some (decide (op = 6)) else some (decide (op = 7))) : Option Bool) = some (decide (3 ≤ op ∧ op ≤ 7)) := by
       split; · simp_all
       split; · simp_all
       split; · simp_all
       split; · simp_all
       congr 1; rw [decide_eq_decide]; omega
      rw [this]
      simp only [bsm]
      by_cases o3 : 3 ≤ op ∧ op ≤ 7
      ·rw [decide_eq_true o3]
       simp only [cond_true]
       by_cases a : n = 0
       ·rw [if_pos a, decide_eq_false (by omega), dD]; rfl
       ·rw [if_neg a, dD]; rfl
      ·rw [decide_eq_false o3, dD]; rfl
  ·have hr : exR s d w ⟨op, n, ks⟩ = .inr flaw := by
    unfold exR; rw [if_neg]; rintro ⟨_, g2, g3⟩; rw [hdE] at g2; rw [hnE] at g3; omega
   rw [hr]
   by_cases h2 : w + 1 ≤ 60
   ·rw [if_pos h2, decide_eq_false (by omega), dD]; rfl
   ·rw [if_neg h2, dD]; rfl
theorem exp_eq {fuel : Nat} {e : ScopeExp} {s : Int} (hf : nE e < fuel) (hB : nE e ≤ 1000000000) : wK fuel e s = some (if okE s e = true then .inl () else .inr flaw) := by
 rw [wK, yU, aEh fuel e 1 0 s hf hB (by omega) (by omega) (by omega) (by omega)]
 simp only [bsm, exR]
 by_cases h : fE s e = true ∧ (1 : Int) + dE e ≤ 13 ∧ (0 : Int) + nE e ≤ 60
 ·have h' : okE s e = true := by
   simp only [okE, Bool.and_eq_true, decide_eq_true_eq]; exact ⟨⟨h.1, by omega⟩, by omega⟩
  rw [if_pos h, if_pos h']
 ·have h' : ¬ okE s e = true := by
   simp only [okE, Bool.and_eq_true, decide_eq_true_eq]; intro g; exact h ⟨g.1.1, by omega, by omega⟩
  rw [if_neg h, if_neg h']
theorem aFF {rec : ScopeExp → Int → Option Int} {op n most : Int} (hm : -1000000000 ≤ most ∧ most ≤ 1000000000) (suf : List ScopeExp) :
  ∀ (pre : List ScopeExp) (k : Nat) (w : Int), suf.length < k → pre.length + suf.length ≤ 1000000000 → 0 ≤ w → w + nL suf ≤ 1000000000 → (∀ e ∈ suf, ∀ m : Int, -1000000000 ≤ m → m ≤ 1000000000 → ∃ v, rec e m = some v ∧ 0 ≤ v ∧ v ≤ nE e ∧ ((nE e : Int) ≤ m → v = nE e) ∧ (m < nE e → m < v)) →
   ∃ v, oL rec ⟨op, n, pre ++ suf⟩ most k w pre.length = some v ∧ 0 ≤ v ∧ v ≤ w + nL suf ∧ (w + (nL suf : Int) ≤ most → v = w + nL suf) ∧ (most < w + nL suf → most < v) := by
 induction suf with
 | nil =>
  intro pre k w hk _ h0 _ _
  obtain _ | k := k
  ·omega
  refine ⟨w, ?_, h0, by simp only [nL]; omega, fun _ => by simp only [nL]; omega, fun h => by simp only [nL] at h; omega⟩
  rw [oL, if_neg (by simp)]
 | cons e suf ih =>
  intro pre k w hk hB h0 hW hr
  obtain _ | k := k
  ·omega
  simp only [List.length_cons] at hk hB
  simp only [nL] at hW ⊢
  rw [oL, if_pos (cC _ _ _)]
  by_cases hw : w ≤ most
  ·rw [if_pos hw]
   simp only [bX, bsm, aV (i := most - w) (by omega)]
   obtain ⟨v, h1, h2, h3, h4, h5⟩ := hr e (.head _) (most - w) (by omega) (by omega)
   simp only [h1, bsm, aV (i := w + v) (by omega), aV (i := (pre.length : Int) + 1) (by omega)]
   rw [cA, bT]
   obtain ⟨u, g1, g2, g3, g4, g5⟩ := ih (pre ++ [e]) k (w + v) (by omega) (by simp; omega) (by omega) (by omega) (fun x hx => hr x (.tail _ hx))
   refine ⟨u, g1, g2, by omega, fun h => ?_, fun h => ?_⟩
   ·have := h4 (by omega); have := g4 (by omega); omega
   ·by_cases hv : (nE e : Int) ≤ most - w
    ·have := h4 hv; exact g5 (by omega)
    ·have := h5 (by omega); exact g5 (by omega)
  ·rw [if_neg hw]
   exact ⟨w, rfl, h0, by omega, fun h => by omega, fun _ => by omega⟩
theorem nodes_eq (fuel : Nat) : ∀ (e : ScopeExp) (m : Int), nE e < fuel → nE e ≤ 1000000000 → -1000000000 ≤ m → m ≤ 1000000000 → ∃ v, mV fuel e m = some v ∧ 0 ≤ v ∧ v ≤ nE e ∧ ((nE e : Int) ≤ m → v = nE e) ∧ (m < nE e → m < v) := by
 induction fuel with
 | zero => intro e m h; omega
 | succ fuel ih =>
  intro ⟨op, n, ks⟩ m hf hB h0 h1
  simp only [nE] at hf hB ⊢
  have hlen := xK ks
  obtain ⟨v, g1, g2, g3, g4, g5⟩ := aFF (rec := mV fuel) (op := op) (n := n) ⟨h0, h1⟩ ks [] fuel 1 (by omega) (by simp; omega) (by omega) (by omega)
   (fun e he m h0 h1 => ih e m (by have := qU he; omega) (by have := qU he; omega) h0 h1)
  simp only [List.nil_append, List.length_nil, Int.natCast_zero] at g1
  exact ⟨v, by rw [mV, g1]; rfl, g2, by omega, fun h => by have := g4 (by omega); omega, fun h => g5 (by omega)⟩
theorem aGR {rec : ScopeExp → Option Int} {op n : Int} (suf : List ScopeExp) :
  ∀ (pre : List ScopeExp) (k : Nat) (w : Int), suf.length < k → pre.length + suf.length ≤ 1000000000 → 0 ≤ w → (∀ e ∈ suf, rec e = some (dE e : Int)) →
   pD rec ⟨op, n, pre ++ suf⟩ k w pre.length = some (max w (dL suf : Int)) := by
 induction suf with
 | nil =>
  intro pre k w hk _ h0 _
  obtain _ | k := k
  ·omega
  rw [pD, if_neg (by simp)]; simp only [dL]; congr 1; omega
 | cons e suf ih =>
  intro pre k w hk hB h0 hr
  obtain _ | k := k
  ·omega
  simp only [List.length_cons] at hk hB
  rw [pD, if_pos (cC _ _ _)]
  simp only [bX, bsm, hr e (.head _), aV (i := (pre.length : Int) + 1) (by omega)]
  rw [cA, bT, ih (pre ++ [e]) k _ (by omega) (by simp; omega) (by omega) (fun x hx => hr x (.tail _ hx))]
  simp only [dL]; congr 1; omega
theorem dE_le : (∀ e, dE e ≤ nE e) ∧ ∀ l, dL l ≤ nL l := by
 refine ⟨fun e => ?_, fun l => ?_⟩
 ·exact go e
 ·exact goL l
where
 go : ∀ e, dE e ≤ nE e
  | ⟨_, _, ks⟩ => by have := goL ks; simp only [dE, nE]; omega
 goL : ∀ l, dL l ≤ nL l
  | [] => by simp [dL]
  | k :: ks => by have := go k; have := goL ks; simp only [dL, nL]; omega
theorem depth_eq (fuel : Nat) : ∀ (e : ScopeExp), nE e < fuel → nE e ≤ 1000000000 → mI fuel e = some (dE e : Int) := by
 induction fuel with
 | zero => intro e h; omega
 | succ fuel ih =>
  intro ⟨op, n, ks⟩ hf hB
  simp only [nE] at hf hB
  have hlen := xK ks
  have h := aGR (rec := mI fuel) (op := op) (n := n) ks [] fuel 0 (by omega) (by simp; omega) (by omega) (fun e he => ih e (by have := qU he; omega) (by have := qU he; omega))
  simp only [List.nil_append, List.length_nil, Int.natCast_zero] at h
  have hd := dE_le.2 ks
  rw [mI, h, show max (0 : Int) (dL ks : Int) = dL ks from by omega]
  simp only [bsm, aV (i := (dL ks : Int) + 1) (by omega), dE]
  congr 1; omega
theorem aGa (fuel : Nat) : ∀ (e : ScopeExp) (s : Int), nE e < fuel → pI fuel e s = some (fE s e) := by
 induction fuel with
 | zero => intro e s h; omega
 | succ fuel ih =>
  intro ⟨op, n, ks⟩ s hf
  simp only [nE] at hf
  rw [pI]
  simp only [fE, loc]
  by_cases o1 : op = 1
  ·rw [if_pos o1, if_pos o1]
   by_cases c : (ks.length : Int) = 0
   ·have hk : ks = [] := List.eq_nil_of_length_eq_zero (by omega)
    subst hk
    rw [if_pos c]
    by_cases a : -1000000000 ≤ n
    ·rw [if_pos a]; simp [a, fL]
    ·rw [if_neg a]; simp [a, fL]
   ·rw [if_neg c]; have : ¬ ks.length = 0 := by omega
    simp [this]
  ·rw [if_neg o1, if_neg o1]
   by_cases o2 : op = 2
   ·rw [if_pos o2, if_pos o2]
    by_cases c : (ks.length : Int) = 0
    ·have hk : ks = [] := List.eq_nil_of_length_eq_zero (by omega)
     subst hk
     rw [if_pos c]
     by_cases a : 0 ≤ n
     ·rw [if_pos a]; simp [a, fL]
     ·rw [if_neg a]; simp [a, fL]
    ·rw [if_neg c]; have : ¬ ks.length = 0 := by omega
     simp [this]
   ·rw [if_neg o2, if_neg o2]
    by_cases a : op < 3
    ·rw [if_pos a]; simp; intro _; omega
    ·rw [if_neg a]
     by_cases b : 7 < op
     ·rw [if_pos b]; simp; intro _; omega
     ·rw [if_neg b]
      by_cases c : (ks.length : Int) ≠ 2
      ·rw [if_pos c]; simp; intro _ _ _; omega
      ·rw [if_neg c]
       by_cases e : n ≠ 0
       ·rw [if_pos e]; simp [e]
       ·rw [if_neg e]
        match ks, c, hf with
        | [x, y], _, hf =>
         simp only [nL] at hf
         have h1 := ih x s (by omega)
         have h2 := ih y s (by omega)
         have i0 : idx [x, y] 0 = some x := rfl
         have i1 : idx [x, y] 1 = some y := rfl
         have : decide (3 ≤ op ∧ op ≤ 7 ∧ n = 0 ∧ [x, y].length = 2) = true := decide_eq_true ⟨by omega, by omega, by omega, rfl⟩
         rw [this]
         simp only [i0, i1, h1, h2, bsm, fL, Bool.true_and, Bool.and_true]
         cases fE s x <;> simp
        | [], c, _ => simp at c
        | [_], c, _ => simp at c
        | _ :: _ :: _ :: _, c, _ => simp at c; omega
theorem aGX {fuel : Nat} {e : ScopeExp} {s : Int} (hf : nE e < fuel) (hB : nE e ≤ 1000000000) : wI fuel e s = some (okE s e) := by
 obtain ⟨v, h1, h2, h3, h4, h5⟩ := nodes_eq fuel e 60 hf hB (by omega) (by omega)
 rw [wI, yU, h1, depth_eq fuel e hf hB, aGa fuel e s hf]
 simp only [bsm, okE]
 by_cases hn : (nE e : Int) ≤ 60
 ·rw [h4 hn, if_pos hn]
  by_cases hd : (dE e : Int) ≤ 12
  ·rw [if_pos hd]; have h1 : dE e ≤ 12 := by omega
   have h2 : nE e ≤ 60 := by omega
   simp [h1, h2]
  ·rw [if_neg hd]; have : ¬ dE e ≤ 12 := by omega
   simp [this]
 ·have := h5 (by omega)
  rw [if_neg (by omega)]; have : ¬ nE e ≤ 60 := by omega
  simp [this]
end Go.Proofs.YtmnbfgeljmhekaaGreat
set_option maxRecDepth 100000
namespace Go.Proofs.YtmnbfgeljmhekaaGreat
open Go.SX Go.SW Go.Dt
def fY (n : Nat) (c : ScopeChan) : Bool := decide (0 ≤ c.At ∧ c.At ≤ (n : Int) ∧ 0 ≤ c.Many ∧ c.Many ≤ 3)
def kY : Nat → List ScopeSpot → Bool
 | _, [] => true
 | i, s :: l => decide (0 ≤ s.In ∧ s.In ≤ (i : Int)) && kY (i + 1) l
def lR (chans : List ScopeChan) (at_ : Int) : List Int → List Int → List Bool → Option (List Bool)
 | _, [], u => some u
 | pre, c :: js, u => match idx chans c with
  | some ch => if ch.At = at_ ∧ c ∉ pre then lR chans at_ (pre ++ [c]) js (u.set c.toNat true) else none
  | none => none
def okR (n : Nat) (r : ScopeRule) : Prop := 0 ≤ r.At ∧ r.At ≤ (n : Int) ∧ 1 ≤ r.Joins.length ∧ r.Joins.length ≤ 3
instance {n : Nat} {r : ScopeRule} : Decidable (okR n r) := by unfold okR; infer_instance
def iQ (chans : List ScopeChan) (n : Nat) : List ScopeRule → List Bool → Option (List Bool)
 | [], u => some u
 | r :: rs, u => if okR n r then (lR chans r.At [] r.Joins u).bind (iQ chans n rs) else none
def okU (o : Option (List Bool)) : Bool := match o with
 | some u => u.all id
 | none => false
def okD (d : ScopeDef) : Bool := decide (d.Chans.length ≤ 30 ∧ d.Spots.length ≤ 30 ∧ d.Rules.length ≤ 30) && d.Chans.all (fY d.Spots.length) && kY 0 d.Spots && okU (iQ d.Chans d.Spots.length d.Rules (List.replicate d.Chans.length false))
def smD (d : ScopeDef) : Prop := d.Chans.length ≤ 2000000 ∧ d.Spots.length ≤ 2000000 ∧ d.Rules.length ≤ 2000000 ∧ ∀ r ∈ d.Rules, r.Joins.length ≤ 2000000
theorem dU {α : Type} {xs : List α} {i : Int} (h0 : 0 ≤ i) (h1 : i < xs.length) : ∃ y, idx xs i = some y := by
 unfold idx; rw [if_pos h0]; exact ⟨xs[i.toNat]'(by omega), by simp⟩
theorem sU {α : Type} {xs : List α} {i : Int} (h : ¬ (0 ≤ i ∧ i < xs.length)) : idx xs i = none := by
 unfold idx; split
 ·simp; omega
 ·rfl
theorem aGd {c : Int} (suf : List Int) : ∀ (pre : List Int) (k : Nat), suf.length < k → pre.length + suf.length ≤ 3000000 → c ∉ pre →
  ∃ r, nU (pre ++ suf) c k pre.length = some r ∧ ((c ∈ suf ∧ ∃ i : Int, r = .inr i ∧ 0 ≤ i) ∨ (c ∉ suf ∧ r = .inl ())) := by
 induction suf with
 | nil =>
  intro pre k hk _ _
  obtain _ | k := k
  ·omega
  exact ⟨_, by rw [nU, if_neg (by simp)], .inr ⟨by simp, rfl⟩⟩
 | cons e suf ih =>
  intro pre k hk hB hn
  obtain _ | k := k
  ·omega
  simp only [List.length_cons] at hk hB
  by_cases he : c = e
  ·exact ⟨_, by rw [nU, if_pos (cC _ _ _), bX, bsm, if_pos he]; rfl, .inl ⟨by simp [he], _, rfl, by omega⟩⟩
  ·obtain ⟨r, h1, h2⟩ := ih (pre ++ [e]) k (by omega) (by simp; omega) (by simp [hn, he])
   refine ⟨r, ?_, ?_⟩
   ·rw [nU, if_pos (cC _ _ _), bX, bsm, if_neg he, aV (by omega), bsm, cA pre suf e, bT pre e]; exact h1
   ·rcases h2 with ⟨h2, h3⟩ | ⟨h2, h3⟩
    ·exact .inl ⟨by simp [h2], h3⟩
    ·exact .inr ⟨by simp [h2, he], h3⟩
theorem aF7 {fuel : Nat} {l : List Int} {c : Int} (hf : l.length < fuel) (hB : l.length ≤ 3000000) : wO fuel l c = some (decide (c ∈ l)) := by
 obtain ⟨r, h1, h2⟩ := aGd (c := c) l [] fuel hf (by simpa using hB) (by simp)
 simp only [List.nil_append, List.length_nil, Int.natCast_zero] at h1
 rw [wO, zQ, h1]
 rcases h2 with ⟨h2, i, rfl, h3⟩ | ⟨h2, rfl⟩
 ·simp [h2, h3]
 ·simp [h2]
theorem aCf {a : Int} {d : ScopeDef} : sL a d = some (if 0 ≤ a ∧ a ≤ (d.Spots.length : Int) then .inl () else .inr flaw) := by
 rw [sL]
 by_cases h : 0 ≤ a
 ·rw [if_pos h]
  by_cases h2 : a ≤ (d.Spots.length : Int)
  ·rw [decide_eq_true h2, eQ, if_pos ⟨h, h2⟩]; rfl
  ·rw [decide_eq_false h2, dD, if_neg (fun g => h2 g.2)]; rfl
 ·rw [if_neg h, dD, if_neg (fun g => h g.1)]; rfl
theorem dl1 {sp : List ScopeSpot} {ru : List ScopeRule} (suf : List ScopeChan) : ∀ (pre : List ScopeChan) (k : Nat), suf.length < k → pre.length + suf.length ≤ 3000000 →
  oC ⟨pre ++ suf, sp, ru⟩ k pre.length = some (if suf.all (fY sp.length) = true then .inl () else .inr (.inr flaw)) := by
 induction suf with
 | nil =>
  intro pre k hk _
  obtain _ | k := k
  ·omega
  rw [oC, if_neg (by simp), if_pos (by rfl)]
 | cons e suf ih =>
  intro pre k hk hB
  obtain _ | k := k
  ·omega
  simp only [List.length_cons] at hk hB
  rw [oC, if_pos (cC _ _ _)]
  dsimp only
  rw [bX, bsm, aCf, bsm]
  simp only [List.all_cons, Bool.and_eq_true]
  by_cases h1 : 0 ≤ e.At ∧ e.At ≤ (sp.length : Int)
  ·rw [if_pos h1]
   dsimp only
   by_cases h2 : 0 ≤ e.Many
   ·rw [if_pos h2]
    by_cases h3 : e.Many ≤ 3
    ·rw [decide_eq_true h3, eQ, bsm, bsm]
     dsimp only
     rw [aV (by omega), bsm, cA pre suf e, bT pre e, ih (pre ++ [e]) k (by omega) (by simp; omega)]
     have : fY sp.length e = true := decide_eq_true ⟨h1.1, h1.2, h2, h3⟩
     simp [this]
    ·have hn : ¬ (fY sp.length e = true ∧ suf.all (fY sp.length) = true) := by
      rintro ⟨g, _⟩; exact h3 (of_decide_eq_true g).2.2.2
     rw [decide_eq_false h3, dD, if_neg hn]; rfl
   ·have hn : ¬ (fY sp.length e = true ∧ suf.all (fY sp.length) = true) := by
     rintro ⟨g, _⟩; exact h2 (of_decide_eq_true g).2.2.1
    rw [if_neg h2, dD, if_neg hn]; rfl
  ·have hn : ¬ (fY sp.length e = true ∧ suf.all (fY sp.length) = true) := by
    rintro ⟨g, _⟩; exact h1 ⟨(of_decide_eq_true g).1, (of_decide_eq_true g).2.1⟩
   rw [if_neg h1, if_neg hn]; rfl
theorem dl2 {ch : List ScopeChan} {ru : List ScopeRule} (suf : List ScopeSpot) : ∀ (pre : List ScopeSpot) (k : Nat), suf.length < k → pre.length + suf.length ≤ 3000000 →
  oY ⟨ch, pre ++ suf, ru⟩ k pre.length = some (if kY pre.length suf = true then .inl () else .inr (.inr flaw)) := by
 induction suf with
 | nil =>
  intro pre k hk _
  obtain _ | k := k
  ·omega
  rw [oY, if_neg (by simp), if_pos (by rfl)]
 | cons e suf ih =>
  intro pre k hk hB
  obtain _ | k := k
  ·omega
  simp only [List.length_cons] at hk hB
  rw [oY, if_pos (cC _ _ _)]
  dsimp only
  rw [bX, bsm]
  simp only [kY, Bool.and_eq_true, decide_eq_true_eq]
  by_cases h2 : 0 ≤ e.In
  ·rw [if_pos h2]
   by_cases h3 : e.In ≤ (pre.length : Int)
   ·rw [decide_eq_true h3, eQ, bsm, bsm]
    dsimp only
    rw [aV (by omega), bsm, cA pre suf e, bT pre e, ih (pre ++ [e]) k (by omega) (by simp; omega)]
    simp [h2, h3]
   ·rw [decide_eq_false h3, dD, if_neg (fun g => h3 g.1.2)]; rfl
  ·rw [if_neg h2, dD, if_neg (fun g => h2 g.1.1)]; rfl
def Like (g : aT Int Bool) (u : List Bool) : Prop := (∀ i : Nat, g.get i = if u[i]? = some true then some true else none) ∧ g.size = u.countP id
theorem like_upd {g : aT Int Bool} {u : List Bool} {c : Int} (h : Like g u) (h0 : 0 ≤ c) (h1 : c < u.length) : Like (aT.upd g c true) (u.set c.toNat true) := by
 obtain ⟨n, rfl⟩ : ∃ n : Nat, c = n := ⟨c.toNat, by omega⟩
 have hn : n < u.length := by omega
 simp only [Int.toNat_natCast]
 refine ⟨fun i => ?_, ?_⟩
 ·simp only [aT.upd]
  by_cases hi : (i : Int) = n
  ·have : i = n := by omega
   subst this
   rw [if_pos rfl]; simp [hn]
  ·rw [if_neg hi, h.1 i]
   have : n ≠ i := by omega
   simp [this]
 ·simp only [aT.upd]
  rw [h.1 n, List.countP_set (h := hn), h.2]
  have hge : u[n]? = some u[n] := by simp [hn]
  rw [hge]
  cases hu : u[n] with
  | false => simp
  | true =>
   have hpos : 0 < u.countP id := List.countP_pos_iff.2 ⟨u[n], List.getElem_mem hn, by simpa using hu⟩
   simp; omega
theorem dl4 {ch : List ScopeChan} {sp : List ScopeSpot} {ru : List ScopeRule} {a nd : Int} (suf : List Int) {fuel : Nat} : ∀ (pre : List Int) (k : Nat) (g : aT Int Bool) (u : List Bool), suf.length < k → pre.length + suf.length < fuel → pre.length + suf.length ≤ 3000000 → u.length = ch.length → Like g u →
  (∃ u' g', lR ch a pre suf u = some u' ∧ u'.length = ch.length ∧ Like g' u' ∧ jG fuel ⟨ch, sp, ru⟩ ⟨a, pre ++ suf, nd⟩ k pre.length g = some (.inl g')) ∨
  (lR ch a pre suf u = none ∧ jG fuel ⟨ch, sp, ru⟩ ⟨a, pre ++ suf, nd⟩ k pre.length g = some (.inr (.inr (.inr flaw)))) := by
 induction suf with
 | nil =>
  intro pre k g u hk _ _ hl hg
  obtain _ | k := k
  ·omega
  exact .inl ⟨u, g, rfl, hl, hg, by rw [jG, if_neg (by simp)]⟩
 | cons e suf ih =>
  intro pre k g u hk hf hB hl hg
  obtain _ | k := k
  ·omega
  simp only [List.length_cons] at hk hB hf
  rw [jG, if_pos (cC _ _ _)]
  dsimp only
  rw [bX, bsm]
  simp only [lR]
  by_cases h1 : 0 ≤ e ∧ e < (ch.length : Int)
  ·obtain ⟨y, hy⟩ := dU h1.1 h1.2
   rw [if_pos h1.1, if_pos h1.2, hy, bsm]
   dsimp only
   by_cases h2 : y.At = a
   ·rw [if_pos h2]
    have hs : slc (pre ++ e :: suf) 0 pre.length = some pre := by
     unfold slc; rw [if_pos ⟨by omega, by omega, by simp; omega⟩]; simp
    rw [hs, bsm, aF7 (by omega) (by omega), bsm]
    by_cases h3 : e ∈ pre
    ·rw [decide_eq_true h3, if_neg (fun q => q.2 h3)]
     exact .inr ⟨rfl, by rw [show (!true) = false from rfl, dD]; rfl⟩
    ·rw [decide_eq_false h3, if_pos ⟨h2, h3⟩, show (!false) = true from rfl, eQ, bsm, bsm]
     dsimp only
     rw [aV (by omega), bsm, cA pre suf e, bT pre e]
     exact ih (pre ++ [e]) k _ _ (by omega) (by simp; omega) (by simp; omega) (by simpa using hl) (like_upd hg h1.1 (by omega))
   ·rw [if_neg h2, dD, if_neg (fun q => h2 q.1)]
    exact .inr ⟨rfl, rfl⟩
  ·rw [sU h1]
   refine .inr ⟨rfl, ?_⟩
   by_cases h0 : 0 ≤ e
   ·rw [if_pos h0, if_neg (fun q => h1 ⟨h0, q⟩), dD]; rfl
   ·rw [if_neg h0, dD]; rfl
theorem dl3 {ch : List ScopeChan} {sp : List ScopeSpot} {fuel : Nat} (suf : List ScopeRule) : ∀ (pre : List ScopeRule) (k : Nat) (g : aT Int Bool) (u : List Bool), suf.length < k → pre.length + suf.length ≤ 3000000 → 2000000 < fuel → (∀ r ∈ suf, r.Joins.length ≤ 2000000) → u.length = ch.length → Like g u →
  (∃ u' g', iQ ch sp.length suf u = some u' ∧ u'.length = ch.length ∧ Like g' u' ∧ nA fuel ⟨ch, sp, pre ++ suf⟩ k pre.length g = some (.inl g')) ∨
  (iQ ch sp.length suf u = none ∧ nA fuel ⟨ch, sp, pre ++ suf⟩ k pre.length g = some (.inr (.inr flaw))) := by
 induction suf with
 | nil =>
  intro pre k g u hk _ _ _ hl hg
  obtain _ | k := k
  ·omega
  exact .inl ⟨u, g, rfl, hl, hg, by rw [nA, if_neg (by simp)]⟩
 | cons e suf ih =>
  intro pre k g u hk hB hf hJ hl hg
  obtain _ | k := k
  ·omega
  simp only [List.length_cons] at hk hB
  have hj := hJ e (.head _)
  rw [nA, if_pos (cC _ _ _)]
  dsimp only
  rw [bX, bsm, aCf, bsm]
  simp only [iQ]
  by_cases h1 : 0 ≤ e.At ∧ e.At ≤ (sp.length : Int)
  ·rw [if_pos h1]
   dsimp only
   by_cases h2 : 0 < (e.Joins.length : Int)
   ·rw [if_pos h2]
    by_cases h3 : (e.Joins.length : Int) ≤ 3
    ·rw [decide_eq_true h3, eQ, bsm, if_pos (show okR sp.length e from ⟨h1.1, h1.2, by omega, by omega⟩)]
     have h4 := dl4 (ch := ch) (sp := sp) (ru := pre ++ e :: suf) (a := e.At) (nd := e.Node) e.Joins (fuel := fuel) [] fuel g u (by omega) (by simp; omega) (by simp; omega) hl hg
     simp only [List.nil_append, List.length_nil, Int.natCast_zero] at h4
     rcases h4 with ⟨u', g', a1, a2, a3, a4⟩ | ⟨a1, a4⟩
     ·rw [a1, bsm]
      have : ((jG fuel ⟨ch, sp, pre ++ e :: suf⟩ e fuel 0 g) = some (.inl g')) := a4
      dsimp only
      rw [bsm]; dsimp only
      rw [this, bsm]; dsimp only
      rw [aV (by omega), bsm, cA pre suf e, bT pre e]
      exact ih (pre ++ [e]) k g' u' (by omega) (by simp; omega) hf (fun r hr => hJ r (.tail _ hr)) a2 a3
     ·rw [a1]
      have : ((jG fuel ⟨ch, sp, pre ++ e :: suf⟩ e fuel 0 g) = some (.inr (.inr (.inr flaw)))) := a4
      refine .inr ⟨rfl, ?_⟩
      dsimp only
      rw [bsm]; dsimp only
      rw [this]; rfl
    ·rw [decide_eq_false h3, dD, if_neg (show ¬ okR sp.length e from fun q => h3 (by have := q.2.2.2; omega))]
     exact .inr ⟨rfl, rfl⟩
   ·rw [if_neg h2, dD, if_neg (show ¬ okR sp.length e from fun q => h2 (by have := q.2.2.1; omega))]
    exact .inr ⟨rfl, rfl⟩
  ·rw [if_neg h1, if_neg (show ¬ okR sp.length e from fun q => h1 ⟨q.1, q.2.1⟩)]
   exact .inr ⟨rfl, rfl⟩
theorem def_eq {fuel : Nat} {d : ScopeDef} (hf : 3000000 ≤ fuel) (hs : smD d) : tL fuel d = some (if okD d = true then .inl () else .inr flaw) := by
 obtain ⟨ch, sp, ru⟩ := d
 obtain ⟨s1, s2, s3, s4⟩ := hs
 dsimp only at s1 s2 s3 s4
 rw [tL]
 dsimp only
 have e1 := dl1 (sp := sp) (ru := ru) ch [] fuel (by omega) (by simp; omega)
 have e2 := dl2 (ch := ch) (ru := ru) sp [] fuel (by omega) (by simp; omega)
 have e3 := dl3 (ch := ch) (sp := sp) (fuel := fuel) ru [] fuel aT.none (List.replicate ch.length false) (by omega) (by simp; omega) (by omega) s4 (by simp) ⟨fun i => by simp [aT.none, List.getElem?_replicate], by simp [aT.none, List.countP_replicate]⟩
 simp only [List.nil_append, List.length_nil, Int.natCast_zero] at e1 e2 e3
 by_cases l1 : ch.length ≤ 30
 ·rw [if_pos (by omega)]
  by_cases l2 : sp.length ≤ 30
  ·rw [if_pos (by omega)]
   by_cases l3 : ru.length ≤ 30
   ·rw [decide_eq_true (by omega), eQ, bsm, bsm]
    dsimp only
    rw [e1, bsm]
    have hok : okD ⟨ch, sp, ru⟩ = (ch.all (fY sp.length) && kY 0 sp && okU (iQ ch sp.length ru (List.replicate ch.length false))) := by
     simp only [okD]; rw [decide_eq_true ⟨l1, l2, l3⟩]; simp
    rw [hok]
    cases h1 : ch.all (fY sp.length) with
    | false => simp
    | true =>
     simp only [if_true, Bool.true_and]
     rw [e2, bsm]
     cases h2 : kY 0 sp with
     | false => simp
     | true =>
      simp only [if_true, Bool.true_and]
      rcases e3 with ⟨u, g, a1, a2, a3, a4⟩ | ⟨a1, a4⟩
      ·rw [a4, bsm]
       dsimp only
       rw [a1]
       have hc : ((g.size : Int) = (ch.length : Int)) ↔ okU (some u) = true := by
        show _ ↔ u.all id = true
        rw [a3.2, ← a2, List.all_eq_true]
        constructor
        ·intro h; exact List.countP_eq_length.1 (by omega)
        ·intro h; have := List.countP_eq_length.2 h; omega
       by_cases hh : (g.size : Int) = (ch.length : Int)
       ·rw [decide_eq_true hh, eQ, if_pos (hc.1 hh)]; rfl
       ·rw [decide_eq_false hh, dD, if_neg (fun q => hh (hc.2 q))]; rfl
      ·rw [a4, bsm, a1]; simp [okU]
   ·rw [decide_eq_false (by omega), dD, if_neg]; rfl
    intro g; simp only [okD, Bool.and_eq_true, decide_eq_true_eq] at g; exact l3 g.1.1.1.2.2
  ·rw [if_neg (by omega), dD, if_neg]; rfl
   intro g; simp only [okD, Bool.and_eq_true, decide_eq_true_eq] at g; exact l2 g.1.1.1.2.1
 ·rw [if_neg (by omega), dD, if_neg]; rfl
  intro g; simp only [okD, Bool.and_eq_true, decide_eq_true_eq] at g; exact l1 g.1.1.1.1
theorem rl1 {sp : List ScopeSpot} {ru : List ScopeRule} (suf : List ScopeChan) : ∀ (pre : List ScopeChan) (k : Nat), suf.length < k → pre.length + suf.length ≤ 3000000 →
  oN ⟨pre ++ suf, sp, ru⟩ k pre.length = some (if suf.all (fY sp.length) = true then .inl () else .inr false) := by
 induction suf with
 | nil =>
  intro pre k hk _
  obtain _ | k := k
  ·omega
  rw [oN, if_neg (by simp), if_pos (by rfl)]
 | cons e suf ih =>
  intro pre k hk hB
  obtain _ | k := k
  ·omega
  simp only [List.length_cons] at hk hB
  have hall : (e :: suf).all (fY sp.length) = (fY sp.length e && suf.all (fY sp.length)) := rfl
  rw [oN, if_pos (cC _ _ _), hall]
  dsimp only
  rw [bX, bsm]
  by_cases hc : fY sp.length e = true
  ·obtain ⟨c1, c2, c3, c4⟩ := of_decide_eq_true hc
   rw [if_neg (by omega), bsm, if_neg (by omega), bsm, if_neg (by omega), bsm, if_neg (by omega), aV (by omega), bsm, cA pre suf e, bT pre e, ih (pre ++ [e]) k (by omega) (by simp; omega), hc, Bool.true_and]
  ·have hf : fY sp.length e = false := by simpa using hc
   rw [hf, Bool.false_and, if_neg (show ¬ (false = true) from Bool.false_ne_true)]
   have hd : ¬ (0 ≤ e.At ∧ e.At ≤ (sp.length : Int) ∧ 0 ≤ e.Many ∧ e.Many ≤ 3) := of_decide_eq_false hf
   by_cases c1 : e.At < 0
   ·rw [if_pos c1]; rfl
   ·rw [if_neg c1, bsm]
    by_cases c2 : (sp.length : Int) < e.At
    ·rw [if_pos c2]; rfl
    ·rw [if_neg c2, bsm]
     by_cases c3 : e.Many < 0
     ·rw [if_pos c3]; rfl
     ·rw [if_neg c3, bsm, if_pos (by omega)]; rfl
theorem rl2 {ch : List ScopeChan} {ru : List ScopeRule} (suf : List ScopeSpot) : ∀ (pre : List ScopeSpot) (k : Nat), suf.length < k → pre.length + suf.length ≤ 3000000 →
  nY ⟨ch, pre ++ suf, ru⟩ k pre.length = some (if kY pre.length suf = true then .inl () else .inr false) := by
 induction suf with
 | nil =>
  intro pre k hk _
  obtain _ | k := k
  ·omega
  rw [nY, if_neg (by simp), if_pos (by rfl)]
 | cons e suf ih =>
  intro pre k hk hB
  obtain _ | k := k
  ·omega
  simp only [List.length_cons] at hk hB
  have hall : kY pre.length (e :: suf) = (decide (0 ≤ e.In ∧ e.In ≤ (pre.length : Int)) && kY (pre.length + 1) suf) := rfl
  rw [nY, if_pos (cC _ _ _), hall]
  dsimp only
  rw [bX, bsm]
  by_cases hc : 0 ≤ e.In ∧ e.In ≤ (pre.length : Int)
  ·have hp : (pre ++ [e]).length = pre.length + 1 := by simp
   rw [if_neg (by omega), bsm, if_neg (by omega), aV (by omega), bsm, cA pre suf e, bT pre e, ih (pre ++ [e]) k (by omega) (by simp; omega), decide_eq_true hc, Bool.true_and, hp]
  ·rw [decide_eq_false hc, Bool.false_and, if_neg (show ¬ (false = true) from Bool.false_ne_true)]
   by_cases c1 : e.In < 0
   ·rw [if_pos c1]; rfl
   ·rw [if_neg c1, bsm, if_pos (by omega)]; rfl
theorem rl5 {a nd c : Int} {js : List Int} (suf : List Int) : ∀ (pre : List Int) (k : Nat) (post : List Int), js = pre ++ suf ++ post → suf.length < k → pre.length + suf.length ≤ 3000000 →
  oB ⟨a, js, nd⟩ (pre.length + suf.length : Nat) c k pre.length = some (if c ∈ suf then .inr (.inr (.inr (.inr false))) else .inl ()) := by
 induction suf with
 | nil =>
  intro pre k post _ hk _
  obtain _ | k := k
  ·omega
  rw [oB, if_neg (by simp), if_neg (by simp)]
 | cons e suf ih =>
  intro pre k post hj hk hB
  obtain _ | k := k
  ·omega
  simp only [List.length_cons] at hk hB
  have hi : idx js (pre.length : Int) = some e := by rw [hj]; exact dZ (by simp)
  rw [oB, if_pos (by simp; omega)]
  dsimp only
  rw [hi, bsm]
  by_cases hc : e = c
  ·rw [if_pos hc, if_pos (by simp [hc])]; rfl
  ·have h := ih (pre ++ [e]) k post (by simp [hj]) (by omega) (by simp; omega)
   have hl : (pre ++ [e]).length + suf.length = pre.length + (e :: suf).length := by simp; omega
   rw [hl] at h
   have hm : (c ∈ e :: suf) ↔ c ∈ suf := by simp [Ne.symm hc]
   rw [if_neg hc, aV (by omega), bsm, bT pre e, h]
   by_cases hs : c ∈ suf
   ·rw [if_pos hs, if_pos (hm.2 hs)]
   ·rw [if_neg hs, if_neg (fun q => hs (hm.1 q))]
theorem rl4 {ch : List ScopeChan} {sp : List ScopeSpot} {ru : List ScopeRule} {a nd : Int} (suf : List Int) {fuel : Nat} : ∀ (pre : List Int) (k : Nat) (u : List Bool), suf.length < k → pre.length + suf.length < fuel → pre.length + suf.length ≤ 3000000 → u.length = ch.length →
  (∃ u', lR ch a pre suf u = some u' ∧ u'.length = ch.length ∧ jX fuel ⟨ch, sp, ru⟩ ⟨a, pre ++ suf, nd⟩ k u pre.length = some (.inl u')) ∨
  (lR ch a pre suf u = none ∧ jX fuel ⟨ch, sp, ru⟩ ⟨a, pre ++ suf, nd⟩ k u pre.length = some (.inr (.inr false))) := by
 induction suf with
 | nil =>
  intro pre k u hk _ _ hl
  obtain _ | k := k
  ·omega
  exact .inl ⟨u, rfl, hl, by rw [jX, if_neg (by simp)]⟩
 | cons e suf ih =>
  intro pre k u hk hf hB hl
  obtain _ | k := k
  ·omega
  simp only [List.length_cons] at hk hB hf
  rw [jX, if_pos (cC _ _ _)]
  dsimp only
  rw [bX, bsm]
  simp only [lR]
  by_cases h1 : 0 ≤ e ∧ e < (ch.length : Int)
  ·obtain ⟨y, hy⟩ := dU h1.1 h1.2
   obtain ⟨b, hb⟩ := dU (xs := u) h1.1 (by omega)
   rw [hy, if_neg (show ¬ e < 0 by omega), if_neg (show ¬ (ch.length : Int) ≤ e by omega), bsm]
   dsimp only
   by_cases h2 : y.At = a
   ·have h5 := rl5 (a := a) (nd := nd) (c := e) (js := pre ++ e :: suf) pre [] fuel (e :: suf) (by simp) (by omega) (by simp; omega)
    simp only [List.length_nil, Nat.zero_add, Int.natCast_zero] at h5
    rw [if_neg (show ¬ (y.At ≠ a) from fun q => q h2), h5, bsm]
    by_cases h3 : e ∈ pre
    ·rw [if_pos h3, if_neg (show ¬ (y.At = a ∧ e ∉ pre) from fun q => q.2 h3)]
     exact .inr ⟨rfl, rfl⟩
    ·rw [if_neg h3, if_pos (show y.At = a ∧ e ∉ pre from ⟨h2, h3⟩)]
     dsimp only
     rw [hb, bsm, bsm]
     dsimp only
     rw [aV (by omega), bsm, cA pre suf e, bT pre e]
     exact ih (pre ++ [e]) k _ (by omega) (by simp; omega) (by simp; omega) (by simpa using hl)
   ·rw [if_pos (show y.At ≠ a from h2), if_neg (show ¬ (y.At = a ∧ e ∉ pre) from fun q => h2 q.1)]
    exact .inr ⟨rfl, rfl⟩
  ·rw [sU h1]
   refine .inr ⟨rfl, ?_⟩
   by_cases h0 : e < 0
   ·rw [if_pos h0]; rfl
   ·rw [if_neg h0, if_pos (by omega)]; rfl
theorem rl3 {ch : List ScopeChan} {sp : List ScopeSpot} {fuel : Nat} (suf : List ScopeRule) : ∀ (pre : List ScopeRule) (k : Nat) (u : List Bool), suf.length < k → pre.length + suf.length ≤ 3000000 → 2000000 < fuel → (∀ r ∈ suf, r.Joins.length ≤ 2000000) → u.length = ch.length →
  (∃ u', iQ ch sp.length suf u = some u' ∧ u'.length = ch.length ∧ mE fuel ⟨ch, sp, pre ++ suf⟩ k u pre.length = some (.inl u')) ∨
  (iQ ch sp.length suf u = none ∧ mE fuel ⟨ch, sp, pre ++ suf⟩ k u pre.length = some (.inr false)) := by
 induction suf with
 | nil =>
  intro pre k u hk _ _ _ hl
  obtain _ | k := k
  ·omega
  exact .inl ⟨u, rfl, hl, by rw [mE, if_neg (by simp)]⟩
 | cons e suf ih =>
  intro pre k u hk hB hf hJ hl
  obtain _ | k := k
  ·omega
  simp only [List.length_cons] at hk hB
  have hj := hJ e (.head _)
  rw [mE, if_pos (cC _ _ _)]
  dsimp only
  rw [bX, bsm]
  simp only [iQ]
  by_cases h1 : okR sp.length e
  ·obtain ⟨c1, c2, c3, c4⟩ := h1
   rw [if_pos (show okR sp.length e from ⟨c1, c2, c3, c4⟩), if_neg (show ¬ e.At < 0 by omega), if_neg (show ¬ (sp.length : Int) < e.At by omega), if_neg (show ¬ (e.Joins.length : Int) < 1 by omega), if_neg (show ¬ 3 < (e.Joins.length : Int) by omega)]
   have h4 := rl4 (ch := ch) (sp := sp) (ru := pre ++ e :: suf) (a := e.At) (nd := e.Node) e.Joins (fuel := fuel) [] fuel u (by omega) (by simp; omega) (by simp; omega) hl
   simp only [List.nil_append, List.length_nil, Int.natCast_zero] at h4
   rcases h4 with ⟨u', a1, a2, a4⟩ | ⟨a1, a4⟩
   ·have : ((jX fuel ⟨ch, sp, pre ++ e :: suf⟩ e fuel u 0) = some (.inl u')) := a4
    rw [a1, bsm, this, bsm]
    dsimp only
    rw [aV (by omega), bsm, cA pre suf e, bT pre e]
    exact ih (pre ++ [e]) k u' (by omega) (by simp; omega) hf (fun r hr => hJ r (.tail _ hr)) a2
   ·have : ((jX fuel ⟨ch, sp, pre ++ e :: suf⟩ e fuel u 0) = some (.inr (.inr false))) := a4
    rw [a1, this]
    exact .inr ⟨rfl, rfl⟩
  ·rw [if_neg h1]
   refine .inr ⟨rfl, ?_⟩
   unfold okR at h1
   by_cases c1 : e.At < 0
   ·rw [if_pos c1]; rfl
   ·rw [if_neg c1]
    by_cases c2 : (sp.length : Int) < e.At
    ·rw [if_pos c2]; rfl
    ·rw [if_neg c2]
     by_cases c3 : (e.Joins.length : Int) < 1
     ·rw [if_pos c3]; rfl
     ·rw [if_neg c3, if_pos (by omega)]; rfl
theorem rl6 (suf : List Bool) : ∀ (pre : List Bool) (k : Nat), suf.length < k → pre.length + suf.length ≤ 3000000 → oP (pre ++ suf) k pre.length = some (if suf.all id = true then .inl () else .inr false) := by
 induction suf with
 | nil =>
  intro pre k hk _
  obtain _ | k := k
  ·omega
  rw [oP, if_neg (by simp), if_pos (by rfl)]
 | cons e suf ih =>
  intro pre k hk hB
  obtain _ | k := k
  ·omega
  simp only [List.length_cons] at hk hB
  rw [oP, if_pos (cC _ _ _), bX, bsm]
  cases e with
  | false =>
   rw [cond_false, show (false :: suf).all id = false from rfl, if_neg Bool.false_ne_true]; rfl
  | true =>
   rw [cond_true, aV (by omega), bsm, cA pre suf true, bT pre true, ih (pre ++ [true]) k (by omega) (by simp; omega), show (true :: suf).all id = suf.all id from by simp]
theorem rdef_eq {fuel : Nat} {d : ScopeDef} (hf : 3000000 ≤ fuel) (hs : smD d) : wU fuel d = some (okD d) := by
 obtain ⟨ch, sp, ru⟩ := d
 obtain ⟨s1, s2, s3, s4⟩ := hs
 dsimp only at s1 s2 s3 s4
 rw [wU]
 dsimp only
 have e1 := rl1 (sp := sp) (ru := ru) ch [] fuel (by omega) (by simp; omega)
 have e2 := rl2 (ch := ch) (ru := ru) sp [] fuel (by omega) (by simp; omega)
 have e3 := rl3 (ch := ch) (sp := sp) (fuel := fuel) ru [] fuel (List.replicate ch.length false) (by omega) (by simp; omega) (by omega) s4 (by simp)
 simp only [List.nil_append, List.length_nil, Int.natCast_zero] at e1 e2 e3
 have hmk : mk false (ch.length : Int) = some (List.replicate ch.length false) := by unfold mk; rw [if_pos (by omega)]; simp
 have hok : okD ⟨ch, sp, ru⟩ = (decide (ch.length ≤ 30 ∧ sp.length ≤ 30 ∧ ru.length ≤ 30) && ch.all (fY sp.length) && kY 0 sp && okU (iQ ch sp.length ru (List.replicate ch.length false))) := rfl
 by_cases l1 : 30 < ch.length
 ·rw [if_pos (by omega), hok, decide_eq_false (by omega)]; simp
 ·rw [if_neg (by omega)]
  by_cases l2 : 30 < sp.length
  ·rw [if_pos (by omega), hok, decide_eq_false (by omega)]; simp
  ·rw [if_neg (by omega)]
   by_cases l3 : 30 < ru.length
   ·rw [if_pos (by omega), hok, decide_eq_false (by omega)]; simp
   ·rw [if_neg (by omega), e1, bsm, hok, decide_eq_true (by omega)]
    cases h1 : ch.all (fY sp.length) with
    | false => simp
    | true =>
     simp only [if_true, Bool.true_and]
     rw [e2, bsm]
     cases h2 : kY 0 sp with
     | false => simp
     | true =>
      simp only [if_true, Bool.true_and]
      rw [hmk, bsm]
      rcases e3 with ⟨u, a1, a2, a4⟩ | ⟨a1, a4⟩
      ·have h6 := rl6 u [] fuel (by omega) (by simp; omega)
       simp only [List.nil_append, List.length_nil, Int.natCast_zero] at h6
       rw [a4, bsm, a1]
       dsimp only
       rw [h6, bsm]
       have : okU (some u) = u.all id := rfl
       rw [this]
       cases u.all id <;> simp
      ·rw [a4, bsm, a1]; simp [okU]
end Go.Proofs.YtmnbfgeljmhekaaGreat
set_option maxRecDepth 100000
namespace Go.Proofs.YtmnbfgeljmhekaaGreat
open Go.SX Go.SW Go.Dt
structure VS where
 sz : List Int
 met : List Bool
 dfs : List Bool
def shp (op : Int) : Option (Nat × Nat) :=
 if op = 1 ∨ op = 7 then some (0, 0) else if op = 3 then some (2, 0) else if op = 2 then some (0, 1) else if op = 5 then some (2, 2) else if op = 6 ∨ op = 8 then some (1, 3) else if op = 4 then some (1, 4) else none
def okM (p : ScopeProg) (s : VS) (x : ScopeNode) (size : Int) : Nat → Prop
 | 0 => x.N = 0 ∧ x.Args.length = 0
 | 1 => (0 ≤ x.N ∧ x.N < size) ∧ x.Args.length ≤ 3
 | 2 => x.N = 0 ∧ x.Args.length = 1
 | 3 => (0 ≤ x.N ∧ x.N < size) ∧ x.Args.length = 0
 | _ => (0 ≤ x.N ∧ x.N < (p.Defs.length : Int) ∧ idx s.dfs x.N = some false) ∧ x.Args.length = 0
def okN (p : ScopeProg) (s : VS) (x : ScopeNode) (size : Int) : Prop := (∃ k c, shp x.Op = some (k, c) ∧ x.Kids.length = k ∧ okM p s x size c) ∧ x.Args.all (okE size) = true
def own (d : ScopeDef) : Int := (d.Chans.length : Int) + (d.Spots.length : Int)
def brs (ch : List ScopeChan) : List Int → Int
 | [] => 0
 | c :: js => (match idx ch c with | some y => y.Many | none => 0) + brs ch js
def cV (g : VS → Int → Int → Option VS) : VS → List (Int × Int) → Option VS
 | s, [] => some s
 | s, x :: l => (g s x.1 x.2).bind fun s => cV g s l
open Classical in
noncomputable def vis (p : ScopeProg) : Nat → VS → Int → Int → Option VS
 | 0, _, _, _ => none
 | f + 1, s, n, size =>
  if 0 ≤ n ∧ n < (p.Nodes.length : Int) ∧ idx s.met n = some false then
   (idx p.Nodes n).bind fun x =>
   if okN p s x size then
    if x.Op = 4 then
     (idx p.Defs x.N).bind fun d =>
     if okD d = true then
      (cV (vis p f) ⟨s.sz.set n.toNat size, s.met.set n.toNat true, s.dfs.set x.N.toNat true⟩ (d.Rules.map fun r => (r.Node, size + own d + brs d.Chans r.Joins))).bind fun s1 =>
      (cV (vis p f) s1 (d.Spots.map fun y => (y.Node, size + own d))).bind fun s2 =>
      cV (vis p f) s2 (x.Kids.map fun k => (k, size + own d))
     else none
    else cV (vis p f) ⟨s.sz.set n.toNat size, s.met.set n.toNat true, s.dfs⟩ (x.Kids.map fun k => (k, size))
   else none
  else none
def unm (s : VS) : Nat := s.met.countP (fun b => !b)
structure WS (p : ScopeProg) (s : VS) : Prop where
 sz : s.sz.length = p.Nodes.length
 met : s.met.length = p.Nodes.length
 dfs : s.dfs.length = p.Defs.length
structure SmP (p : ScopeProg) : Prop where
 nodes : p.Nodes.length ≤ 2000000
 defs : p.Defs.length ≤ 2000000
 free : p.Free.length ≤ 2000000
 names : ∀ x ∈ p.Free, x.size ≤ 2000000
 args : ∀ x ∈ p.Nodes, x.Args.length ≤ 2000000 ∧ x.Kids.length ≤ 2000000 ∧ ∀ e ∈ x.Args, nE e ≤ 2000000
 dfs : ∀ d ∈ p.Defs, smD d
theorem eF {α : Type} {xs : List α} {i : Int} {y : α} (h : idx xs i = some y) : y ∈ xs := List.mem_of_getElem? (cB h)
theorem aDn {ch : List ScopeChan} {a : Int} : ∀ (js pre : List Int) (u u' : List Bool), lR ch a pre js u = some u' → ∀ c ∈ js, ∃ y, idx ch c = some y
 | [], _, _, _, _, c, h => by cases h
 | e :: js, pre, u, u', h, c, hc => by
  simp only [lR] at h
  cases he : idx ch e with
  | none => rw [he] at h; cases h
  | some y =>
   rw [he] at h
   dsimp only at h
   split at h
   ·cases hc with
    | head => exact ⟨y, he⟩
    | tail _ hc => exact aDn js _ _ _ h c hc
   ·cases h
theorem aDq {ch : List ScopeChan} {n : Nat} : ∀ (rs : List ScopeRule) (u u' : List Bool), iQ ch n rs u = some u' → ∀ r ∈ rs, okR n r ∧ ∀ c ∈ r.Joins, ∃ y, idx ch c = some y
 | [], _, _, _, r, h => by cases h
 | e :: rs, u, u', h, r, hr => by
  simp only [iQ] at h
  split at h
  ·rename_i h1
   obtain ⟨u1, h2, h3⟩ := bind_some h
   cases hr with
   | head => exact ⟨h1, aDn _ _ _ _ h2⟩
   | tail _ hr => exact aDq rs _ _ h3 r hr
  ·cases h
theorem eA {d : ScopeDef} (h : okD d = true) : d.Chans.length ≤ 30 ∧ d.Spots.length ≤ 30 ∧ d.Rules.length ≤ 30 ∧ (∀ c ∈ d.Chans, 0 ≤ c.Many ∧ c.Many ≤ 3) ∧ ∀ r ∈ d.Rules, r.Joins.length ≤ 3 ∧ ∀ c ∈ r.Joins, ∃ y, idx d.Chans c = some y ∧ 0 ≤ y.Many ∧ y.Many ≤ 3 := by
 simp only [okD, Bool.and_eq_true, decide_eq_true_eq] at h
 obtain ⟨⟨⟨h1, h2⟩, h3⟩, h4⟩ := h
 have hm : ∀ c ∈ d.Chans, 0 ≤ c.Many ∧ c.Many ≤ 3 := fun c hc => by
  have := of_decide_eq_true (List.all_eq_true.1 h2 c hc); exact ⟨this.2.2.1, this.2.2.2⟩
 refine ⟨h1.1, h1.2.1, h1.2.2, hm, fun r hr => ?_⟩
 cases hu : iQ d.Chans d.Spots.length d.Rules (List.replicate d.Chans.length false) with
 | none => rw [hu] at h4; cases h4
 | some u =>
  obtain ⟨g1, g2⟩ := aDq _ _ _ hu r hr
  exact ⟨g1.2.2.2, fun c hc => let ⟨y, hy⟩ := g2 c hc; ⟨y, hy, hm y (eF hy)⟩⟩
theorem qN {ch : List ScopeChan} : ∀ {js : List Int}, (∀ c ∈ js, ∃ y, idx ch c = some y ∧ 0 ≤ y.Many ∧ y.Many ≤ 3) → 0 ≤ brs ch js ∧ brs ch js ≤ 3 * js.length
 | [], _ => by simp [brs]
 | c :: js, h => by
  obtain ⟨y, h1, h2, h3⟩ := h c (.head _)
  have := qN (js := js) fun c hc => h c (.tail _ hc)
  simp only [brs, h1, List.length_cons]; omega
theorem aFM {ch : List ScopeChan} {sp : List ScopeSpot} {ru : List ScopeRule} {a nd : Int} (suf : List Int) : ∀ (pre : List Int) (k : Nat) (w : Int), suf.length < k → pre.length + suf.length ≤ 1000 → 0 ≤ w → w ≤ 100000 → (∀ c ∈ suf, ∃ y, idx ch c = some y ∧ 0 ≤ y.Many ∧ y.Many ≤ 3) → w + 3 * suf.length ≤ 100000 →
  oG ⟨ch, sp, ru⟩ ⟨a, pre ++ suf, nd⟩ k w pre.length = some (w + brs ch suf) := by
 induction suf with
 | nil =>
  intro pre k w hk _ _ _ _ _
  obtain _ | k := k
  ·omega
  rw [oG, if_neg (by simp)]; simp [brs]
 | cons e suf ih =>
  intro pre k w hk hB h0 h1 hm hw
  obtain _ | k := k
  ·omega
  simp only [List.length_cons] at hk hB hw
  obtain ⟨y, g1, g2, g3⟩ := hm e (.head _)
  rw [oG, if_pos (cC _ _ _)]
  dsimp only
  rw [bX, bsm, g1, bsm, aV (by omega), bsm, aV (by omega), bsm, cA pre suf e, bT pre e, ih (pre ++ [e]) k _ (by omega) (by simp; omega) (by omega) (by omega) (fun c hc => hm c (.tail _ hc)) (by omega)]
  simp only [brs, g1]; congr 1; omega
theorem aGE {fuel : Nat} {d : ScopeDef} {r : ScopeRule} (hf : 3000 ≤ fuel) (h : okD d = true) (hr : r ∈ d.Rules) : wF fuel d r = some (brs d.Chans r.Joins) := by
 obtain ⟨_, _, _, _, h5⟩ := eA h
 obtain ⟨g1, g2⟩ := h5 r hr
 have := aFM (ch := d.Chans) (sp := d.Spots) (ru := d.Rules) (a := r.At) (nd := r.Node) r.Joins [] fuel 0 (by omega) (by simp; omega) (by omega) (by omega) g2 (by omega)
 simp only [List.nil_append, List.length_nil, Int.natCast_zero] at this
 rw [wF, this, bsm]; congr 1; omega
def jH (p : ScopeProg) (o : Option VS) : Scope_looker ⊕ Value := match o with
 | some s => .inl ⟨p, s.sz, s.met, s.dfs⟩
 | none => .inr flaw
structure Vis (p : ScopeProg) (f : Nat) (rec : Scope_looker → Int → Int → Option (Scope_looker ⊕ Value)) : Prop where
 run : ∀ (s : VS) (n z : Int), WS p s → unm s ≤ f → 0 ≤ z → z + 80 * f ≤ 100000 → rec ⟨p, s.sz, s.met, s.dfs⟩ n z = some (jH p (vis p f s n z))
structure VisO (p : ScopeProg) (f : Nat) : Prop where
 out : ∀ (s : VS) (n z : Int) (s' : VS), WS p s → unm s ≤ f → vis p f s n z = some s' → WS p s' ∧ unm s' + 1 ≤ unm s
theorem lS {p : ScopeProg} {f : Nat} (h : VisO p f) : ∀ (l : List (Int × Int)) (s s' : VS), WS p s → unm s ≤ f → cV (vis p f) s l = some s' → WS p s' ∧ unm s' ≤ unm s
 | [], s, s', hs, _, e => by cases e; exact ⟨hs, Nat.le_refl _⟩
 | x :: l, s, s', hs, hu, e => by
  obtain ⟨s1, e1, e2⟩ := bind_some e
  obtain ⟨h1, h2⟩ := h.out _ _ _ _ hs hu e1
  obtain ⟨h3, h4⟩ := lS h l s1 s' h1 (by omega) e2
  exact ⟨h3, by omega⟩
section
variable {p : ScopeProg} {f : Nat} {rec : Scope_looker → Int → Int → Option (Scope_looker ⊕ Value)}
theorem ln4 (hv : Vis p f rec) (ho : VisO p f) {op nn : Int} {ar : List ScopeExp} {z : Int} (hz : 0 ≤ z ∧ z + 80 * f ≤ 100000) (suf : List Int) : ∀ (pre : List Int) (k : Nat) (s : VS), suf.length < k → pre.length + suf.length ≤ 3000000 → WS p s → unm s ≤ f →
  mT rec ⟨op, nn, ar, pre ++ suf⟩ z k pre.length p.Free p.Nodes p.Defs p.Main s.sz s.met s.dfs = some (jH p (cV (vis p f) s (suf.map fun k => (k, z)))) := by
 induction suf with
 | nil =>
  intro pre k s hk _ hs hu
  obtain _ | k := k
  ·omega
  rw [mT, if_neg (by simp)]; rfl
 | cons e suf ih =>
  intro pre k s hk hB hs hu
  obtain _ | k := k
  ·omega
  simp only [List.length_cons] at hk hB
  rw [mT, if_pos (cC _ _ _)]
  dsimp only
  rw [bX, bsm]
  have h1 := hv.run s e z hs hu hz.1 hz.2
  rw [show (⟨⟨p.Free, p.Nodes, p.Defs, p.Main⟩, s.sz, s.met, s.dfs⟩ : Scope_looker) = ⟨p, s.sz, s.met, s.dfs⟩ from rfl, h1, bsm]
  simp only [List.map_cons, cV]
  cases hc : vis p f s e z with
  | none => rfl
  | some s1 =>
   obtain ⟨h2, h3⟩ := ho.out _ _ _ _ hs hu hc
   simp only [jH]
   rw [aV (by omega), bsm, cA pre suf e, bT pre e, bsm]
   exact ih (pre ++ [e]) k s1 (by omega) (by simp; omega) h2 (by omega)
theorem ln3 (hv : Vis p f rec) (ho : VisO p f) {ch : List ScopeChan} {ru : List ScopeRule} {z : Int} (hz : 0 ≤ z ∧ z + 80 * f ≤ 100000) (suf : List ScopeSpot) : ∀ (pre : List ScopeSpot) (k : Nat) (s : VS), suf.length < k → pre.length + suf.length ≤ 3000000 → WS p s → unm s ≤ f →
  lU rec ⟨ch, pre ++ suf, ru⟩ z k pre.length p.Free p.Nodes p.Defs p.Main s.sz s.met s.dfs = some (match cV (vis p f) s (suf.map fun y => (y.Node, z)) with
   | some s' => .inl (z, p.Free, p.Nodes, p.Defs, p.Main, s'.sz, s'.met, s'.dfs)
   | none => .inr (.inr flaw)) := by
 induction suf with
 | nil =>
  intro pre k s hk _ hs hu
  obtain _ | k := k
  ·omega
  rw [lU, if_neg (by simp)]; rfl
 | cons e suf ih =>
  intro pre k s hk hB hs hu
  obtain _ | k := k
  ·omega
  simp only [List.length_cons] at hk hB
  rw [lU, if_pos (cC _ _ _)]
  dsimp only
  rw [bX, bsm]
  have h1 := hv.run s e.Node z hs hu hz.1 hz.2
  rw [show (⟨⟨p.Free, p.Nodes, p.Defs, p.Main⟩, s.sz, s.met, s.dfs⟩ : Scope_looker) = ⟨p, s.sz, s.met, s.dfs⟩ from rfl, h1, bsm]
  simp only [List.map_cons, cV]
  cases hc : vis p f s e.Node z with
  | none => rfl
  | some s1 =>
   obtain ⟨h2, h3⟩ := ho.out _ _ _ _ hs hu hc
   simp only [jH]
   rw [aV (by omega), bsm, cA pre suf e, bT pre e, bsm]
   exact ih (pre ++ [e]) k s1 (by omega) (by simp; omega) h2 (by omega)
theorem ln2 (hv : Vis p f rec) (ho : VisO p f) {fuel : Nat} {d : ScopeDef} (hd : okD d = true) (hf : 3000 ≤ fuel) {z : Int} (hz : 0 ≤ z ∧ z + 9 + 80 * f ≤ 100000) (suf : List ScopeRule) : ∀ (pre : List ScopeRule) (k : Nat) (s : VS), d.Rules = pre ++ suf → suf.length < k → pre.length + suf.length ≤ 3000000 → WS p s → unm s ≤ f →
  mA fuel rec d z k pre.length p.Free p.Nodes p.Defs p.Main s.sz s.met s.dfs = some (match cV (vis p f) s (suf.map fun r => (r.Node, z + brs d.Chans r.Joins)) with
   | some s' => .inl (p.Free, p.Nodes, p.Defs, p.Main, s'.sz, s'.met, s'.dfs)
   | none => .inr (.inr (.inr flaw))) := by
 induction suf with
 | nil =>
  intro pre k s he hk _ hs hu
  obtain _ | k := k
  ·omega
  rw [mA, he, if_neg (by simp)]; rfl
 | cons e suf ih =>
  intro pre k s he hk hB hs hu
  obtain _ | k := k
  ·omega
  simp only [List.length_cons] at hk hB
  have hmem : e ∈ d.Rules := by rw [he]; simp
  obtain ⟨_, _, _, _, h5⟩ := eA hd
  obtain ⟨g1, g2⟩ := h5 e hmem
  have hb := qN g2
  rw [mA, he, if_pos (cC _ _ _), ← he, show idx d.Rules (pre.length : Int) = some e from by rw [he]; exact bX _ _ _, bsm,
   show (⟨e.At, e.Joins, e.Node⟩ : ScopeRule) = e from rfl, show (⟨d.Chans, d.Spots, d.Rules⟩ : ScopeDef) = d from rfl, aGE hf hd hmem, bsm, aV (by omega), bsm]
  have h1 := hv.run s e.Node (z + brs d.Chans e.Joins) hs hu (by omega) (by omega)
  rw [show (⟨⟨p.Free, p.Nodes, p.Defs, p.Main⟩, s.sz, s.met, s.dfs⟩ : Scope_looker) = ⟨p, s.sz, s.met, s.dfs⟩ from rfl, h1, bsm]
  simp only [List.map_cons, cV]
  cases hc : vis p f s e.Node (z + brs d.Chans e.Joins) with
  | none => rfl
  | some s1 =>
   obtain ⟨h2, h3⟩ := ho.out _ _ _ _ hs hu hc
   simp only [jH]
   rw [aV (by omega), bsm, bT pre e, bsm]
   exact ih (pre ++ [e]) k s1 (by rw [he]; simp) (by omega) (by simp; omega) h2 (by omega)
end
theorem ln1 {fuel : Nat} (hf : 3000000 ≤ fuel) {op nn : Int} {ks : List Int} {z : Int} (suf : List ScopeExp) : ∀ (pre : List ScopeExp) (k : Nat), suf.length < k → pre.length + suf.length ≤ 3000000 → (∀ e ∈ suf, nE e ≤ 2000000) →
  nF fuel z ⟨op, nn, pre ++ suf, ks⟩ k pre.length = some (if suf.all (okE z) = true then .inl () else .inr (.inr flaw)) := by
 induction suf with
 | nil =>
  intro pre k hk _ _
  obtain _ | k := k
  ·omega
  rw [nF, if_neg (by simp), if_pos (by rfl)]
 | cons e suf ih =>
  intro pre k hk hB he
  obtain _ | k := k
  ·omega
  simp only [List.length_cons] at hk hB
  have hn := he e (.head _)
  rw [nF, if_pos (cC _ _ _), show (e :: suf).all (okE z) = (okE z e && suf.all (okE z)) from rfl]
  dsimp only
  rw [bX, bsm, yU, exp_eq (by omega) (by omega), bsm]
  cases h1 : okE z e with
  | false => rfl
  | true =>
   rw [Bool.true_and, if_pos rfl]
   dsimp only
   rw [aV (by omega), bsm, cA pre suf e, bT pre e]
   exact ih (pre ++ [e]) k (by omega) (by simp; omega) (fun x hx => he x (.tail _ hx))
end Go.Proofs.YtmnbfgeljmhekaaGreat
set_option maxRecDepth 100000
namespace Go.Proofs.YtmnbfgeljmhekaaGreat
open Go.SX Go.SW Go.Dt
theorem aAP {s : VS} {p : ScopeProg} {n : Int} {z : Int} {dfs : List Bool} (h0 : 0 ≤ n) (hm : idx s.met n = some false) : unm ⟨s.sz.set n.toNat z, s.met.set n.toNat true, dfs⟩ + 1 = unm s := by
 obtain ⟨j, rfl, hj, hlt⟩ := sY hm
 simp only [unm, Int.toNat_natCast]
 rw [List.countP_set (h := hlt)]
 have hv : s.met[j] = false := by
  have := List.getElem?_eq_getElem hlt; rw [hj] at this; exact (Option.some.inj this).symm
 have hpos : 0 < s.met.countP (fun b => !b) := List.countP_pos_iff.2 ⟨s.met[j], List.getElem_mem hlt, by rw [hv]; rfl⟩
 rw [hv]; simp; omega
theorem rI {p : ScopeProg} {s : VS} (h : WS p s) {i j : Nat} {z : Int} : WS p ⟨s.sz.set i z, s.met.set i true, s.dfs⟩ ∧ WS p ⟨s.sz.set i z, s.met.set i true, s.dfs.set j true⟩ :=
 ⟨⟨by simp [h.sz], by simp [h.met], h.dfs⟩, ⟨by simp [h.sz], by simp [h.met], by simp [h.dfs]⟩⟩
theorem visO (p : ScopeProg) (f : Nat) : VisO p f := by
 induction f with
 | zero => exact ⟨fun s n z s' _ _ h => by simp [vis] at h⟩
 | succ f ih =>
  refine ⟨fun s n z s' hs hu h => ?_⟩
  simp only [vis] at h
  split at h
  ·rename_i hc
   obtain ⟨x, _, h⟩ := bind_some h
   have hun := fun dfs => aAP (p := p) (z := z) (dfs := dfs) hc.1 hc.2.2
   split at h
   ·split at h
    ·obtain ⟨d, _, h⟩ := bind_some h
     split at h
     ·obtain ⟨s1, e1, h⟩ := bind_some h
      obtain ⟨s2, e2, e3⟩ := bind_some h
      have := hun (s.dfs.set x.N.toNat true)
      obtain ⟨a1, a2⟩ := lS ih _ _ _ (rI hs).2 (by omega) e1
      obtain ⟨b1, b2⟩ := lS ih _ _ _ a1 (by omega) e2
      obtain ⟨c1, c2⟩ := lS ih _ _ _ b1 (by omega) e3
      exact ⟨c1, by omega⟩
     ·cases h
    ·have := hun s.dfs
     obtain ⟨a1, a2⟩ := lS ih _ _ _ (rI hs (j := 0)).1 (by omega) h
     exact ⟨a1, by omega⟩
   ·cases h
  ·cases h
def kP (fuel : Nat) (a0 : Scope_looker) (a1 a2 : Int) (y7 : ScopeNode) (x2 : Int) : Option (Scope_looker ⊕ Value) :=
 (bV (decide ((y7.Args.length : Int) = x2))).bind fun y26 =>
 match y26 with
 | Sum.inr pv15 => some (Sum.inr pv15)
 | Sum.inl _ =>
 (nF fuel a2 y7 fuel 0).bind fun o => match o with
 | Sum.inr r => some r
 | Sum.inl _ =>
 (if y7.Op = 4 then
  (idx a0.defs y7.N).bind fun _ =>
  (idx a0.p.Defs y7.N).bind fun y30 =>
  (tL fuel (⟨y30.Chans, y30.Spots, y30.Rules⟩ : ScopeDef)).bind fun y31 =>
  match y31 with
  | Sum.inr pv17 => (some (Sum.inr pv17)).bind fun r => some (Sum.inr r)
  | Sum.inl _ =>
  (tY (⟨y30.Chans, y30.Spots, y30.Rules⟩ : ScopeDef)).bind fun y32 =>
  (chk (a2 + y32)).bind fun z2 =>
  (mA fuel (fA fuel) y30 z2 fuel 0 a0.p.Free a0.p.Nodes a0.p.Defs a0.p.Main (a0.sizes.set a1.toNat a2) (a0.met.set a1.toNat true) (a0.defs.set y7.N.toNat true)).bind fun o => match o with
  | Sum.inr r => some r
  | Sum.inl (x17, x18, x19, x20, x21, x22, x23) =>
  lU (fA fuel) y30 z2 fuel 0 x17 x18 x19 x20 x21 x22 x23
 else
  some (Sum.inl (a2, a0.p.Free, a0.p.Nodes, a0.p.Defs, a0.p.Main, a0.sizes.set a1.toNat a2, a0.met.set a1.toNat true, a0.defs))).bind fun o => match o with
 | Sum.inr r => some r
 | Sum.inl (x9, x10, x11, x12, x13, x14, x15, x16) =>
 mT (fA fuel) y7 x9 fuel 0 x10 x11 x12 x13 x14 x15 x16
theorem own_eq {d : ScopeDef} (h : d.Chans.length ≤ 2000000) (h2 : d.Spots.length ≤ 2000000) : tY d = some (own d) := by
 rw [tY, aV (by omega), bsm]; rfl
section
variable {p : ScopeProg} {f m : Nat}
noncomputable def aY (p : ScopeProg) (f : Nat) (s : VS) (n z : Int) (x : ScopeNode) : Option VS :=
 if x.Op = 4 then
  (idx p.Defs x.N).bind fun d =>
  if okD d = true then
   (cV (vis p f) ⟨s.sz.set n.toNat z, s.met.set n.toNat true, s.dfs.set x.N.toNat true⟩ (d.Rules.map fun r => (r.Node, z + own d + brs d.Chans r.Joins))).bind fun s1 =>
   (cV (vis p f) s1 (d.Spots.map fun y => (y.Node, z + own d))).bind fun s2 =>
   cV (vis p f) s2 (x.Kids.map fun k => (k, z + own d))
  else none
 else cV (vis p f) ⟨s.sz.set n.toNat z, s.met.set n.toNat true, s.dfs⟩ (x.Kids.map fun k => (k, z))
theorem tail_bad {a0 : Scope_looker} {n z : Int} {x : ScopeNode} {x2 : Int} (h : ¬ (x.Args.length : Int) = x2) : kP m a0 n z x x2 = some (.inr flaw) := by
 rw [kP, decide_eq_false h, dD]; rfl
theorem tail_eq (hp : SmP p) (hm : 3000000 ≤ m) (hv : Vis p f (fA m)) {s : VS} (hs : WS p s) {n z : Int} {x : ScopeNode} (hx : x ∈ p.Nodes) (hun : ∀ dfs, unm ⟨s.sz.set n.toNat z, s.met.set n.toNat true, dfs⟩ ≤ f) (hz : 0 ≤ z ∧ z + 69 + 80 * f ≤ 100000)
  (hN : x.Op = 4 → 0 ≤ x.N ∧ x.N < (p.Defs.length : Int)) {x2 : Int} (h2 : (x.Args.length : Int) = x2) :
  kP m ⟨p, s.sz, s.met, s.dfs⟩ n z x x2 = some (jH p (if x.Args.all (okE z) = true then aY p f s n z x else none)) := by
 obtain ⟨op, nn, ar, ks⟩ := x
 obtain ⟨g1, g2, g3⟩ := hp.args _ hx
 dsimp only at g1 g2 g3 h2 hN
 have ho := visO p f
 rw [kP, decide_eq_true h2, eQ, bsm]
 dsimp only
 have e1 := ln1 (fuel := m) hm (op := op) (nn := nn) (ks := ks) (z := z) ar [] m (by omega) (by simp; omega) g3
 simp only [List.nil_append, List.length_nil, Int.natCast_zero] at e1
 rw [e1, bsm]
 cases hall : ar.all (okE z) with
 | false => rfl
 | true =>
  rw [if_pos rfl, if_pos rfl]
  dsimp only
  by_cases h4 : op = 4
  ·subst h4
   obtain ⟨n0, n1⟩ := hN rfl
   obtain ⟨d, hd⟩ := dU n0 n1
   obtain ⟨b, hb⟩ := dU (xs := s.dfs) n0 (by rw [hs.dfs]; exact n1)
   have hsm := hp.dfs d (eF hd)
   have hres : aY p f s n z ⟨4, nn, ar, ks⟩ = if okD d = true then
     (cV (vis p f) ⟨s.sz.set n.toNat z, s.met.set n.toNat true, s.dfs.set nn.toNat true⟩ (d.Rules.map fun r => (r.Node, z + own d + brs d.Chans r.Joins))).bind fun s1 =>
     (cV (vis p f) s1 (d.Spots.map fun y => (y.Node, z + own d))).bind fun s2 => cV (vis p f) s2 (ks.map fun k => (k, z + own d))
     else none := by
    rw [aY, if_pos rfl]; dsimp only; rw [hd, bsm]
   rw [hres, if_pos rfl, hb, bsm, hd, bsm, show (⟨d.Chans, d.Spots, d.Rules⟩ : ScopeDef) = d from rfl, def_eq hm hsm, bsm]
   cases hok : okD d with
   | false => rfl
   | true =>
    rw [if_pos rfl, if_pos rfl]
    dsimp only
    obtain ⟨k1, k2, k3, _, _⟩ := eA hok
    have hown : 0 ≤ own d ∧ own d ≤ 60 := by unfold own; omega
    rw [own_eq (by omega) (by omega), bsm, aV (by omega), bsm]
    have e2 := ln2 hv ho (fuel := m) hok (by omega) (z := z + own d) ⟨by omega, by omega⟩ d.Rules [] m ⟨s.sz.set n.toNat z, s.met.set n.toNat true, s.dfs.set nn.toNat true⟩ rfl (by omega) (by simp; omega) (rI hs).2 (hun _)
    simp only [List.length_nil, Int.natCast_zero] at e2
    rw [e2, bsm]
    cases c2 : cV (vis p f) ⟨s.sz.set n.toNat z, s.met.set n.toNat true, s.dfs.set nn.toNat true⟩ (d.Rules.map fun r => (r.Node, z + own d + brs d.Chans r.Joins)) with
    | none => rfl
    | some s1 =>
     obtain ⟨w1, u1⟩ := lS ho _ _ _ (rI hs).2 (hun _) c2
     have hu1 := hun (s.dfs.set nn.toNat true)
     dsimp only
     rw [bsm]
     have e3 := ln3 hv ho (ch := d.Chans) (ru := d.Rules) (z := z + own d) ⟨by omega, by omega⟩ d.Spots [] m s1 (by omega) (by simp; omega) w1 (by omega)
     simp only [List.nil_append, List.length_nil, Int.natCast_zero] at e3
     rw [show (⟨d.Chans, d.Spots, d.Rules⟩ : ScopeDef) = d from rfl] at e3
     rw [e3, bsm]
     cases c3 : cV (vis p f) s1 (d.Spots.map fun y => (y.Node, z + own d)) with
     | none => rfl
     | some s2 =>
      obtain ⟨w2, u2⟩ := lS ho _ _ _ w1 (by omega) c3
      dsimp only
      rw [bsm]
      have e4 := ln4 hv ho (op := 4) (nn := nn) (ar := ar) (z := z + own d) ⟨by omega, by omega⟩ ks [] m s2 (by omega) (by simp; omega) w2 (by omega)
      simp only [List.nil_append, List.length_nil, Int.natCast_zero] at e4
      exact e4
  ·rw [if_neg h4, bsm]
   dsimp only
   have hres : aY p f s n z ⟨op, nn, ar, ks⟩ = cV (vis p f) ⟨s.sz.set n.toNat z, s.met.set n.toNat true, s.dfs⟩ (ks.map fun k => (k, z)) := by
    rw [aY, if_neg h4]
   rw [hres]
   have e4 := ln4 hv ho (op := op) (nn := nn) (ar := ar) (z := z) ⟨by omega, by omega⟩ ks [] m ⟨s.sz.set n.toNat z, s.met.set n.toNat true, s.dfs⟩ (by omega) (by simp; omega) (rI hs (j := 0)).1 (hun _)
   simp only [List.nil_append, List.length_nil, Int.natCast_zero] at e4
   exact e4
theorem aCs {s : VS} (hs : WS p s) {n z : Int} (h : ¬ (0 ≤ n ∧ n < (p.Nodes.length : Int) ∧ idx s.met n = some false)) : fA (m + 1) ⟨p, s.sz, s.met, s.dfs⟩ n z = some (.inr flaw) := by
 rw [fA]
 by_cases h0 : 0 ≤ n
 ·rw [if_pos h0]
  by_cases h1 : n < (p.Nodes.length : Int)
  ·obtain ⟨b, hb⟩ := dU (xs := s.met) h0 (by rw [hs.met]; exact h1)
   dsimp only
   rw [if_pos h1, hb, bsm]
   cases b with
   | false => exact absurd ⟨h0, h1, hb⟩ h
   | true => rfl
  ·dsimp only
   rw [if_neg h1, dD]; rfl
 ·rw [if_neg h0, dD]; rfl
end
end Go.Proofs.YtmnbfgeljmhekaaGreat
set_option maxRecDepth 100000
namespace Go.Proofs.YtmnbfgeljmhekaaGreat
open Go.SX Go.SW Go.Dt
theorem aGu {op : Int} (h : op = 1 ∨ op = 7) : jO op = some (.iface 197 (.int .i64 0)) := by
 rcases h with rfl | rfl <;> rfl
theorem aFT : jO 3 = some (.iface 197 (.int .i64 2)) := rfl
theorem aEW : jO 2 = some (.iface 190 (.agg ⟨[]⟩)) := rfl
theorem aHa : jO 5 = some (.iface 193 (.agg ⟨[]⟩)) := rfl
theorem aGz {op : Int} (h : op = 6 ∨ op = 8) : jO op = some (.iface 191 (.agg ⟨[]⟩)) := by
 rcases h with rfl | rfl <;> rfl
theorem aHn : jO 4 = some (.iface 192 (.agg ⟨[]⟩)) := rfl
theorem aFW {op : Int} (h : shp op = none) : jO op = some .nilIface := by
 unfold shp at h
 rw [jO]
 split at h; · cases h
 split at h; · cases h
 split at h; · cases h
 split at h; · cases h
 split at h; · cases h
 split at h; · cases h
 rename_i h1 h2 h3 h4 h5 h6
 rw [if_neg (by omega), bsm, decide_eq_false (by omega), cond_false, if_neg h2, if_neg h3, if_neg h4, if_neg (by omega), bsm, decide_eq_false (by omega), cond_false, if_neg h6]
def iG (m : Nat) (a0 : Scope_looker) (a1 a2 : Int) (y7 : ScopeNode) (y8 : Value) : Option (Scope_looker ⊕ Value) :=
 ((hQ y8).bind fun x1 =>
 bif !x1 then
  (mM y8).bind fun y9 =>
  (bV (decide ((y7.Kids.length : Int) = y9))).bind fun y10 =>
  match y10 with
  | Sum.inr pv4 => (some (Sum.inr pv4)).bind fun r => some (Sum.inr r)
  | Sum.inl _ =>
  some (Sum.inl ())
 else
  (bV false).bind fun y11 =>
  match y11 with
  | Sum.inr pv5 => (some (Sum.inr pv5)).bind fun r => some (Sum.inr r)
  | Sum.inl _ =>
  some (Sum.inl ())).bind fun o => match o with
 | Sum.inr r => some r
 | Sum.inl _ =>
 ((eS 190 (.agg #[]) y8).bind fun y12 =>
 match y12 with
 | (_, x3) =>
 bif x3 then
  if 0 ≤ y7.N then
   (bV (decide (y7.N < a2))).bind fun y13 =>
   match y13 with
   | Sum.inr pv6 => (some (Sum.inr pv6)).bind fun r => some (Sum.inr r)
   | Sum.inl _ =>
   some (Sum.inl (min (y7.Args.length : Int) 3))
  else
   (bV false).bind fun y14 =>
   match y14 with
   | Sum.inr pv7 => (some (Sum.inr pv7)).bind fun r => some (Sum.inr r)
   | Sum.inl _ =>
   some (Sum.inl (min (y7.Args.length : Int) 3))
 else
  (eS 191 (.agg #[]) y8).bind fun y15 =>
  match y15 with
  | (_, x4) =>
  bif x4 then
   if 0 ≤ y7.N then
    (bV (decide (y7.N < a2))).bind fun y16 =>
    match y16 with
    | Sum.inr pv8 => (some (Sum.inr pv8)).bind fun r => some (Sum.inr r)
    | Sum.inl _ =>
    some (Sum.inl 0)
   else
    (bV false).bind fun y17 =>
    match y17 with
    | Sum.inr pv9 => (some (Sum.inr pv9)).bind fun r => some (Sum.inr r)
    | Sum.inl _ =>
    some (Sum.inl 0)
  else
   (eS 192 (.agg #[]) y8).bind fun y18 =>
   match y18 with
   | (_, x5) =>
   bif x5 then
    if 0 ≤ y7.N then
     if y7.N < (a0.p.Defs.length : Int) then
      (idx a0.defs y7.N).bind fun y19 =>
      (bV (!y19)).bind fun y20 =>
      match y20 with
      | Sum.inr pv10 => (some (Sum.inr pv10)).bind fun r => some (Sum.inr r)
      | Sum.inl _ =>
      some (Sum.inl 0)
     else
      (bV false).bind fun y21 =>
      match y21 with
      | Sum.inr pv11 => (some (Sum.inr pv11)).bind fun r => some (Sum.inr r)
      | Sum.inl _ =>
      some (Sum.inl 0)
    else
     (bV false).bind fun y22 =>
     match y22 with
     | Sum.inr pv12 => (some (Sum.inr pv12)).bind fun r => some (Sum.inr r)
     | Sum.inl _ =>
     some (Sum.inl 0)
   else
    (eS 193 (.agg #[]) y8).bind fun y23 =>
    match y23 with
    | (_, x6) =>
    bif x6 then
     (bV (decide (y7.N = 0))).bind fun y24 =>
     match y24 with
     | Sum.inr pv13 => (some (Sum.inr pv13)).bind fun r => some (Sum.inr r)
     | Sum.inl _ =>
     some (Sum.inl 1)
    else
     (bV (decide (y7.N = 0))).bind fun y25 =>
     match y25 with
     | Sum.inr pv14 => (some (Sum.inr pv14)).bind fun r => some (Sum.inr r)
     | Sum.inl _ =>
     some (Sum.inl 0)).bind fun o => match o with
 | Sum.inr r => some r
 | Sum.inl x2 => kP m a0 a1 a2 y7 x2
section
variable {p : ScopeProg} {f m : Nat}
theorem qL {s : VS} (hs : WS p s) {n z : Int} {x : ScopeNode} (h : 0 ≤ n ∧ n < (p.Nodes.length : Int) ∧ idx s.met n = some false) (hx : idx p.Nodes n = some x) {v : Value} (hv : jO x.Op = some v) :
  fA (m + 1) ⟨p, s.sz, s.met, s.dfs⟩ n z = iG m ⟨p, s.sz, s.met, s.dfs⟩ n z x v := by
 obtain ⟨h0, h1, h2⟩ := h
 obtain ⟨b, hb⟩ := dU (xs := s.sz) h0 (by rw [hs.sz]; exact h1)
 rw [fA, if_pos h0]
 dsimp only
 rw [if_pos h1, h2, bsm, show (!false) = true from rfl, eQ, bsm, bsm]
 dsimp only
 rw [bsm, hb, bsm, hx, bsm, hv, bsm]
 rfl
theorem mid_nil {a0 : Scope_looker} {n z : Int} {x : ScopeNode} : iG m a0 n z x .nilIface = some (.inr flaw) := rfl
theorem tP {a0 : Scope_looker} {n z : Int} {x : ScopeNode} {v : Value} {k : Int} (hn : hQ v = some false) (hk : mM v = some k) (h : ¬ (x.Kids.length : Int) = k) : iG m a0 n z x v = some (.inr flaw) := by
 rw [iG, hn, bsm, show (!false) = true from rfl, cond_true, hk, bsm, decide_eq_false h, dD]; rfl
theorem aCm {a0 : Scope_looker} {n z : Int} {x : ScopeNode} {k : Int} (h : (x.Kids.length : Int) = k) : iG m a0 n z x (.iface 197 (.int .i64 k)) = if x.N = 0 then kP m a0 n z x 0 else some (.inr flaw) := by
 rw [iG, show hQ (.iface 197 (.int .i64 k)) = some false from rfl, bsm, show (!false) = true from rfl, cond_true, show mM (.iface 197 (.int .i64 k)) = some k from rfl, bsm, decide_eq_true h, eQ, bsm, bsm]
 dsimp only
 rw [show eS 190 (.agg #[]) (.iface 197 (.int .i64 k)) = some (.agg #[], false) from rfl, bsm]
 dsimp only
 rw [cond_false, show eS 191 (.agg #[]) (.iface 197 (.int .i64 k)) = some (.agg #[], false) from rfl, bsm]
 dsimp only
 rw [cond_false, show eS 192 (.agg #[]) (.iface 197 (.int .i64 k)) = some (.agg #[], false) from rfl, bsm]
 dsimp only
 rw [cond_false, show eS 193 (.agg #[]) (.iface 197 (.int .i64 k)) = some (.agg #[], false) from rfl, bsm]
 dsimp only
 rw [cond_false]
 by_cases h0 : x.N = 0
 ·rw [decide_eq_true h0, eQ, if_pos h0]; rfl
 ·rw [decide_eq_false h0, dD, if_neg h0]; rfl
theorem aHy {a0 : Scope_looker} {n z : Int} {x : ScopeNode} (h : (x.Kids.length : Int) = 0) : iG m a0 n z x (.iface 190 (.agg ⟨[]⟩)) = if 0 ≤ x.N ∧ x.N < z then kP m a0 n z x (min (x.Args.length : Int) 3) else some (.inr flaw) := by
 rw [iG, show hQ (.iface 190 (.agg ⟨[]⟩)) = some false from rfl, bsm, show (!false) = true from rfl, cond_true, show mM (.iface 190 (.agg ⟨[]⟩)) = some 0 from rfl, bsm, decide_eq_true h, eQ, bsm, bsm]
 dsimp only
 rw [show eS 190 (.agg #[]) (.iface 190 (.agg ⟨[]⟩)) = some (.agg #[], true) from rfl, bsm]
 dsimp only
 rw [cond_true]
 by_cases h0 : 0 ≤ x.N
 ·rw [if_pos h0]
  by_cases h1 : x.N < z
  ·rw [decide_eq_true h1, eQ, if_pos ⟨h0, h1⟩]; rfl
  ·rw [decide_eq_false h1, dD, if_neg (fun q => h1 q.2)]; rfl
 ·rw [if_neg h0, dD, if_neg (fun q => h0 q.1)]; rfl
theorem aGF {a0 : Scope_looker} {n z : Int} {x : ScopeNode} (h : (x.Kids.length : Int) = 1) : iG m a0 n z x (.iface 191 (.agg ⟨[]⟩)) = if 0 ≤ x.N ∧ x.N < z then kP m a0 n z x 0 else some (.inr flaw) := by
 rw [iG, show hQ (.iface 191 (.agg ⟨[]⟩)) = some false from rfl, bsm, show (!false) = true from rfl, cond_true, show mM (.iface 191 (.agg ⟨[]⟩)) = some 1 from rfl, bsm, decide_eq_true h, eQ, bsm, bsm]
 dsimp only
 rw [show eS 190 (.agg #[]) (.iface 191 (.agg ⟨[]⟩)) = some (.agg #[], false) from rfl, bsm]
 dsimp only
 rw [cond_false, show eS 191 (.agg #[]) (.iface 191 (.agg ⟨[]⟩)) = some (.agg #[], true) from rfl, bsm]
 dsimp only
 rw [cond_true]
 by_cases h0 : 0 ≤ x.N
 ·rw [if_pos h0]
  by_cases h1 : x.N < z
  ·rw [decide_eq_true h1, eQ, if_pos ⟨h0, h1⟩]; rfl
  ·rw [decide_eq_false h1, dD, if_neg (fun q => h1 q.2)]; rfl
 ·rw [if_neg h0, dD, if_neg (fun q => h0 q.1)]; rfl
theorem aE9 {a0 : Scope_looker} {n z : Int} {x : ScopeNode} (h : (x.Kids.length : Int) = 2) : iG m a0 n z x (.iface 193 (.agg ⟨[]⟩)) = if x.N = 0 then kP m a0 n z x 1 else some (.inr flaw) := by
 rw [iG, show hQ (.iface 193 (.agg ⟨[]⟩)) = some false from rfl, bsm, show (!false) = true from rfl, cond_true, show mM (.iface 193 (.agg ⟨[]⟩)) = some 2 from rfl, bsm, decide_eq_true h, eQ, bsm, bsm]
 dsimp only
 rw [show eS 190 (.agg #[]) (.iface 193 (.agg ⟨[]⟩)) = some (.agg #[], false) from rfl, bsm]
 dsimp only
 rw [cond_false, show eS 191 (.agg #[]) (.iface 193 (.agg ⟨[]⟩)) = some (.agg #[], false) from rfl, bsm]
 dsimp only
 rw [cond_false, show eS 192 (.agg #[]) (.iface 193 (.agg ⟨[]⟩)) = some (.agg #[], false) from rfl, bsm]
 dsimp only
 rw [cond_false, show eS 193 (.agg #[]) (.iface 193 (.agg ⟨[]⟩)) = some (.agg #[], true) from rfl, bsm]
 dsimp only
 rw [cond_true]
 by_cases h0 : x.N = 0
 ·rw [decide_eq_true h0, eQ, if_pos h0]; rfl
 ·rw [decide_eq_false h0, dD, if_neg h0]; rfl
theorem aGO {s : VS} (hs : WS p s) {n z : Int} {x : ScopeNode} (h : (x.Kids.length : Int) = 1) : iG m ⟨p, s.sz, s.met, s.dfs⟩ n z x (.iface 192 (.agg ⟨[]⟩)) = if 0 ≤ x.N ∧ x.N < (p.Defs.length : Int) ∧ idx s.dfs x.N = some false then kP m ⟨p, s.sz, s.met, s.dfs⟩ n z x 0 else some (.inr flaw) := by
 rw [iG, show hQ (.iface 192 (.agg ⟨[]⟩)) = some false from rfl, bsm, show (!false) = true from rfl, cond_true, show mM (.iface 192 (.agg ⟨[]⟩)) = some 1 from rfl, bsm, decide_eq_true h, eQ, bsm, bsm]
 dsimp only
 rw [show eS 190 (.agg #[]) (.iface 192 (.agg ⟨[]⟩)) = some (.agg #[], false) from rfl, bsm]
 dsimp only
 rw [cond_false, show eS 191 (.agg #[]) (.iface 192 (.agg ⟨[]⟩)) = some (.agg #[], false) from rfl, bsm]
 dsimp only
 rw [cond_false, show eS 192 (.agg #[]) (.iface 192 (.agg ⟨[]⟩)) = some (.agg #[], true) from rfl, bsm]
 dsimp only
 rw [cond_true]
 by_cases h0 : 0 ≤ x.N
 ·rw [if_pos h0]
  by_cases h1 : x.N < (p.Defs.length : Int)
  ·obtain ⟨b, hb⟩ := dU (xs := s.dfs) h0 (by rw [hs.dfs]; exact h1)
   rw [if_pos h1, hb, bsm]
   cases b with
   | false => rw [if_pos ⟨h0, h1, rfl⟩]; rfl
   | true => rw [if_neg (fun q => by cases q.2.2)]; rfl
  ·rw [if_neg h1, dD, if_neg (fun q => h1 q.2.1)]; rfl
 ·rw [if_neg h0, dD, if_neg (fun q => h0 q.1)]; rfl
theorem vis_go {s : VS} {n z : Int} {x : ScopeNode} (h : 0 ≤ n ∧ n < (p.Nodes.length : Int) ∧ idx s.met n = some false) (hx : idx p.Nodes n = some x) : (okN p s x z → vis p (f + 1) s n z = aY p f s n z x) ∧ (¬ okN p s x z → vis p (f + 1) s n z = none) := by
 constructor
 ·intro ho
  simp only [vis]
  rw [if_pos h, hx, bsm, if_pos ho]; rfl
 ·intro ho
  simp only [vis]
  rw [if_pos h, hx, bsm, if_neg ho]
theorem node_go (hp : SmP p) (hm : 3000000 ≤ m) (hv : Vis p f (fA m)) {s : VS} (hs : WS p s) {n z : Int} (hu : unm s ≤ f + 1) (hz : 0 ≤ z ∧ z + 69 + 80 * f ≤ 100000) (h : 0 ≤ n ∧ n < (p.Nodes.length : Int) ∧ idx s.met n = some false) :
  fA (m + 1) ⟨p, s.sz, s.met, s.dfs⟩ n z = some (jH p (vis p (f + 1) s n z)) := by
 obtain ⟨x, hx⟩ := dU h.1 h.2.1
 obtain ⟨v1, v2⟩ := vis_go (f := f) (z := z) h hx
 have hun : ∀ dfs, unm ⟨s.sz.set n.toNat z, s.met.set n.toNat true, dfs⟩ ≤ f := fun dfs => by
  have := aAP (p := p) (z := z) (dfs := dfs) h.1 h.2.2; omega
 have hN : ∀ {c k : Nat}, shp x.Op = some (k, c) → okM p s x z c → x.Op = 4 → 0 ≤ x.N ∧ x.N < (p.Defs.length : Int) := fun {c k} h1 h2 h4 => by
  rw [h4] at h1
  have : (1, 4) = (k, c) := Option.some.inj h1
  cases this; exact ⟨h2.1.1, h2.1.2.1⟩
 have fin : ∀ {k c : Nat} (x2 : Int), shp x.Op = some (k, c) → (x.Kids.length : Int) = k → ((x.Args.length : Int) = x2 → okM p s x z c) → (okM p s x z c → (x.Args.length : Int) = x2) → kP m ⟨p, s.sz, s.met, s.dfs⟩ n z x x2 = some (jH p (vis p (f + 1) s n z)) := fun {k c} x2 h1 h2 h3 h4 => by
  by_cases ha : (x.Args.length : Int) = x2
  ·rw [tail_eq hp hm hv hs (eF hx) hun hz (hN h1 (h3 ha)) ha]
   congr 2
   by_cases hall : x.Args.all (okE z) = true
   ·rw [if_pos hall, v1 ⟨⟨k, c, h1, by omega, h3 ha⟩, hall⟩]
   ·rw [if_neg hall, v2 (fun q => hall q.2)]
  ·rw [tail_bad ha, v2]; rfl
   rintro ⟨⟨k', c', g1, _, g3⟩, _⟩
   rw [h1] at g1; cases g1
   exact ha (h4 g3)
 have bad : ∀ {k c : Nat}, shp x.Op = some (k, c) → ¬ ((x.Kids.length : Int) = k ∧ okM p s x z c) → some (jH p (vis p (f + 1) s n z)) = some (.inr flaw) := fun {k c} h1 h2 => by
  rw [v2]; rfl
  rintro ⟨⟨k', c', g1, g2, g3⟩, _⟩
  rw [h1] at g1; cases g1
  exact h2 ⟨by omega, g3⟩
 by_cases o1 : x.Op = 1 ∨ x.Op = 7
 ·have hsh : shp x.Op = some (0, 0) := by unfold shp; rw [if_pos o1]
  rw [qL hs h hx (aGu o1)]
  by_cases hk : (x.Kids.length : Int) = 0
  ·rw [aCm hk]
   by_cases hn : x.N = 0
   ·rw [if_pos hn]; exact fin 0 hsh hk (fun q => ⟨hn, by omega⟩) (fun q => by have := q.2; omega)
   ·rw [if_neg hn, bad hsh (fun q => hn q.2.1)]
  ·rw [tP rfl rfl hk, bad hsh (fun q => hk q.1)]
 ·by_cases o3 : x.Op = 3
  ·have hsh : shp x.Op = some (2, 0) := by unfold shp; rw [if_neg o1, if_pos o3]
   rw [qL hs h hx (by rw [o3]; exact aFT)]
   by_cases hk : (x.Kids.length : Int) = 2
   ·rw [aCm hk]
    by_cases hn : x.N = 0
    ·rw [if_pos hn]; exact fin 0 hsh hk (fun q => ⟨hn, by omega⟩) (fun q => by have := q.2; omega)
    ·rw [if_neg hn, bad hsh (fun q => hn q.2.1)]
   ·rw [tP rfl rfl hk, bad hsh (fun q => hk q.1)]
  ·by_cases o2 : x.Op = 2
   ·have hsh : shp x.Op = some (0, 1) := by unfold shp; rw [if_neg o1, if_neg o3, if_pos o2]
    rw [qL hs h hx (by rw [o2]; exact aEW)]
    by_cases hk : (x.Kids.length : Int) = 0
    ·rw [aHy hk]
     by_cases hn : 0 ≤ x.N ∧ x.N < z
     ·rw [if_pos hn]; exact fin _ hsh hk (fun q => ⟨hn, by omega⟩) (fun q => by have := q.2; omega)
     ·rw [if_neg hn, bad hsh (fun q => hn q.2.1)]
    ·rw [tP rfl rfl hk, bad hsh (fun q => hk q.1)]
   ·by_cases o5 : x.Op = 5
    ·have hsh : shp x.Op = some (2, 2) := by unfold shp; rw [if_neg o1, if_neg o3, if_neg o2, if_pos o5]
     rw [qL hs h hx (by rw [o5]; exact aHa)]
     by_cases hk : (x.Kids.length : Int) = 2
     ·rw [aE9 hk]
      by_cases hn : x.N = 0
      ·rw [if_pos hn]; exact fin 1 hsh hk (fun q => ⟨hn, by omega⟩) (fun q => by have := q.2; omega)
      ·rw [if_neg hn, bad hsh (fun q => hn q.2.1)]
     ·rw [tP rfl rfl hk, bad hsh (fun q => hk q.1)]
    ·by_cases o6 : x.Op = 6 ∨ x.Op = 8
     ·have hsh : shp x.Op = some (1, 3) := by unfold shp; rw [if_neg o1, if_neg o3, if_neg o2, if_neg o5, if_pos o6]
      rw [qL hs h hx (aGz o6)]
      by_cases hk : (x.Kids.length : Int) = 1
      ·rw [aGF hk]
       by_cases hn : 0 ≤ x.N ∧ x.N < z
       ·rw [if_pos hn]; exact fin 0 hsh hk (fun q => ⟨hn, by omega⟩) (fun q => by have := q.2; omega)
       ·rw [if_neg hn, bad hsh (fun q => hn q.2.1)]
      ·rw [tP rfl rfl hk, bad hsh (fun q => hk q.1)]
     ·by_cases o4 : x.Op = 4
      ·have hsh : shp x.Op = some (1, 4) := by unfold shp; rw [if_neg o1, if_neg o3, if_neg o2, if_neg o5, if_neg o6, if_pos o4]
       rw [qL hs h hx (by rw [o4]; exact aHn)]
       by_cases hk : (x.Kids.length : Int) = 1
       ·rw [aGO hs hk]
        by_cases hn : 0 ≤ x.N ∧ x.N < (p.Defs.length : Int) ∧ idx s.dfs x.N = some false
        ·rw [if_pos hn]; exact fin 0 hsh hk (fun q => ⟨hn, by omega⟩) (fun q => by have := q.2; omega)
        ·rw [if_neg hn, bad hsh (fun q => hn q.2.1)]
       ·rw [tP rfl rfl hk, bad hsh (fun q => hk q.1)]
      ·have hsh : shp x.Op = none := by unfold shp; rw [if_neg o1, if_neg o3, if_neg o2, if_neg o5, if_neg o6, if_neg o4]
       rw [qL hs h hx (aFW hsh), mid_nil, v2]; rfl
       rintro ⟨⟨k', c', g1, _⟩, _⟩
       rw [hsh] at g1; cases g1
end
theorem xX {p : ScopeProg} {f : Nat} {s : VS} {n z : Int} (h : ¬ (0 ≤ n ∧ n < (p.Nodes.length : Int) ∧ idx s.met n = some false)) : vis p f s n z = none := by
 cases f with
 | zero => rfl
 | succ f => simp only [vis]; rw [if_neg h]
theorem aDU {s : VS} {n : Int} (h : idx s.met n = some false) : 0 < unm s := List.countP_pos_iff.2 ⟨false, eF h, rfl⟩
theorem pvis {p : ScopeProg} (hp : SmP p) {b : Nat} (hb : 3000000 ≤ b) (f : Nat) : Vis p f (fA (b + f + 1)) := by
 induction f with
 | zero =>
  refine ⟨fun s n z hs hu h0 h1 => ?_⟩
  have h : ¬ (0 ≤ n ∧ n < (p.Nodes.length : Int) ∧ idx s.met n = some false) := fun q => by have := aDU q.2.2; omega
  rw [aCs hs h, xX h]; rfl
 | succ f ih =>
  refine ⟨fun s n z hs hu h0 h1 => ?_⟩
  by_cases h : 0 ≤ n ∧ n < (p.Nodes.length : Int) ∧ idx s.met n = some false
  ·exact node_go hp (m := b + f + 1) (by omega) ih hs hu ⟨h0, by omega⟩ h
  ·rw [aCs hs h, xX h]; rfl
end Go.Proofs.YtmnbfgeljmhekaaGreat
set_option maxRecDepth 100000
namespace Go.Proofs.YtmnbfgeljmhekaaGreat
open Go.SX Go.SW Go.Dt
def ob (l : List Bool) : List Int := l.map fun b => if b = true then 1 else 0
theorem iR {l : List Bool} : (ob l).length = l.length := by simp [ob]
theorem aBM {l : List Bool} {i : Int} {b : Bool} (h : idx l i = some b) : idx (ob l) i = some (if b = true then 1 else 0) := by
 obtain ⟨j, rfl, hj, _⟩ := sY h
 exact dZ (by simp [ob, hj])
theorem ob_set {l : List Bool} {i : Nat} : ob (l.set i true) = (ob l).set i 1 := by simp [ob, List.map_set]
theorem ob_rep {n : Nat} : ob (List.replicate n false) = List.replicate n 0 := by simp [ob]
def ROut (p : ScopeProg) (o : Option VS) (L : Ref03_look) : Prop := match o with
 | some s => L = ⟨p, s.sz, ob s.met, ob s.dfs, false⟩
 | none => L.bad = true ∧ L.owner.length = p.Nodes.length ∧ L.users.length = p.Defs.length
structure RVis (p : ScopeProg) (f : Nat) (rec : Ref03_look → Int → Int → Option Ref03_look) : Prop where
 run : ∀ (s : VS) (n z : Int), WS p s → unm s ≤ f → 0 ≤ z → z + 80 * f ≤ 100000 → ∃ L, rec ⟨p, s.sz, ob s.met, ob s.dfs, false⟩ n z = some L ∧ ROut p (vis p f s n z) L
theorem aFm {ch : List ScopeChan} {sp : List ScopeSpot} {ru : List ScopeRule} {a nd : Int} (suf : List Int) : ∀ (pre : List Int) (k : Nat) (w : Int), suf.length < k → pre.length + suf.length ≤ 1000 → 0 ≤ w → w ≤ 100000 → (∀ c ∈ suf, ∃ y, idx ch c = some y ∧ 0 ≤ y.Many ∧ y.Many ≤ 3) → w + 3 * suf.length ≤ 100000 →
  oQ ⟨ch, sp, ru⟩ ⟨a, pre ++ suf, nd⟩ k w pre.length = some (w + brs ch suf) := by
 induction suf with
 | nil =>
  intro pre k w hk _ _ _ _ _
  obtain _ | k := k
  ·omega
  rw [oQ, if_neg (by simp)]; simp [brs]
 | cons e suf ih =>
  intro pre k w hk hB h0 h1 hm hw
  obtain _ | k := k
  ·omega
  simp only [List.length_cons] at hk hB hw
  obtain ⟨y, g1, g2, g3⟩ := hm e (.head _)
  rw [oQ, if_pos (cC _ _ _)]
  dsimp only
  rw [bX, bsm, g1, bsm, aV (by omega), bsm, aV (by omega), bsm, cA pre suf e, bT pre e, ih (pre ++ [e]) k _ (by omega) (by simp; omega) (by omega) (by omega) (fun c hc => hm c (.tail _ hc)) (by omega)]
  simp only [brs, g1]; congr 1; omega
theorem more_eq {fuel : Nat} {d : ScopeDef} {r : ScopeRule} (hf : 3000 ≤ fuel) (h : okD d = true) (hr : r ∈ d.Rules) : wT fuel d r = some (brs d.Chans r.Joins) := by
 obtain ⟨_, _, _, _, h5⟩ := eA h
 obtain ⟨g1, g2⟩ := h5 r hr
 have := aFm (ch := d.Chans) (sp := d.Spots) (ru := d.Rules) (a := r.At) (nd := r.Node) r.Joins [] fuel 0 (by omega) (by simp; omega) (by omega) (by omega) g2 (by omega)
 simp only [List.nil_append, List.length_nil, Int.natCast_zero] at this
 rw [wT, this, bsm]; congr 1; omega
theorem pS {rec : Ref03_look → Int → Int → Option Ref03_look} {y : ScopeNode} {z i : Int} {k : Nat} {a : List ByteArray} {b : List ScopeNode} {c : List ScopeDef} {d : Int} {sz ow us : List Int} :
  iV rec y z (k + 1) i a b c d sz ow us true = some ⟨⟨a, b, c, d⟩, sz, ow, us, true⟩ := by
 rw [iV]; split
 ·rw [cond_true]
 ·rfl
theorem d1_bad {fuel : Nat} {rec : Ref03_look → Int → Int → Option Ref03_look} {y : ScopeDef} {z i : Int} {k : Nat} {a : List ByteArray} {b : List ScopeNode} {c : List ScopeDef} {d : Int} {sz ow us : List Int} :
  lG fuel rec y z (k + 1) i a b c d sz ow us true = some (a, b, c, d, sz, ow, us, true) := by
 rw [lG]; split
 ·rw [cond_true]
 ·rfl
theorem aBD {rec : Ref03_look → Int → Int → Option Ref03_look} {y : ScopeDef} {z i : Int} {k : Nat} {a : List ByteArray} {b : List ScopeNode} {c : List ScopeDef} {d : Int} {sz ow us : List Int} :
  kO rec y z (k + 1) i a b c d sz ow us true = some ⟨⟨a, b, c, d⟩, sz, ow, us, true⟩ := by
 rw [kO]; split
 ·rw [cond_true]
 ·rfl
section
variable {p : ScopeProg} {f : Nat} {rec : Ref03_look → Int → Int → Option Ref03_look}
theorem rk2 (hv : RVis p f rec) {op nn : Int} {ar : List ScopeExp} {z : Int} (hz : 0 ≤ z ∧ z + 80 * f ≤ 100000) (suf : List Int) : ∀ (pre : List Int) (k : Nat) (s : VS), suf.length < k → pre.length + suf.length ≤ 3000000 → WS p s → unm s ≤ f →
  ∃ L, iV rec ⟨op, nn, ar, pre ++ suf⟩ z k pre.length p.Free p.Nodes p.Defs p.Main s.sz (ob s.met) (ob s.dfs) false = some L ∧ ROut p (cV (vis p f) s (suf.map fun k => (k, z))) L := by
 induction suf with
 | nil =>
  intro pre k s hk _ hs hu
  obtain _ | k := k
  ·omega
  exact ⟨_, by rw [iV, if_neg (by simp)], rfl⟩
 | cons e suf ih =>
  intro pre k s hk hB hs hu
  obtain _ | k := k
  ·omega
  simp only [List.length_cons] at hk hB
  obtain ⟨L, h1, h2⟩ := hv.run s e z hs hu hz.1 hz.2
  rw [iV, if_pos (cC _ _ _), cond_false]
  dsimp only
  rw [bX, bsm, show (⟨⟨p.Free, p.Nodes, p.Defs, p.Main⟩, s.sz, ob s.met, ob s.dfs, false⟩ : Ref03_look) = ⟨p, s.sz, ob s.met, ob s.dfs, false⟩ from rfl, h1, bsm, aV (by omega), bsm, cA pre suf e, bT pre e]
  simp only [List.map_cons, cV]
  cases hc : vis p f s e z with
  | none =>
   rw [hc] at h2
   obtain ⟨g1, g2, g3⟩ := h2
   obtain _ | k := k
   ·omega
   rw [g1, pS]
   exact ⟨_, rfl, rfl, g2, g3⟩
  | some s1 =>
   rw [hc] at h2
   have h2 : L = _ := h2
   subst h2
   obtain ⟨w1, u1⟩ := (visO p f).out _ _ _ _ hs hu hc
   rw [bsm]
   exact ih (pre ++ [e]) k s1 (by omega) (by simp; omega) w1 (by omega)
theorem rd2 (hv : RVis p f rec) {ch : List ScopeChan} {ru : List ScopeRule} {z : Int} (hz : 0 ≤ z ∧ z + 80 * f ≤ 100000) (suf : List ScopeSpot) : ∀ (pre : List ScopeSpot) (k : Nat) (s : VS), suf.length < k → pre.length + suf.length ≤ 3000000 → WS p s → unm s ≤ f →
  ∃ L, kO rec ⟨ch, pre ++ suf, ru⟩ z k pre.length p.Free p.Nodes p.Defs p.Main s.sz (ob s.met) (ob s.dfs) false = some L ∧ ROut p (cV (vis p f) s (suf.map fun y => (y.Node, z))) L := by
 induction suf with
 | nil =>
  intro pre k s hk _ hs hu
  obtain _ | k := k
  ·omega
  exact ⟨_, by rw [kO, if_neg (by simp)], rfl⟩
 | cons e suf ih =>
  intro pre k s hk hB hs hu
  obtain _ | k := k
  ·omega
  simp only [List.length_cons] at hk hB
  obtain ⟨L, h1, h2⟩ := hv.run s e.Node z hs hu hz.1 hz.2
  rw [kO, if_pos (cC _ _ _), cond_false]
  dsimp only
  rw [bX, bsm, show (⟨⟨p.Free, p.Nodes, p.Defs, p.Main⟩, s.sz, ob s.met, ob s.dfs, false⟩ : Ref03_look) = ⟨p, s.sz, ob s.met, ob s.dfs, false⟩ from rfl, h1, bsm, aV (by omega), bsm, cA pre suf e, bT pre e]
  simp only [List.map_cons, cV]
  cases hc : vis p f s e.Node z with
  | none =>
   rw [hc] at h2
   obtain ⟨g1, g2, g3⟩ := h2
   obtain _ | k := k
   ·omega
   rw [g1, aBD]
   exact ⟨_, rfl, rfl, g2, g3⟩
  | some s1 =>
   rw [hc] at h2
   have h2 : L = _ := h2
   subst h2
   obtain ⟨w1, u1⟩ := (visO p f).out _ _ _ _ hs hu hc
   rw [bsm]
   exact ih (pre ++ [e]) k s1 (by omega) (by simp; omega) w1 (by omega)
abbrev T8 := List ByteArray × List ScopeNode × List ScopeDef × Int × List Int × List Int × List Int × Bool
def ROut8 (p : ScopeProg) (o : Option VS) (t : T8) : Prop := match o with
 | some s => t = (p.Free, p.Nodes, p.Defs, p.Main, s.sz, ob s.met, ob s.dfs, false)
 | none => t.2.2.2.2.2.2.2 = true ∧ t.2.2.2.2.2.1.length = p.Nodes.length ∧ t.2.2.2.2.2.2.1.length = p.Defs.length
theorem rd1 (hv : RVis p f rec) {fuel : Nat} {d : ScopeDef} (hd : okD d = true) (hf : 3000 ≤ fuel) {z : Int} (hz : 0 ≤ z ∧ z + 9 + 80 * f ≤ 100000) (suf : List ScopeRule) : ∀ (pre : List ScopeRule) (k : Nat) (s : VS), d.Rules = pre ++ suf → suf.length < k → pre.length + suf.length ≤ 3000000 → WS p s → unm s ≤ f →
  ∃ t, lG fuel rec d z k pre.length p.Free p.Nodes p.Defs p.Main s.sz (ob s.met) (ob s.dfs) false = some t ∧ ROut8 p (cV (vis p f) s (suf.map fun r => (r.Node, z + brs d.Chans r.Joins))) t := by
 induction suf with
 | nil =>
  intro pre k s he hk _ hs hu
  obtain _ | k := k
  ·omega
  exact ⟨_, by rw [lG, he, if_neg (by simp)], rfl⟩
 | cons e suf ih =>
  intro pre k s he hk hB hs hu
  obtain _ | k := k
  ·omega
  simp only [List.length_cons] at hk hB
  have hmem : e ∈ d.Rules := by rw [he]; simp
  obtain ⟨_, _, _, _, h5⟩ := eA hd
  obtain ⟨g1, g2⟩ := h5 e hmem
  have hb := qN g2
  obtain ⟨L, h1, h2⟩ := hv.run s e.Node (z + brs d.Chans e.Joins) hs hu (by omega) (by omega)
  rw [lG, he, if_pos (cC _ _ _), ← he, cond_false, show idx d.Rules (pre.length : Int) = some e from by rw [he]; exact bX _ _ _, bsm, bsm,
   show (⟨d.Chans, d.Spots, d.Rules⟩ : ScopeDef) = d from rfl, more_eq hf hd hmem, bsm, aV (by omega), bsm,
   show (⟨⟨p.Free, p.Nodes, p.Defs, p.Main⟩, s.sz, ob s.met, ob s.dfs, false⟩ : Ref03_look) = ⟨p, s.sz, ob s.met, ob s.dfs, false⟩ from rfl, h1, bsm, aV (by omega), bsm, bT pre e]
  simp only [List.map_cons, cV]
  cases hc : vis p f s e.Node (z + brs d.Chans e.Joins) with
  | none =>
   rw [hc] at h2
   obtain ⟨g1, g2, g3⟩ := h2
   obtain _ | k := k
   ·omega
   rw [g1, d1_bad]
   exact ⟨_, rfl, rfl, g2, g3⟩
  | some s1 =>
   rw [hc] at h2
   have h2 : L = _ := h2
   subst h2
   obtain ⟨w1, u1⟩ := (visO p f).out _ _ _ _ hs hu hc
   rw [bsm]
   exact ih (pre ++ [e]) k s1 (by rw [he]; simp) (by omega) (by simp; omega) w1 (by omega)
theorem rdef {m : Nat} (hv : RVis p f (eT m)) {d : ScopeDef} (hd : okD d = true) (hsm : smD d) (hm : 3000000 ≤ m) {z : Int} (hz : 0 ≤ z ∧ z + 9 + 80 * f ≤ 100000) {s : VS} (hs : WS p s) (hu : unm s ≤ f) :
  ∃ L, nZ (m + 1) ⟨p, s.sz, ob s.met, ob s.dfs, false⟩ d z = some L ∧ ROut p ((cV (vis p f) s (d.Rules.map fun r => (r.Node, z + brs d.Chans r.Joins))).bind fun s1 => cV (vis p f) s1 (d.Spots.map fun y => (y.Node, z))) L := by
 obtain ⟨c1, c2, c3, _⟩ := hsm
 obtain ⟨t, h1, h2⟩ := rd1 hv hd (fuel := m) (by omega) hz d.Rules [] m s rfl (by omega) (by simp; omega) hs hu
 simp only [List.length_nil, Int.natCast_zero] at h1
 rw [nZ, h1, bsm]
 cases hc : cV (vis p f) s (d.Rules.map fun r => (r.Node, z + brs d.Chans r.Joins)) with
 | none =>
  rw [hc] at h2
  obtain ⟨a, b, c, e, sz, ow, us, bd⟩ := t
  obtain ⟨g1, g2, g3⟩ := h2
  dsimp only at g1 g2 g3
  subst g1
  obtain ⟨m, rfl⟩ : ∃ k, m = k + 1 := ⟨m - 1, by omega⟩
  dsimp only
  rw [aBD]
  exact ⟨_, rfl, rfl, g2, g3⟩
 | some s1 =>
  rw [hc] at h2
  have h2 : t = _ := h2
  subst h2
  obtain ⟨w1, u1⟩ := lS (visO p f) _ _ _ hs hu hc
  obtain ⟨L, h3, h4⟩ := rd2 hv (ch := d.Chans) (ru := d.Rules) (z := z) ⟨by omega, by omega⟩ d.Spots [] m s1 (by omega) (by simp; omega) w1 (by omega)
  simp only [List.nil_append, List.length_nil, Int.natCast_zero] at h3
  exact ⟨L, h3, h4⟩
theorem rdef_bad {m : Nat} (hm : 0 < m) {L : Ref03_look} (hb : L.bad = true) {d : ScopeDef} {z : Int} : nZ (m + 1) L d z = some L := by
 obtain ⟨k, rfl⟩ : ∃ k, m = k + 1 := ⟨m - 1, by omega⟩
 obtain ⟨q, sz, ow, us, bd⟩ := L
 dsimp only at hb
 subst hb
 rw [nZ]
 dsimp only
 rw [d1_bad, bsm]
 dsimp only
 rw [aBD]
end
theorem rn1_bad {fuel : Nat} {op nn : Int} {ks : List Int} {z : Int} (suf : List ScopeExp) : ∀ (pre : List ScopeExp) (k : Nat), suf.length < k → pre.length + suf.length ≤ 3000000 →
  iO fuel z ⟨op, nn, pre ++ suf, ks⟩ k pre.length true = some true := by
 induction suf with
 | nil =>
  intro pre k hk _
  obtain _ | k := k
  ·omega
  rw [iO, if_neg (by simp)]
 | cons e suf ih =>
  intro pre k hk hB
  obtain _ | k := k
  ·omega
  simp only [List.length_cons] at hk hB
  rw [iO, if_pos (cC _ _ _), cond_true, bsm, aV (by omega), bsm, cA pre suf e, bT pre e]
  exact ih (pre ++ [e]) k (by omega) (by simp; omega)
theorem rn1 {fuel : Nat} (hf : 3000000 ≤ fuel) {op nn : Int} {ks : List Int} {z : Int} (suf : List ScopeExp) : ∀ (pre : List ScopeExp) (k : Nat), suf.length < k → pre.length + suf.length ≤ 3000000 → (∀ e ∈ suf, nE e ≤ 2000000) →
  iO fuel z ⟨op, nn, pre ++ suf, ks⟩ k pre.length false = some (!suf.all (okE z)) := by
 induction suf with
 | nil =>
  intro pre k hk _ _
  obtain _ | k := k
  ·omega
  rw [iO, if_neg (by simp)]; rfl
 | cons e suf ih =>
  intro pre k hk hB he
  obtain _ | k := k
  ·omega
  simp only [List.length_cons] at hk hB
  have hn := he e (.head _)
  rw [iO, if_pos (cC _ _ _), cond_false, show (e :: suf).all (okE z) = (okE z e && suf.all (okE z)) from rfl]
  dsimp only
  rw [bX, bsm, aGX (by omega) (by omega), bsm, bsm, aV (by omega), bsm, cA pre suf e, bT pre e]
  cases h1 : okE z e with
  | false => exact rn1_bad suf (pre ++ [e]) k (by omega) (by simp; omega)
  | true =>
   rw [Bool.true_and]
   exact ih (pre ++ [e]) k (by omega) (by simp; omega) (fun x hx => he x (.tail _ hx))
end Go.Proofs.YtmnbfgeljmhekaaGreat
set_option maxRecDepth 100000
namespace Go.Proofs.YtmnbfgeljmhekaaGreat
open Go.SX Go.SW Go.Dt
def tailR (fuel : Nat) (a0 : Ref03_look) (a1 a2 z1 : Int) (y5 : ScopeNode) : Option Ref03_look :=
 (iO fuel a2 y5 fuel 0 a0.bad).bind fun x1 =>
 ((if y5.Op = 2 then
  some (decide (y5.Op = 2))
 else
  if y5.Op = 6 then
   some (decide (y5.Op = 6))
  else
   some (decide (y5.Op = 8))).bind fun x16 =>
 bif x16 then
  bif x1 then
   some (Sum.inl (a2, a0.p.Free, a0.p.Nodes, a0.p.Defs, a0.p.Main, a0.sizes.set a1.toNat a2, a0.owner.set a1.toNat z1, a0.users, true))
  else
   if y5.N < 0 then
    some (Sum.inl (a2, a0.p.Free, a0.p.Nodes, a0.p.Defs, a0.p.Main, a0.sizes.set a1.toNat a2, a0.owner.set a1.toNat z1, a0.users, true))
   else
    some (Sum.inl (a2, a0.p.Free, a0.p.Nodes, a0.p.Defs, a0.p.Main, a0.sizes.set a1.toNat a2, a0.owner.set a1.toNat z1, a0.users, decide (a2 ≤ y5.N)))
 else
  if y5.Op = 4 then
   if y5.N < 0 then
    (some (⟨(⟨a0.p.Free, a0.p.Nodes, a0.p.Defs, a0.p.Main⟩ : ScopeProg), a0.sizes.set a1.toNat a2, a0.owner.set a1.toNat z1, a0.users, true⟩ : Ref03_look)).bind fun r => some (Sum.inr r)
   else
    if (a0.p.Defs.length : Int) ≤ y5.N then
     (some (⟨(⟨a0.p.Free, a0.p.Nodes, a0.p.Defs, a0.p.Main⟩ : ScopeProg), a0.sizes.set a1.toNat a2, a0.owner.set a1.toNat z1, a0.users, true⟩ : Ref03_look)).bind fun r => some (Sum.inr r)
    else
     (idx a0.users y5.N).bind fun y9 =>
     if 0 < y9 then
      (some (⟨(⟨a0.p.Free, a0.p.Nodes, a0.p.Defs, a0.p.Main⟩ : ScopeProg), a0.sizes.set a1.toNat a2, a0.owner.set a1.toNat z1, a0.users, true⟩ : Ref03_look)).bind fun r => some (Sum.inr r)
     else
      (idx a0.users y5.N).bind fun y10 =>
      (chk (y10 + 1)).bind fun z3 =>
      (idx a0.users y5.N).bind fun _ =>
      (idx a0.p.Defs y5.N).bind fun y12 =>
      (sS y12).bind fun y13 =>
      (chk (a2 + y13)).bind fun z4 =>
      (idx a0.p.Defs y5.N).bind fun y14 =>
      ((nZ fuel) (⟨(⟨a0.p.Free, a0.p.Nodes, a0.p.Defs, a0.p.Main⟩ : ScopeProg), a0.sizes.set a1.toNat a2, a0.owner.set a1.toNat z1, a0.users.set y5.N.toNat z3, x1⟩ : Ref03_look) y14 z4).bind fun y15 =>
      some (Sum.inl (z4, y15.p.Free, y15.p.Nodes, y15.p.Defs, y15.p.Main, y15.sizes, y15.owner, y15.users, y15.bad))
  else
   bif x1 then
    some (Sum.inl (a2, a0.p.Free, a0.p.Nodes, a0.p.Defs, a0.p.Main, a0.sizes.set a1.toNat a2, a0.owner.set a1.toNat z1, a0.users, true))
   else
    some (Sum.inl (a2, a0.p.Free, a0.p.Nodes, a0.p.Defs, a0.p.Main, a0.sizes.set a1.toNat a2, a0.owner.set a1.toNat z1, a0.users, decide (y5.N ≠ 0)))).bind fun o => match o with
 | Sum.inr r => some r
 | Sum.inl (x7, x8, x9, x10, x11, x12, x13, x14, x15) =>
 iV (eT fuel) y5 x7 fuel 0 x8 x9 x10 x11 x12 x13 x14 x15
theorem rown_eq {d : ScopeDef} (h : d.Chans.length ≤ 2000000) (h2 : d.Spots.length ≤ 2000000) : sS d = some (own d) := by
 rw [sS, aV (by omega), bsm]; rfl
def jN (p : ScopeProg) (s : VS) (x : ScopeNode) (z : Int) : Prop :=
 if x.Op = 2 ∨ x.Op = 6 ∨ x.Op = 8 then 0 ≤ x.N ∧ x.N < z else if x.Op = 4 then 0 ≤ x.N ∧ x.N < (p.Defs.length : Int) ∧ idx s.dfs x.N = some false else x.N = 0
section
variable {p : ScopeProg} {f m : Nat}
theorem iT {q : ScopeProg} {sz ow us : List Int} (h1 : ow.length = p.Nodes.length) (h2 : us.length = p.Defs.length) : ROut p none ⟨q, sz, ow, us, true⟩ := ⟨rfl, h1, h2⟩
open Classical in
theorem tailR_eq (hp : SmP p) (hall : ∀ d ∈ p.Defs, okD d = true) (hm : 3000001 ≤ m) (hv : RVis p f (eT m)) (hv' : RVis p f (eT (m - 1))) {s : VS} (hs : WS p s) {n z : Int} {x : ScopeNode} (hx : x ∈ p.Nodes)
  (hun : ∀ dfs, unm ⟨s.sz.set n.toNat z, s.met.set n.toNat true, dfs⟩ ≤ f) (hz : 0 ≤ z ∧ z + 69 + 80 * f ≤ 100000) :
  ∃ L, tailR m ⟨p, s.sz, ob s.met, ob s.dfs, false⟩ n z 1 x = some L ∧ ROut p (if x.Args.all (okE z) = true ∧ jN p s x z then aY p f s n z x else none) L := by
 obtain ⟨op, nn, ar, ks⟩ := x
 obtain ⟨g1, g2, g3⟩ := hp.args _ hx
 dsimp only at g1 g2 g3
 obtain ⟨m', rfl⟩ : ∃ k, m = k + 1 := ⟨m - 1, by omega⟩
 simp only [Nat.add_sub_cancel] at hv'
 have e1 := rn1 (fuel := m' + 1) (by omega) (op := op) (nn := nn) (ks := ks) (z := z) ar [] (m' + 1) (by omega) (by simp; omega) g3
 simp only [List.nil_append, List.length_nil, Int.natCast_zero] at e1
 have hsets : (ob s.met).set n.toNat 1 = ob (s.met.set n.toNat true) := ob_set.symm
 have hl1 : ((ob s.met).set n.toNat 1).length = p.Nodes.length := by simp [iR, hs.met]
 have hl2 : (ob s.dfs).length = p.Defs.length := by rw [iR, hs.dfs]
 rw [tailR]
 dsimp only
 rw [e1, bsm]
 have iM : ∀ (zz : Int) (s1 : VS), 0 ≤ zz → zz + 80 * f ≤ 100000 → WS p s1 → unm s1 ≤ f → ∃ L, iV (eT (m' + 1)) ⟨op, nn, ar, ks⟩ zz (m' + 1) 0 p.Free p.Nodes p.Defs p.Main s1.sz (ob s1.met) (ob s1.dfs) false = some L ∧ ROut p (cV (vis p f) s1 (ks.map fun k => (k, zz))) L := fun zz s1 a b c d => by
  have := rk2 hv (op := op) (nn := nn) (ar := ar) (z := zz) ⟨a, b⟩ ks [] (m' + 1) s1 (by omega) (by simp; omega) c d
  simpa only [List.nil_append, List.length_nil, Int.natCast_zero] using this
 have w1 := (rI hs (p := p) (i := n.toNat) (j := 0) (z := z)).1
 have hne4 : op ≠ 4 → aY p f s n z ⟨op, nn, ar, ks⟩ = cV (vis p f) ⟨s.sz.set n.toNat z, s.met.set n.toNat true, s.dfs⟩ (ks.map fun k => (k, z)) := fun h => by rw [aY, if_neg h]
 by_cases o2 : op = 2 ∨ op = 6 ∨ op = 8
 ·have hb : ((if op = 2 then some (decide (op = 2)) else if op = 6 then some (decide (op = 6)) else some (decide (op = 8))) : Option Bool) = some true := by
   rcases o2 with rfl | rfl | rfl <;> rfl
  have hk : jN p s ⟨op, nn, ar, ks⟩ z ↔ (0 ≤ nn ∧ nn < z) := by unfold jN; rw [if_pos o2]
  rw [hb, bsm, cond_true]
  cases hall2 : ar.all (okE z) with
  | false =>
   rw [Bool.not_false, cond_true, bsm]
   dsimp only
   rw [pS, if_neg (fun q => by cases q.1)]
   exact ⟨_, rfl, iT hl1 hl2⟩
  | true =>
   rw [Bool.not_true, cond_false]
   by_cases n0 : nn < 0
   ·rw [if_pos n0, bsm]
    dsimp only
    rw [pS, if_neg (fun q => by have := hk.1 q.2; omega)]
    exact ⟨_, rfl, iT hl1 hl2⟩
   ·rw [if_neg n0, bsm]
    dsimp only
    by_cases n1 : z ≤ nn
    ·rw [decide_eq_true n1, pS, if_neg (fun q => by have := hk.1 q.2; omega)]
     exact ⟨_, rfl, iT hl1 hl2⟩
    ·rw [decide_eq_false n1, if_pos ⟨rfl, hk.2 ⟨by omega, by omega⟩⟩, hne4 (by omega), hsets]
     exact iM z ⟨s.sz.set n.toNat z, s.met.set n.toNat true, s.dfs⟩ hz.1 (by omega) w1 (hun _)
 ·have hb : ((if op = 2 then some (decide (op = 2)) else if op = 6 then some (decide (op = 6)) else some (decide (op = 8))) : Option Bool) = some false := by
   rw [if_neg (by omega), if_neg (by omega), decide_eq_false (by omega)]
  rw [hb, bsm, cond_false]
  by_cases o4 : op = 4
  ·subst o4
   have hk : jN p s ⟨4, nn, ar, ks⟩ z ↔ (0 ≤ nn ∧ nn < (p.Defs.length : Int) ∧ idx s.dfs nn = some false) := by unfold jN; rw [if_neg o2, if_pos rfl]
   rw [if_pos rfl]
   by_cases n0 : nn < 0
   ·rw [if_pos n0, bsm, bsm]
    dsimp only
    rw [if_neg (fun q => by have := hk.1 q.2; omega)]
    exact ⟨_, rfl, iT hl1 hl2⟩
   ·rw [if_neg n0]
    by_cases n1 : (p.Defs.length : Int) ≤ nn
    ·rw [if_pos n1, bsm, bsm]
     dsimp only
     rw [if_neg (fun q => by have := hk.1 q.2; omega)]
     exact ⟨_, rfl, iT hl1 hl2⟩
    ·rw [if_neg n1]
     obtain ⟨b, hbb⟩ := dU (xs := s.dfs) (show 0 ≤ nn by omega) (by rw [hs.dfs]; omega)
     obtain ⟨d, hd⟩ := dU (xs := p.Defs) (show 0 ≤ nn by omega) (by omega)
     have hok := hall d (eF hd)
     have hsm := hp.dfs d (eF hd)
     obtain ⟨k1, k2, k3, _, _⟩ := eA hok
     have hown : 0 ≤ own d ∧ own d ≤ 60 := by unfold own; omega
     rw [aBM hbb, bsm]
     cases b with
     | true =>
      rw [if_pos rfl, if_pos (by omega), bsm, bsm]
      dsimp only
      rw [if_neg (fun q => by have := (hk.1 q.2).2.2; rw [hbb] at this; cases this)]
      exact ⟨_, rfl, iT hl1 hl2⟩
     | false =>
      have hkk : jN p s ⟨4, nn, ar, ks⟩ z := hk.2 ⟨by omega, by omega, hbb⟩
      rw [if_neg Bool.false_ne_true, if_neg (by omega), bsm, aV (by omega), bsm, bsm, hd, bsm, rown_eq (by omega) (by omega), bsm, aV (by omega), bsm, bsm]
      have hsetd : (ob s.dfs).set nn.toNat (0 + 1) = ob (s.dfs.set nn.toNat true) := ob_set.symm
      have w2 := (rI hs (p := p) (i := n.toNat) (j := nn.toNat) (z := z)).2
      rw [hsets, hsetd]
      cases hall2 : ar.all (okE z) with
      | false =>
       rw [Bool.not_false, rdef_bad (by omega) rfl, bsm, bsm]
       dsimp only
       rw [pS, if_neg (fun q => by cases q.1)]
       exact ⟨_, rfl, iT (by rw [← hsets]; exact hl1) (by rw [iR]; simp [hs.dfs])⟩
      | true =>
       rw [Bool.not_true, if_pos ⟨rfl, hkk⟩]
       obtain ⟨L, h1, h2⟩ := rdef hv' hok hsm (by omega) (z := z + own d) ⟨by omega, by omega⟩ w2 (hun (s.dfs.set nn.toNat true))
       rw [show (⟨⟨p.Free, p.Nodes, p.Defs, p.Main⟩, s.sz.set n.toNat z, ob (s.met.set n.toNat true), ob (s.dfs.set nn.toNat true), false⟩ : Ref03_look) = ⟨p, s.sz.set n.toNat z, ob (s.met.set n.toNat true), ob (s.dfs.set nn.toNat true), false⟩ from rfl, h1, bsm, bsm]
       dsimp only
       have hres : aY p f s n z ⟨4, nn, ar, ks⟩ = ((cV (vis p f) ⟨s.sz.set n.toNat z, s.met.set n.toNat true, s.dfs.set nn.toNat true⟩ (d.Rules.map fun r => (r.Node, z + own d + brs d.Chans r.Joins))).bind fun s1 => cV (vis p f) s1 (d.Spots.map fun y => (y.Node, z + own d))).bind fun s2 => cV (vis p f) s2 (ks.map fun k => (k, z + own d)) := by
        rw [aY, if_pos rfl]; dsimp only; rw [hd, bsm, if_pos hok, Option.bind_assoc]
       rw [hres]
       cases hc : (cV (vis p f) ⟨s.sz.set n.toNat z, s.met.set n.toNat true, s.dfs.set nn.toNat true⟩ (d.Rules.map fun r => (r.Node, z + own d + brs d.Chans r.Joins))).bind fun s1 => cV (vis p f) s1 (d.Spots.map fun y => (y.Node, z + own d)) with
       | none =>
        rw [hc] at h2
        obtain ⟨q1, q2, q3⟩ := h2
        rw [q1, pS]
        exact ⟨_, rfl, rfl, q2, q3⟩
       | some s2 =>
        rw [hc] at h2
        have h2 : L = _ := h2
        subst h2
        obtain ⟨s1, a1, a2⟩ := bind_some hc
        obtain ⟨b1, b2⟩ := lS (visO p f) _ _ _ w2 (hun _) a1
        have := hun (s.dfs.set nn.toNat true)
        obtain ⟨c1, c2⟩ := lS (visO p f) _ _ _ b1 (by omega) a2
        rw [bsm]
        exact iM (z + own d) s2 (by omega) (by omega) c1 (by omega)
  ·have hk : jN p s ⟨op, nn, ar, ks⟩ z ↔ nn = 0 := by unfold jN; rw [if_neg o2, if_neg o4]
   rw [if_neg o4]
   cases hall2 : ar.all (okE z) with
   | false =>
    rw [Bool.not_false, cond_true, bsm]
    dsimp only
    rw [pS, if_neg (fun q => by cases q.1)]
    exact ⟨_, rfl, iT hl1 hl2⟩
   | true =>
    rw [Bool.not_true, cond_false, bsm]
    dsimp only
    by_cases n1 : nn ≠ 0
    ·rw [decide_eq_true n1, pS, if_neg (fun q => n1 (hk.1 q.2))]
     exact ⟨_, rfl, iT hl1 hl2⟩
    ·rw [decide_eq_false n1, if_pos ⟨rfl, hk.2 (by omega)⟩, hne4 o4, hsets]
     exact iM z ⟨s.sz.set n.toNat z, s.met.set n.toNat true, s.dfs⟩ hz.1 (by omega) w1 (hun _)
theorem aFJ {op : Int} {k c : Nat} (h : shp op = some (k, c)) : tS op = some (if c = 1 then -1 else if c = 2 then 1 else 0, (k : Int), true) := by
 unfold shp at h
 split at h
 ·rename_i h1; cases h; rcases h1 with rfl | rfl <;> rfl
 split at h
 ·rename_i h1; cases h; subst h1; rfl
 split at h
 ·rename_i h1; cases h; subst h1; rfl
 split at h
 ·rename_i h1; cases h; subst h1; rfl
 split at h
 ·rename_i h1; cases h; rcases h1 with rfl | rfl <;> rfl
 split at h
 ·rename_i h1; cases h; subst h1; rfl
 ·cases h
theorem aFe {op : Int} (h : shp op = none) : tS op = some (0, 0, false) := by
 unfold shp at h
 rw [tS]
 split at h; · cases h
 split at h; · cases h
 split at h; · cases h
 split at h; · cases h
 split at h; · cases h
 split at h; · cases h
 rename_i h1 h2 h3 h4 h5 h6
 rw [if_neg (by omega), bsm, decide_eq_false (by omega), cond_false, if_neg h3, if_neg h2, if_neg h4, if_neg h6, if_neg (by omega), bsm, decide_eq_false (by omega), cond_false]
def pK (c : Nat) (l : Nat) : Prop := if c = 1 then l ≤ 3 else if c = 2 then l = 1 else l = 0
theorem aA5 {s : VS} {x : ScopeNode} {z : Int} {k c : Nat} (h : shp x.Op = some (k, c)) : okM p s x z c ↔ jN p s x z ∧ pK c x.Args.length := by
 have h0 := h
 unfold shp at h
 unfold jN pK
 split at h
 ·rename_i h1; cases h; rw [if_neg (by omega), if_neg (by omega)]; simp [okM]
 split at h
 ·rename_i h1; cases h; rw [if_neg (by omega), if_neg (by omega)]; simp [okM]
 split at h
 ·rename_i h1; cases h; rw [if_pos (.inl h1)]; simp [okM]
 split at h
 ·rename_i h1; cases h; rw [if_neg (by omega), if_neg (by omega)]; simp [okM]
 split at h
 ·rename_i h1; cases h; rw [if_pos (.inr h1)]; simp [okM]
 split at h
 ·rename_i h1; cases h; rw [if_neg (by omega), if_pos h1]; simp [okM]
 ·cases h
open Classical in
theorem rnode_go (hp : SmP p) (hall : ∀ d ∈ p.Defs, okD d = true) (hm : 3000001 ≤ m) (hv : RVis p f (eT m)) (hv' : RVis p f (eT (m - 1))) {s : VS} (hs : WS p s) {n z : Int} (hu : unm s ≤ f + 1) (hz : 0 ≤ z ∧ z + 69 + 80 * f ≤ 100000) (h : 0 ≤ n ∧ n < (p.Nodes.length : Int) ∧ idx s.met n = some false) :
  ∃ L, eT (m + 1) ⟨p, s.sz, ob s.met, ob s.dfs, false⟩ n z = some L ∧ ROut p (vis p (f + 1) s n z) L := by
 obtain ⟨x, hx⟩ := dU h.1 h.2.1
 obtain ⟨v1, v2⟩ := vis_go (f := f) (z := z) h hx
 have hun : ∀ dfs, unm ⟨s.sz.set n.toNat z, s.met.set n.toNat true, dfs⟩ ≤ f := fun dfs => by
  have := aAP (p := p) (z := z) (dfs := dfs) h.1 h.2.2; omega
 obtain ⟨b, hb⟩ := dU (xs := s.sz) h.1 (by rw [hs.sz]; exact h.2.1)
 have hl1 : ((ob s.met).set n.toNat 1).length = p.Nodes.length := by simp [iR, hs.met]
 have hl2 : (ob s.dfs).length = p.Defs.length := by rw [iR, hs.dfs]
 have hgo := tailR_eq hp hall hm hv hv' hs (n := n) (z := z) (eF hx) hun hz
 rw [eT]
 dsimp only
 rw [if_neg (by omega), if_neg (by omega), aBM h.2.2, bsm, if_neg Bool.false_ne_true, if_neg (by omega), bsm, aV (by omega), bsm, bsm, hb, bsm, hx, bsm]
 cases hsh : shp x.Op with
 | none =>
  rw [aFe hsh, bsm]
  dsimp only
  rw [Bool.not_false, cond_true, bsm, bsm, v2 (by rintro ⟨⟨k, c, g, _⟩, _⟩; rw [hsh] at g; cases g)]
  exact ⟨_, rfl, iT hl1 hl2⟩
 | some kc =>
  obtain ⟨k, c⟩ := kc
  rw [aFJ hsh, bsm]
  dsimp only
  rw [Bool.not_true, cond_false]
  by_cases hk : (x.Kids.length : Int) ≠ (k : Int)
  ·rw [if_pos hk, bsm, bsm, v2 (by rintro ⟨⟨k', c', g, g2, _⟩, _⟩; rw [hsh] at g; cases g; omega)]
   exact ⟨_, rfl, iT hl1 hl2⟩
  ·rw [if_neg hk]
   have hfin : (if x.Args.all (okE z) = true ∧ jN p s x z then aY p f s n z x else none) = vis p (f + 1) s n z ∨ ¬ pK c x.Args.length := by
    by_cases ha : pK c x.Args.length
    ·left
     by_cases hq : x.Args.all (okE z) = true ∧ jN p s x z
     ·rw [if_pos hq, v1 ⟨⟨k, c, hsh, by omega, (aA5 hsh).2 ⟨hq.2, ha⟩⟩, hq.1⟩]
     ·rw [if_neg hq, v2]
      rintro ⟨⟨k', c', g, _, g3⟩, g4⟩
      rw [hsh] at g; cases g
      exact hq ⟨g4, ((aA5 hsh).1 g3).1⟩
    ·exact .inr ha
   have hbad : ¬ pK c x.Args.length → vis p (f + 1) s n z = none := fun ha => v2 (by
    rintro ⟨⟨k', c', g, _, g3⟩, _⟩
    rw [hsh] at g; cases g
    exact ha ((aA5 hsh).1 g3).2)
   obtain ⟨L, e1, e2⟩ := hgo
   by_cases ha : pK c x.Args.length
   ·rw [hfin.resolve_right (fun q => q ha)] at e2
    refine ⟨L, ?_, e2⟩
    rw [← e1]
    unfold pK at ha
    by_cases c1 : c = 1
    ·rw [if_pos c1] at ha ⊢
     rw [if_pos (by omega), if_neg (by omega), if_neg (by omega), bsm]; rfl
    ·rw [if_neg c1] at ha ⊢
     by_cases c2 : c = 2
     ·rw [if_pos c2] at ha ⊢
      rw [if_neg (by omega), if_pos (by omega), if_neg (by omega), bsm]; rfl
     ·rw [if_neg c2] at ha ⊢
      rw [if_neg (by omega), if_pos (by omega), if_neg (by omega), bsm]; rfl
   ·rw [hbad ha]
    refine ⟨⟨p, s.sz.set n.toNat z, (ob s.met).set n.toNat 1, ob s.dfs, true⟩, ?_, iT hl1 hl2⟩
    unfold pK at ha
    by_cases c1 : c = 1
    ·rw [if_pos c1] at ha ⊢
     rw [if_pos (by omega), if_pos (by omega), bsm, bsm]; rfl
    ·rw [if_neg c1] at ha ⊢
     by_cases c2 : c = 2
     ·rw [if_pos c2] at ha ⊢
      rw [if_neg (by omega), if_pos (by omega), if_pos (by omega), bsm, bsm]; rfl
     ·rw [if_neg c2] at ha ⊢
      rw [if_neg (by omega), if_pos (by omega), if_pos (by omega), bsm, bsm]; rfl
theorem aDW {s : VS} (hs : WS p s) {n z : Int} (h : ¬ (0 ≤ n ∧ n < (p.Nodes.length : Int) ∧ idx s.met n = some false)) : ∃ L, eT (m + 1) ⟨p, s.sz, ob s.met, ob s.dfs, false⟩ n z = some L ∧ ROut p none L := by
 have hl1 : (ob s.met).length = p.Nodes.length := by rw [iR, hs.met]
 have hl2 : (ob s.dfs).length = p.Defs.length := by rw [iR, hs.dfs]
 refine ⟨⟨p, s.sz, ob s.met, ob s.dfs, true⟩, ?_, iT hl1 hl2⟩
 rw [eT]
 dsimp only
 by_cases h0 : n < 0
 ·rw [if_pos h0]
 ·rw [if_neg h0]
  by_cases h1 : (p.Nodes.length : Int) ≤ n
  ·rw [if_pos h1]
  ·rw [if_neg h1]
   obtain ⟨b, hb⟩ := dU (xs := s.met) (show 0 ≤ n by omega) (by rw [hs.met]; omega)
   cases b with
   | false => exact absurd ⟨by omega, by omega, hb⟩ h
   | true => rw [aBM hb, bsm, if_pos rfl, if_pos (by omega)]
end
theorem rvis {p : ScopeProg} (hp : SmP p) (hall : ∀ d ∈ p.Defs, okD d = true) (f : Nat) : ∀ g, 3000003 + 2 * f ≤ g → RVis p f (eT g) := by
 induction f with
 | zero =>
  intro g hg
  obtain ⟨g, rfl⟩ : ∃ k, g = k + 1 := ⟨g - 1, by omega⟩
  refine ⟨fun s n z hs hu h0 h1 => ?_⟩
  have h : ¬ (0 ≤ n ∧ n < (p.Nodes.length : Int) ∧ idx s.met n = some false) := fun q => by have := aDU q.2.2; omega
  rw [xX h]; exact aDW hs h
 | succ f ih =>
  intro g hg
  obtain ⟨g, rfl⟩ : ∃ k, g = k + 1 := ⟨g - 1, by omega⟩
  refine ⟨fun s n z hs hu h0 h1 => ?_⟩
  by_cases h : 0 ≤ n ∧ n < (p.Nodes.length : Int) ∧ idx s.met n = some false
  ·exact rnode_go hp hall (m := g) (by omega) (ih g (by omega)) (ih (g - 1) (by omega)) hs hu ⟨h0, by omega⟩ h
  ·rw [xX h]; exact aDW hs h
end Go.Proofs.YtmnbfgeljmhekaaGreat
set_option maxRecDepth 100000
namespace Go.Proofs.YtmnbfgeljmhekaaGreat
open Go.SX Go.SW Go.Dt
abbrev F : Nat := 4000000
theorem aED : ∀ x y : List UInt8, Op.bytesLess x y = (!(Op.bytesLess y x || decide (y = x)))
 | [], [] => rfl
 | [], b :: y => by simp [Op.bytesLess]
 | a :: x, [] => by simp [Op.bytesLess]
 | a :: x, b :: y => by
  have ih := aED x y
  simp only [Op.bytesLess, ih]
  by_cases h1 : a < b
  ·have h2 : ¬ b < a := fun h => by have := UInt8.lt_trans h1 h; exact absurd this (by simp)
   have h3 : b ≠ a := fun h => by subst h; exact absurd h1 (by simp)
   simp [h1, h2, h3]
  ·by_cases h2 : b < a
   ·have h3 : a ≠ b := fun h => by subst h; exact absurd h2 (by simp)
    simp [h1, h2, h3]
   ·have h3 : a = b := by
     have a1 := UInt8.not_lt.1 h1; have a2 := UInt8.not_lt.1 h2
     exact UInt8.le_antisymm a2 a1
    subst h3
    simp
theorem slt_sle (a b : ByteArray) : slt a b = !sle b a := by
 have he : decide (b = a) = decide (b.toList = a.toList) := by
  rw [decide_eq_decide]
  exact ⟨fun h => by rw [h], fun h => (by have := (aBa (i := b) (j := a)); rw [beq_iff_eq.2 h] at this; exact of_decide_eq_true this.symm)⟩
 unfold sle slt
 rw [he]; exact aED _ _
theorem aET (s : ByteArray) : ∀ (k : Nat) (i : Int), pM s k i = kR s k i
 | 0, _ => rfl
 | k + 1, i => by
  rw [pM, kR]
  simp only [aET s k]
theorem aB7 {s : ByteArray} (hs : s.size ≤ 2000000) : ∀ (k i : Nat), s.size < k + i → i ≤ s.size → kR s k (i : Int) = some (.inr false) ∨ kR s k (i : Int) = some (.inl ())
 | 0, i, h, h2 => by omega
 | k + 1, i, h, h2 => by
  rw [kR]
  by_cases hi : i < s.size
  ·have hx : sidx s (i : Int) = some ((s[i]'hi).toNat : Int) := by
    unfold sidx; rw [if_pos (by omega)]; simp [hi]
   rw [if_pos (by omega), hx, bsm]
   by_cases c1 : ((s[i]'hi).toNat : Int) < 97
   ·rw [if_pos c1]; exact .inl rfl
   ·rw [if_neg c1, bsm]
    by_cases c2 : 122 < ((s[i]'hi).toNat : Int)
    ·rw [if_pos c2]; exact .inl rfl
    ·rw [if_neg c2, aV (by omega), bsm]
     exact aB7 hs k (i + 1) (by omega) (by omega)
  ·rw [if_neg (by omega)]; exact .inr rfl
open Classical in
theorem has_loop {a : ByteArray} (suf : List ByteArray) : ∀ (pre : List ByteArray) (k : Nat), suf.length < k → pre.length + suf.length ≤ 3000000 → pE (pre ++ suf) a k pre.length = some (if a ∈ suf then .inr true else .inl ()) := by
 induction suf with
 | nil =>
  intro pre k hk _
  obtain _ | k := k
  ·omega
  rw [pE, if_neg (by simp), if_neg (by simp)]
 | cons e suf ih =>
  intro pre k hk hB
  obtain _ | k := k
  ·omega
  simp only [List.length_cons] at hk hB
  rw [pE, if_pos (cC _ _ _), bX, bsm]
  by_cases he : e = a
  ·rw [if_pos he, if_pos (by simp [he])]; rfl
  ·have hm : (a ∈ e :: suf) ↔ a ∈ suf := by simp [Ne.symm he]
   rw [if_neg he, aV (by omega), bsm, cA pre suf e, bT pre e, ih (pre ++ [e]) k (by omega) (by simp; omega)]
   by_cases hs : a ∈ suf
   ·rw [if_pos hs, if_pos (hm.2 hs)]
   ·rw [if_neg hs, if_neg (fun q => hs (hm.1 q))]
open Classical in
theorem has_eq {l : List ByteArray} {a : ByteArray} (h : l.length ≤ 3000000) : vW F l a = some (decide (a ∈ l)) := by
 have := has_loop (a := a) l [] F (by show l.length < 4000000; omega) (by simp; omega)
 simp only [List.nil_append, List.length_nil, Int.natCast_zero] at this
 rw [vW, this, bsm]
 by_cases hs : a ∈ l
 ·rw [if_pos hs]; simp [hs]
 ·rw [if_neg hs]; simp [hs]
theorem upd_get {g : aT ByteArray Bool} {k s : ByteArray} : (aT.upd g k true).get s = if s = k then some true else g.get s := rfl
theorem aDp {s : ByteArray} (hs : s.size ≤ 2000000) : ∃ b, qW F s = some b ∧ uU F s = some b := by
 have hl := aB7 hs F 0 (by show s.size < 4000000 + 0; omega) (by omega)
 simp only [Int.natCast_zero] at hl
 rw [qW, uU, aET]
 by_cases c1 : (s.size : Int) < 1
 ·rw [if_pos c1]
  refine ⟨false, ?_, rfl⟩
  rcases hl with h | h <;> rw [h, bsm]
  dsimp only
  rw [if_neg (by omega)]; rfl
 ·rw [if_neg c1]
  by_cases c2 : 8 < (s.size : Int)
  ·rw [if_pos c2]
   refine ⟨false, ?_, rfl⟩
   rcases hl with h | h <;> rw [h, bsm]
   dsimp only
   rw [if_pos (by omega), if_neg (by omega)]; rfl
  ·rw [if_neg c2]
   rcases hl with h | h
   ·rw [h]; exact ⟨false, rfl, rfl⟩
   ·rw [h, bsm, bsm]
    dsimp only
    rw [if_pos (by omega), if_pos (by omega), has_eq (by simp), bsm]
    refine ⟨_, ?_, rfl⟩
    rw [xW, bsm, bsm]
    congr 2
    simp only [upd_get, aT.none, List.mem_cons, List.not_mem_nil, or_false]
    repeat' split
    all_goals simp_all
def nm (s : ByteArray) : Bool := (qW F s).getD false
theorem nm_p {s : ByteArray} (hs : s.size ≤ 2000000) : qW F s = some (nm s) := by
 obtain ⟨b, h, _⟩ := aDp hs; unfold nm; rw [h]; rfl
theorem nm_r {s : ByteArray} (hs : s.size ≤ 2000000) : uU F s = some (nm s) := by
 obtain ⟨b, h, h2⟩ := aDp hs; unfold nm; rw [h, h2]; rfl
def okF : Option ByteArray → List ByteArray → Bool
 | _, [] => true
 | q, s :: l => nm s && (match q with | none => true | some q => slt q s) && okF (some s) l
theorem aEE {α : Type} {pre suf : List α} {y : α} (h : 0 < pre.length) : ∃ q, pre.getLast? = some q ∧ idx (pre ++ y :: suf) ((pre.length : Int) - 1) = some q := by
 have hne : pre ≠ [] := fun e => by rw [e] at h; simp at h
 have hd := List.dropLast_concat_getLast hne
 generalize pre.dropLast = d, pre.getLast hne = q at hd
 subst hd
 refine ⟨q, by simp, ?_⟩
 rw [show (((d ++ [q]).length : Int) - 1) = (d.length : Int) from by simp]
 exact dZ (by simp)
theorem fl1 {nodes : List ScopeNode} {defs : List ScopeDef} {mn : Int} (suf : List ByteArray) : ∀ (pre : List ByteArray) (k : Nat), suf.length < k → pre.length + suf.length ≤ 3000000 → (∀ x ∈ suf, x.size ≤ 2000000) →
  lW F ⟨pre ++ suf, nodes, defs, mn⟩ k pre.length = some (if okF pre.getLast? suf = true then .inl () else .inr (.inr flaw)) := by
 induction suf with
 | nil =>
  intro pre k hk _ _
  obtain _ | k := k
  ·omega
  rw [lW, if_neg (by simp), if_pos (by rfl)]
 | cons e suf ih =>
  intro pre k hk hB hx
  obtain _ | k := k
  ·omega
  simp only [List.length_cons] at hk hB
  have hgl : (pre ++ [e]).getLast? = some e := by simp
  rw [lW, if_pos (cC _ _ _)]
  dsimp only
  rw [bX, bsm, nm_p (hx e (.head _)), bsm]
  have hst : okF pre.getLast? (e :: suf) = (nm e && (match pre.getLast? with | none => true | some q => slt q e) && okF (some e) suf) := by
   cases pre.getLast? <;> rfl
  cases hn : nm e with
  | false => rw [hst, hn, Bool.false_and, Bool.false_and]; rfl
  | true =>
   rw [cond_true]
   rw [hn, Bool.true_and] at hst
   have hnext := ih (pre ++ [e]) k (by omega) (by simp; omega) (fun x h => hx x (.tail _ h))
   rw [hgl] at hnext
   by_cases h0 : (pre.length : Int) = 0
   ·have : pre = [] := List.eq_nil_of_length_eq_zero (by omega)
    subst this
    have hst : okF ([] : List ByteArray).getLast? (e :: suf) = okF (some e) suf := by rw [hst]; rfl
    rw [if_pos h0, eQ, bsm, hst]
    dsimp only
    rw [bsm]; dsimp only
    rw [aV (by simp), bsm, cA [] suf e, bT [] e, hnext]
   ·obtain ⟨q, h1, h2⟩ := aEE (pre := pre) (suf := suf) (y := e) (by omega)
    have hst : okF pre.getLast? (e :: suf) = (slt q e && okF (some e) suf) := by rw [hst, h1]
    rw [if_neg h0, aV (by omega), bsm, h2, bsm, hst]
    cases hl : slt q e with
    | false => rfl
    | true =>
     rw [eQ, bsm, Bool.true_and]
     dsimp only
     rw [bsm]; dsimp only
     rw [aV (by omega), bsm, cA pre suf e, bT pre e, hnext]
theorem fr_bad {p : ScopeProg} (suf : List ByteArray) : ∀ (pre : List ByteArray) (k : Nat), p.Free = pre ++ suf → suf.length < k → pre.length + suf.length ≤ 3000000 → iK F p k pre.length true = some true := by
 induction suf with
 | nil =>
  intro pre k he hk _
  obtain _ | k := k
  ·omega
  rw [iK, he, if_neg (by simp)]
 | cons e suf ih =>
  intro pre k he hk hB
  obtain _ | k := k
  ·omega
  simp only [List.length_cons] at hk hB
  rw [iK, he, if_pos (cC _ _ _), cond_true, bsm, aV (by omega), bsm, bT pre e]
  exact ih (pre ++ [e]) k (by rw [he]; simp) (by omega) (by simp; omega)
theorem fr1 {p : ScopeProg} (suf : List ByteArray) : ∀ (pre : List ByteArray) (k : Nat), p.Free = pre ++ suf → suf.length < k → pre.length + suf.length ≤ 3000000 → (∀ x ∈ suf, x.size ≤ 2000000) →
  iK F p k pre.length false = some (!okF pre.getLast? suf) := by
 induction suf with
 | nil =>
  intro pre k he hk _ _
  obtain _ | k := k
  ·omega
  rw [iK, he, if_neg (by simp)]; rfl
 | cons e suf ih =>
  intro pre k he hk hB hx
  obtain _ | k := k
  ·omega
  simp only [List.length_cons] at hk hB
  have hgl : (pre ++ [e]).getLast? = some e := by simp
  have hst : okF pre.getLast? (e :: suf) = (nm e && (match pre.getLast? with | none => true | some q => slt q e) && okF (some e) suf) := by
   cases pre.getLast? <;> rfl
  have hnext := ih (pre ++ [e]) k (by rw [he]; simp) (by omega) (by simp; omega) (fun x h => hx x (.tail _ h))
  have hbadn := fr_bad (p := p) suf (pre ++ [e]) k (by rw [he]; simp) (by omega) (by simp; omega)
  rw [hgl] at hnext
  rw [iK, he, if_pos (cC _ _ _), cond_false, bX, bsm, nm_r (hx e (.head _)), bsm, hst]
  cases hn : nm e with
  | false =>
   rw [Bool.not_false, cond_true, bsm, aV (by omega), bsm, bT pre e, hbadn]; rfl
  | true =>
   rw [Bool.not_true, cond_false, Bool.true_and]
   by_cases h0 : 0 < (pre.length : Int)
   ·obtain ⟨q, h1, h2⟩ := aEE (pre := pre) (suf := suf) (y := e) (by omega)
    have hst2 : (match pre.getLast? with | none => true | some q => slt q e) = !sle e q := by rw [h1]; exact slt_sle q e
    rw [hst2, if_pos h0, bsm, aV (by omega), bsm, h2, bsm, bsm, aV (by omega), bsm, bT pre e]
    cases hl : sle e q with
    | true => rw [hbadn]; rfl
    | false => rw [hnext]; rfl
   ·have : pre = [] := List.eq_nil_of_length_eq_zero (by omega)
    subst this
    rw [if_neg h0, bsm, aV (by simp), bsm, bT [] e, hnext]; simp
end Go.Proofs.YtmnbfgeljmhekaaGreat
set_option maxRecDepth 100000
namespace Go.Proofs.YtmnbfgeljmhekaaGreat
open Go.SX Go.SW Go.Dt
def start (p : ScopeProg) : VS := ⟨List.replicate p.Nodes.length 0, List.replicate p.Nodes.length false, List.replicate p.Defs.length false⟩
open Classical in
noncomputable def eX (p : ScopeProg) : Option VS :=
 if p.Free.length ≤ 12 ∧ p.Nodes.length ≤ 60 ∧ p.Defs.length ≤ 12 ∧ okF none p.Free = true then
  (vis p p.Nodes.length (start p) p.Main p.Free.length).bind fun s => if s.met.all id = true ∧ s.dfs.all id = true then some s else none
 else none
theorem wM {p : ScopeProg} : WS p (start p) := ⟨by simp [start], by simp [start], by simp [start]⟩
theorem vF {p : ScopeProg} : unm (start p) = p.Nodes.length := by simp [unm, start, List.countP_replicate]
def GD (p : ScopeProg) (s : VS) : Prop := ∀ i : Nat, s.dfs[i]? = some true → ∃ d, p.Defs[i]? = some d ∧ okD d = true
theorem wW {p : ScopeProg} {g : VS → Int → Int → Option VS} (h : ∀ s n z s', g s n z = some s' → GD p s → GD p s') : ∀ (l : List (Int × Int)) (s s' : VS), cV g s l = some s' → GD p s → GD p s'
 | [], s, s', e, h0 => by cases e; exact h0
 | x :: l, s, s', e, h0 => by
  obtain ⟨s1, e1, e2⟩ := bind_some e
  exact wW h l s1 s' e2 (h _ _ _ _ e1 h0)
theorem vis_gd {p : ScopeProg} (f : Nat) : ∀ (s : VS) (n z : Int) (s' : VS), vis p f s n z = some s' → GD p s → GD p s' := by
 induction f with
 | zero => intro s n z s' h; simp [vis] at h
 | succ f ih =>
  intro s n z s' h h0
  simp only [vis] at h
  split at h
  ·obtain ⟨x, _, h⟩ := bind_some h
   split at h
   ·split at h
    ·obtain ⟨d, hd, h⟩ := bind_some h
     split at h
     ·rename_i hok
      obtain ⟨s1, e1, h⟩ := bind_some h
      obtain ⟨s2, e2, e3⟩ := bind_some h
      refine wW ih _ _ _ e3 (wW ih _ _ _ e2 (wW ih _ _ _ e1 ?_))
      intro i hi
      by_cases hn : x.N.toNat = i
      ·obtain ⟨j, hj, hj2, _⟩ := sY hd
       rw [← hn, hj]; simp only [Int.toNat_natCast]
       exact ⟨d, hj2, hok⟩
      ·simp only [List.getElem?_set_ne hn] at hi
       exact h0 i hi
     ·cases h
    ·exact wW ih _ _ _ h h0
   ·cases h
  ·cases h
theorem chk_defs {p : ScopeProg} {s : VS} (h : eX p = some s) : ∀ d ∈ p.Defs, okD d = true := by
 unfold eX at h
 split at h
 ·obtain ⟨s1, h1, h2⟩ := bind_some h
  split at h2
  ·rename_i hc
   cases h2
   have hg := vis_gd _ _ _ _ _ h1 (fun i hi => by simp [start, List.getElem?_replicate] at hi)
   have hw := ((visO p p.Nodes.length).out _ _ _ _ wM (by rw [vF]; exact Nat.le_refl _) h1).1
   intro d hd
   obtain ⟨i, hi⟩ := List.mem_iff_getElem?.1 hd
   have hlt := (List.getElem?_eq_some_iff.1 hi).1
   have hlt2 : i < s.dfs.length := by rw [hw.dfs]; exact hlt
   have ht : s.dfs[i] = true := List.all_eq_true.1 hc.2 _ (List.getElem_mem hlt2)
   obtain ⟨d', h3, h4⟩ := hg i (by rw [List.getElem?_eq_getElem hlt2, ht])
   rw [hi] at h3; cases h3; exact h4
  ·cases h2
 ·cases h
theorem aHw (suf : List Bool) : ∀ (pre : List Bool) (k : Nat), suf.length < k → pre.length + suf.length ≤ 3000000 → ∃ r, nX (pre ++ suf) false k pre.length = some r ∧ ((suf.all id = false ∧ ∃ i : Int, r = .inr i ∧ 0 ≤ i) ∨ (suf.all id = true ∧ r = .inl ())) := by
 induction suf with
 | nil =>
  intro pre k hk _
  obtain _ | k := k
  ·omega
  exact ⟨_, by rw [nX, if_neg (by simp)], .inr ⟨rfl, rfl⟩⟩
 | cons e suf ih =>
  intro pre k hk hB
  obtain _ | k := k
  ·omega
  simp only [List.length_cons] at hk hB
  rw [nX, if_pos (cC _ _ _), bX, bsm]
  cases e with
  | false => exact ⟨_, rfl, .inl ⟨rfl, _, rfl, by omega⟩⟩
  | true =>
   rw [show (false == true) = false from rfl, cond_false, aV (by omega), bsm, cA pre suf true, bT pre true]
   obtain ⟨r, h1, h2⟩ := ih (pre ++ [true]) k (by omega) (by simp; omega)
   exact ⟨r, h1, by simpa using h2⟩
theorem aC0 {l : List Bool} (h : l.length ≤ 3000000) : uM F l false = some (!l.all id) := by
 obtain ⟨r, h1, h2⟩ := aHw l [] F (by show l.length < 4000000; omega) (by simp; omega)
 simp only [List.nil_append, List.length_nil, Int.natCast_zero] at h1
 rw [uM, xY, h1]
 rcases h2 with ⟨h2, i, rfl, h3⟩ | ⟨h2, rfl⟩
 ·rw [h2]; simp [h3]
 ·rw [h2]; rfl
theorem aD2 {p : ScopeProg} (hp : SmP p) : uY F p = some (jH p (eX p)) := by
 obtain ⟨fr, nodes, defs, mn⟩ := p
 have hf := hp.free; have hn := hp.nodes; have hd := hp.defs
 dsimp only at hf hn hd
 rw [uY]
 dsimp only
 unfold eX
 dsimp only
 by_cases l1 : fr.length ≤ 12
 ·rw [if_pos (by omega)]
  by_cases l2 : nodes.length ≤ 60
  ·rw [if_pos (by omega)]
   by_cases l3 : defs.length ≤ 12
   ·rw [decide_eq_true (by omega), eQ, bsm, bsm]
    dsimp only
    have e1 : lW F ⟨fr, nodes, defs, mn⟩ F 0 = some (if okF none fr = true then .inl () else .inr (.inr flaw)) := fl1 (nodes := nodes) (defs := defs) (mn := mn) fr [] F (by show fr.length < 4000000; omega) (by simp; omega) hp.names
    rw [e1, bsm]
    by_cases hok : okF none fr = true
    ·rw [if_pos hok, if_pos ⟨l1, l2, l3, hok⟩]
     dsimp only
     have hmk : ∀ {α : Type} (a : α) (k : Nat), k ≤ 60 → mk a (k : Int) = some (List.replicate k a) := fun a k hk => by unfold mk; rw [if_pos (by omega)]; simp
     rw [hmk 0 _ l2, bsm, hmk false _ l2, bsm, hmk false _ (by omega), bsm]
     have hv := pvis hp (b := 4000000 - nodes.length - 1) (by omega) nodes.length
     rw [show 4000000 - nodes.length - 1 + nodes.length + 1 = F from by show _ = 4000000; omega] at hv
     have hrun := hv.run (start ⟨fr, nodes, defs, mn⟩) mn fr.length wM (by rw [vF]; exact Nat.le_refl _) (by omega) (by omega)
     rw [show (⟨⟨fr, nodes, defs, mn⟩, List.replicate nodes.length 0, List.replicate nodes.length false, List.replicate defs.length false⟩ : Scope_looker) = ⟨⟨fr, nodes, defs, mn⟩, (start ⟨fr, nodes, defs, mn⟩).sz, (start ⟨fr, nodes, defs, mn⟩).met, (start ⟨fr, nodes, defs, mn⟩).dfs⟩ from rfl, hrun, bsm]
     cases hc : vis ⟨fr, nodes, defs, mn⟩ nodes.length (start ⟨fr, nodes, defs, mn⟩) mn fr.length with
     | none => rfl
     | some s =>
      obtain ⟨w, _⟩ := (visO _ _).out _ _ _ _ wM (by rw [vF]; exact Nat.le_refl _) hc
      have wm : s.met.length = nodes.length := w.met
      have wd : s.dfs.length = defs.length := w.dfs
      simp only [jH]
      rw [bsm, aC0 (by omega), bsm]
      cases hm : s.met.all id with
      | false => rw [if_neg (fun q => by cases q.1)]; rfl
      | true =>
       rw [Bool.not_true, Bool.not_false, cond_true, aC0 (by omega), bsm]
       cases hm2 : s.dfs.all id with
       | false => rw [if_neg (fun q => by cases q.2)]; rfl
       | true => rw [if_pos ⟨rfl, rfl⟩]; rfl
    ·rw [if_neg hok, if_neg (fun q => hok q.2.2.2)]; rfl
   ·rw [decide_eq_false (by omega), dD, if_neg (fun q => l3 q.2.2.1)]; rfl
  ·rw [if_neg (by omega), dD, if_neg (fun q => l2 q.2.1)]; rfl
 ·rw [if_neg (by omega), dD, if_neg (fun q => l1 q.1)]; rfl
theorem check_eq {p : ScopeProg} (hp : SmP p) : rR F p = some (if (eX p).isSome = true then 0 else 2) := by
 rw [rR, zI, show (⟨p.Free, p.Nodes, p.Defs, p.Main⟩ : ScopeProg) = p from rfl, aD2 hp, bsm]
 cases eX p with
 | none => rfl
 | some s => rfl
theorem aCr {p : ScopeProg} (suf : List ScopeDef) : ∀ (pre : List ScopeDef) (k : Nat), p.Defs = pre ++ suf → suf.length < k → pre.length + suf.length ≤ 3000000 → jQ F p k pre.length true = some true := by
 induction suf with
 | nil =>
  intro pre k he hk _
  obtain _ | k := k
  ·omega
  rw [jQ, he, if_neg (by simp)]
 | cons e suf ih =>
  intro pre k he hk hB
  obtain _ | k := k
  ·omega
  simp only [List.length_cons] at hk hB
  rw [jQ, he, if_pos (cC _ _ _), cond_true, bsm, aV (by omega), bsm, bT pre e]
  exact ih (pre ++ [e]) k (by rw [he]; simp) (by omega) (by simp; omega)
theorem al2 {p : ScopeProg} (hp : SmP p) (suf : List ScopeDef) : ∀ (pre : List ScopeDef) (k : Nat), p.Defs = pre ++ suf → suf.length < k → pre.length + suf.length ≤ 3000000 → jQ F p k pre.length false = some (!suf.all okD) := by
 induction suf with
 | nil =>
  intro pre k he hk _
  obtain _ | k := k
  ·omega
  rw [jQ, he, if_neg (by simp)]; rfl
 | cons e suf ih =>
  intro pre k he hk hB
  obtain _ | k := k
  ·omega
  simp only [List.length_cons] at hk hB
  have hmem : e ∈ p.Defs := by rw [he]; simp
  rw [jQ, he, if_pos (cC _ _ _), cond_false, bX, bsm, rdef_eq (by show 3000000 ≤ 4000000; omega) (hp.dfs e hmem), bsm, bsm, aV (by omega), bsm, bT pre e]
  cases h : okD e with
  | false => rw [Bool.not_false, aCr suf (pre ++ [e]) k (by rw [he]; simp) (by omega) (by simp; omega), show (e :: suf).all okD = (okD e && suf.all okD) from rfl, h]; rfl
  | true => rw [Bool.not_true, ih (pre ++ [e]) k (by rw [he]; simp) (by omega) (by simp; omega), show (e :: suf).all okD = (okD e && suf.all okD) from rfl, h, Bool.true_and]
theorem aD4 {L : Ref03_look} (suf : List Int) : ∀ (pre : List Int) (k : Nat), L.owner = pre ++ suf → suf.length < k → pre.length + suf.length ≤ 3000000 → jV L k pre.length true = some true := by
 induction suf with
 | nil =>
  intro pre k he hk _
  obtain _ | k := k
  ·omega
  rw [jV, he, if_neg (by simp)]
 | cons e suf ih =>
  intro pre k he hk hB
  obtain _ | k := k
  ·omega
  simp only [List.length_cons] at hk hB
  rw [jV, he, if_pos (cC _ _ _), cond_true, bsm, aV (by omega), bsm, bT pre e]
  exact ih (pre ++ [e]) k (by rw [he]; simp) (by omega) (by simp; omega)
theorem aAK {L : Ref03_look} (suf : List Int) : ∀ (pre : List Int) (k : Nat), L.users = pre ++ suf → suf.length < k → pre.length + suf.length ≤ 3000000 → kE L k pre.length true = some true := by
 induction suf with
 | nil =>
  intro pre k he hk _
  obtain _ | k := k
  ·omega
  rw [kE, he, if_neg (by simp)]
 | cons e suf ih =>
  intro pre k he hk hB
  obtain _ | k := k
  ·omega
  simp only [List.length_cons] at hk hB
  rw [kE, he, if_pos (cC _ _ _), cond_true, bsm, aV (by omega), bsm, bT pre e]
  exact ih (pre ++ [e]) k (by rw [he]; simp) (by omega) (by simp; omega)
theorem al3 {L : Ref03_look} (suf : List Bool) : ∀ (pre : List Int) (k : Nat), L.owner = pre ++ ob suf → suf.length < k → pre.length + suf.length ≤ 3000000 → jV L k pre.length false = some (!suf.all id) := by
 induction suf with
 | nil =>
  intro pre k he hk _
  obtain _ | k := k
  ·omega
  rw [jV, he, if_neg (by simp [ob])]; rfl
 | cons e suf ih =>
  intro pre k he hk hB
  obtain _ | k := k
  ·omega
  simp only [List.length_cons] at hk hB
  have hob : ob (e :: suf) = (if e = true then 1 else 0) :: ob suf := rfl
  rw [hob] at he
  have he2 := he; rw [cA] at he2
  rw [jV, he, if_pos (cC _ _ _), cond_false, bX, bsm, bsm, aV (by omega), bsm, bT pre (if e = true then 1 else 0)]
  cases e with
  | false =>
   rw [if_neg Bool.false_ne_true] at he2 ⊢
   rw [decide_eq_true (by omega), aD4 (ob suf) (pre ++ [0]) k he2 (by rw [iR]; omega) (by rw [iR]; simp; omega)]; rfl
  | true =>
   rw [if_pos rfl] at he2 ⊢
   rw [decide_eq_false (by omega), ih (pre ++ [1]) k he2 (by omega) (by simp; omega)]; simp
theorem al4 {L : Ref03_look} (suf : List Bool) : ∀ (pre : List Int) (k : Nat), L.users = pre ++ ob suf → suf.length < k → pre.length + suf.length ≤ 3000000 → kE L k pre.length false = some (!suf.all id) := by
 induction suf with
 | nil =>
  intro pre k he hk _
  obtain _ | k := k
  ·omega
  rw [kE, he, if_neg (by simp [ob])]; rfl
 | cons e suf ih =>
  intro pre k he hk hB
  obtain _ | k := k
  ·omega
  simp only [List.length_cons] at hk hB
  have hob : ob (e :: suf) = (if e = true then 1 else 0) :: ob suf := rfl
  rw [hob] at he
  have he2 := he; rw [cA] at he2
  rw [kE, he, if_pos (cC _ _ _), cond_false, bX, bsm, bsm, aV (by omega), bsm, bT pre (if e = true then 1 else 0)]
  cases e with
  | false =>
   rw [if_neg Bool.false_ne_true] at he2 ⊢
   rw [decide_eq_true (by omega), aAK (ob suf) (pre ++ [0]) k he2 (by rw [iR]; omega) (by rw [iR]; simp; omega)]; rfl
  | true =>
   rw [if_pos rfl] at he2 ⊢
   rw [decide_eq_false (by omega), ih (pre ++ [1]) k he2 (by omega) (by simp; omega)]; simp
def AOut (p : ScopeProg) (o : Option VS) (L : Ref03_look) : Prop := match o with
 | some s => L = ⟨p, s.sz, ob s.met, ob s.dfs, false⟩
 | none => L.bad = true
theorem iC {p : ScopeProg} (hp : SmP p) : ∃ L, uT F p = some L ∧ AOut p (eX p) L := by
 have hdefs : eX p ≠ none → ∀ d ∈ p.Defs, okD d = true := fun h => by
  cases hc : eX p with
  | none => exact absurd hc h
  | some s => exact chk_defs hc
 obtain ⟨fr, nodes, defs, mn⟩ := p
 have hf := hp.free; have hn := hp.nodes; have hd := hp.defs
 dsimp only at hf hn hd
 rw [uT]
 dsimp only
 have hno : ∀ (q : ¬ (fr.length ≤ 12 ∧ nodes.length ≤ 60 ∧ defs.length ≤ 12 ∧ okF none fr = true)), eX ⟨fr, nodes, defs, mn⟩ = none := fun q => by unfold eX; rw [if_neg q]
 by_cases l1 : 12 < fr.length
 ·rw [if_pos (by omega), hno (fun q => by omega)]; exact ⟨_, rfl, rfl⟩
 ·rw [if_neg (by omega)]
  by_cases l2 : 60 < nodes.length
  ·rw [if_pos (by omega), hno (fun q => by omega)]; exact ⟨_, rfl, rfl⟩
  ·rw [if_neg (by omega)]
   by_cases l3 : 12 < defs.length
   ·rw [if_pos (by omega), hno (fun q => by omega)]; exact ⟨_, rfl, rfl⟩
   ·rw [if_neg (by omega)]
    have e1 : iK F ⟨fr, nodes, defs, mn⟩ F 0 false = some (!okF none fr) := fr1 (p := ⟨fr, nodes, defs, mn⟩) fr [] F rfl (by show fr.length < 4000000; omega) (by simp; omega) hp.names
    have hmk : ∀ (k : Nat), k ≤ 60 → mk (0 : Int) (k : Int) = some (List.replicate k 0) := fun k hk => by unfold mk; rw [if_pos (by omega)]; simp
    rw [e1, bsm]
    cases hok : okF none fr with
    | false =>
     have e2 := aCr (p := ⟨fr, nodes, defs, mn⟩) defs [] F rfl (by show defs.length < 4000000; omega) (by simp; omega)
     simp only [List.length_nil, Int.natCast_zero] at e2
     rw [Bool.not_false, e2, bsm, hmk _ (by omega), bsm, bsm, hmk _ (by omega), bsm, cond_true, hno (fun q => by rw [hok] at q; cases q.2.2.2)]
     exact ⟨_, rfl, rfl⟩
    | true =>
     have e2 := al2 hp (p := ⟨fr, nodes, defs, mn⟩) defs [] F rfl (by show defs.length < 4000000; omega) (by simp; omega)
     simp only [List.length_nil, Int.natCast_zero] at e2
     rw [Bool.not_true, e2, bsm, hmk _ (by omega), bsm, bsm, hmk _ (by omega), bsm]
     cases had : defs.all okD with
     | false =>
      have : eX ⟨fr, nodes, defs, mn⟩ = none := by
       cases hc : eX ⟨fr, nodes, defs, mn⟩ with
       | none => rfl
       | some s =>
        have := List.all_eq_true.2 (hdefs (by rw [hc]; simp))
        dsimp only at this
        rw [had] at this; cases this
      rw [this, Bool.not_false, cond_true]
      exact ⟨_, rfl, rfl⟩
     | true =>
      rw [Bool.not_true, cond_false]
      have hv := rvis hp (List.all_eq_true.1 had) nodes.length F (by show _ ≤ 4000000; omega)
      obtain ⟨L, h1, h2⟩ := hv.run (start ⟨fr, nodes, defs, mn⟩) mn fr.length wM (by rw [vF]; exact Nat.le_refl _) (by omega) (by omega)
      have hst : (⟨⟨fr, nodes, defs, mn⟩, List.replicate nodes.length 0, List.replicate nodes.length 0, List.replicate defs.length 0, false⟩ : Ref03_look) = ⟨⟨fr, nodes, defs, mn⟩, (start ⟨fr, nodes, defs, mn⟩).sz, ob (start ⟨fr, nodes, defs, mn⟩).met, ob (start ⟨fr, nodes, defs, mn⟩).dfs, false⟩ := by
       simp [start, ob_rep]
      rw [hst, h1, bsm]
      have hcv : eX ⟨fr, nodes, defs, mn⟩ = (vis ⟨fr, nodes, defs, mn⟩ nodes.length (start ⟨fr, nodes, defs, mn⟩) mn fr.length).bind fun s => if s.met.all id = true ∧ s.dfs.all id = true then some s else none := by
       unfold eX; rw [if_pos ⟨by show fr.length ≤ 12; omega, by show nodes.length ≤ 60; omega, by show defs.length ≤ 12; omega, hok⟩]
      rw [hcv]
      cases hc : vis ⟨fr, nodes, defs, mn⟩ nodes.length (start ⟨fr, nodes, defs, mn⟩) mn fr.length with
      | none =>
       rw [hc] at h2
       obtain ⟨g1, g2, g3⟩ := h2
       dsimp only at g2 g3
       have e3 := aD4 (L := L) L.owner [] F rfl (by rw [g2]; show nodes.length < 4000000; omega) (by simp; omega)
       have e4 := aAK (L := L) L.users [] F rfl (by rw [g3]; show defs.length < 4000000; omega) (by simp; omega)
       simp only [List.length_nil, Int.natCast_zero] at e3 e4
       rw [g1, e3, bsm, e4, bsm]
       exact ⟨_, rfl, rfl⟩
      | some s =>
       rw [hc] at h2
       have h2 : L = _ := h2
       subst h2
       obtain ⟨w, _⟩ := (visO _ _).out _ _ _ _ wM (by rw [vF]; exact Nat.le_refl _) hc
       have wm : s.met.length = nodes.length := w.met
       have wd : s.dfs.length = defs.length := w.dfs
       have e3 := al3 (L := ⟨⟨fr, nodes, defs, mn⟩, s.sz, ob s.met, ob s.dfs, false⟩) s.met [] F rfl (by show s.met.length < 4000000; omega) (by simp; omega)
       simp only [List.length_nil, Int.natCast_zero] at e3
       dsimp only
       rw [e3, bsm, bsm]
       cases hm : s.met.all id with
       | false =>
        have e4 := aAK (L := ⟨⟨fr, nodes, defs, mn⟩, s.sz, ob s.met, ob s.dfs, false⟩) (ob s.dfs) [] F rfl (by rw [iR]; show s.dfs.length < 4000000; omega) (by rw [iR]; simp; omega)
        simp only [List.length_nil, Int.natCast_zero] at e4
        rw [Bool.not_false, e4, bsm, if_neg (fun q => by cases q.1)]
        exact ⟨_, rfl, rfl⟩
       | true =>
        have e4 := al4 (L := ⟨⟨fr, nodes, defs, mn⟩, s.sz, ob s.met, ob s.dfs, false⟩) s.dfs [] F rfl (by show s.dfs.length < 4000000; omega) (by simp; omega)
        simp only [List.length_nil, Int.natCast_zero] at e4
        rw [Bool.not_true, e4, bsm]
        cases hm2 : s.dfs.all id with
        | false => rw [if_neg (fun q => by cases q.2)]; exact ⟨_, rfl, rfl⟩
        | true => rw [if_pos ⟨rfl, rfl⟩]; exact ⟨_, rfl, rfl⟩
theorem aHK {p : ScopeProg} (hp : SmP p) : vZ F p = some (if (eX p).isSome = true then 0 else 2) := by
 obtain ⟨L, h1, h2⟩ := iC hp
 rw [vZ, show (⟨p.Free, p.Nodes, p.Defs, p.Main⟩ : ScopeProg) = p from rfl, h1, bsm]
 cases hc : eX p with
 | none => rw [hc] at h2; have h2 : L.bad = true := h2; rw [h2]; rfl
 | some s => rw [hc] at h2; have h2 : L = _ := h2; subst h2; rfl
theorem aFP {p : ScopeProg} (hp : SmP p) {s : VS} (h : eX p = some s) : tW F p = some s.sz := by
 obtain ⟨L, h1, h2⟩ := iC hp
 rw [h] at h2
 have h2 : L = _ := h2
 subst h2
 rw [tW, show (⟨p.Free, p.Nodes, p.Defs, p.Main⟩ : ScopeProg) = p from rfl, h1, bsm]
end Go.Proofs.YtmnbfgeljmhekaaGreat
set_option maxRecDepth 100000
namespace Go.Proofs.YtmnbfgeljmhekaaGreat
open Go.SX Go.SW Go.Dt
theorem aCC {p : ScopeProg} {sz : List Int} {met dfs : List Bool} (hl : sz.length = p.Nodes.length) (hB : sz.length ≤ 1000) : ∀ (d i k : Nat), i + d = sz.length → d < k → mQ ⟨p, sz, met, dfs⟩ p (fun x => qS x.1 x.2) k (sz.take i) i = some sz
 | 0, i, k, h, hk => by
  obtain _ | k := k
  ·omega
  rw [mQ, if_neg (by omega), List.take_of_length_le (by omega)]
 | d + 1, i, k, h, hk => by
  obtain _ | k := k
  ·omega
  have hi : i < sz.length := by omega
  rw [mQ, if_pos (by omega)]
  dsimp only
  rw [qS, show idx sz (i : Int) = some sz[i] from dZ (List.getElem?_eq_getElem hi), bsm, bsm]
  have hr : eI (sz.take i ++ [sz[i]]) = some (sz.take (i + 1)) := by
   have : sz.take i ++ [sz[i]] = sz.take (i + 1) := by rw [List.take_add_one, List.getElem?_eq_getElem hi]; rfl
   rw [this]; unfold eI; rw [if_pos (by simp; omega)]
  rw [hr, bsm, aV (by omega), bsm]
  exact aCC hl hB d (i + 1) k (by omega) (by omega)
theorem sizes_eq {p : ScopeProg} (hp : SmP p) {s : VS} (h : eX p = some s) (hl : s.sz.length = p.Nodes.length) (hB : p.Nodes.length ≤ 60) : tJ F p = some (s.sz, 0) := by
 have e := aCC (p := p) (sz := s.sz) (met := s.met) (dfs := s.dfs) hl (by omega) s.sz.length 0 F (by omega) (by rw [hl]; show _ < 4000000; omega)
 rw [List.take_zero] at e
 rw [tJ, yI, yR, show (⟨p.Free, p.Nodes, p.Defs, p.Main⟩ : ScopeProg) = p from rfl, aD2 hp, bsm, h]
 simp only [jH]
 rw [vU]
 have e' : mQ ⟨p, s.sz, s.met, s.dfs⟩ p (fun x => qS x.1 x.2) F [] 0 = some s.sz := e
 rw [e', bsm, bsm, bsm, bsm]
abbrev E := List (Option (Int × Int))
def chs (m : Int) (d : ScopeDef) : E := (List.range d.Chans.length).map fun c : Nat => some (m, (c : Int))
def inE (e : E) (m : Int) (d : ScopeDef) : E := e ++ chs m d ++ List.replicate d.Spots.length none
def ruE (e : E) (m : Int) (d : ScopeDef) (r : ScopeRule) : E := inE e m d ++ List.replicate (brs d.Chans r.Joins).toNat none
def subs (p : ScopeProg) (x : ScopeNode) (e : E) : List (Int × E) :=
 if x.Op = 4 then match idx p.Defs x.N with
  | some d => d.Rules.map (fun r => (r.Node, ruE e x.N d r)) ++ (d.Spots.map (fun y => (y.Node, inE e x.N d)) ++ x.Kids.map (fun k => (k, inE e x.N d)))
  | none => []
 else x.Kids.map (fun k => (k, e))
def LN (p : ScopeProg) : Nat → Int × E → List (Int × E)
 | 0, _ => []
 | h + 1, q => q :: (match idx p.Nodes q.1 with | some x => (subs p x q.2).flatMap (LN p h) | none => [])
def HN (p : ScopeProg) : Nat → Int × E → List (Int × Int)
 | 0, _ => []
 | h + 1, q => match idx p.Nodes q.1 with | some x => (if x.Op = 4 then [(x.N, q.1)] else []) ++ (subs p x q.2).flatMap (HN p h) | none => []
def okT (p : ScopeProg) (x : ScopeNode) (size : Int) : Prop :=
 ((x.Op = 1 ∨ x.Op = 7) ∧ x.Kids.length = 0) ∨ ((x.Op = 3 ∨ x.Op = 5) ∧ x.Kids.length = 2) ∨ (x.Op = 2 ∧ x.Args.length ≤ 3 ∧ x.Kids.length = 0 ∧ 0 ≤ x.N ∧ x.N < size) ∨ ((x.Op = 6 ∨ x.Op = 8) ∧ x.Kids.length = 1) ∨ (x.Op = 4 ∧ x.Kids.length = 1 ∧ 0 ≤ x.N ∧ ∃ d, idx p.Defs x.N = some d ∧ okD d = true)
def Tr (p : ScopeProg) : Nat → Int × E → Prop
 | 0, _ => False
 | h + 1, q => ∃ x, idx p.Nodes q.1 = some x ∧ 0 ≤ q.1 ∧ okT p x q.2.length ∧ ∀ k ∈ subs p x q.2, Tr p h k
structure Chg (s s' : VS) (N : List (Int × E)) (D : List (Int × Int)) : Prop where
 nn : (N.map (·.1)).Nodup
 dn : (D.map (·.1)).Nodup
 new : ∀ q ∈ N, idx s.met q.1 = some false ∧ idx s'.met q.1 = some true ∧ idx s'.sz q.1 = some (q.2.length : Int)
 newd : ∀ q ∈ D, idx s.dfs q.1 = some false ∧ idx s'.dfs q.1 = some true
 old : ∀ i, i ∉ N.map (·.1) → idx s'.met i = idx s.met i ∧ idx s'.sz i = idx s.sz i
 oldd : ∀ i, i ∉ D.map (·.1) → idx s'.dfs i = idx s.dfs i
 ls : s'.sz.length = s.sz.length
 lm : s'.met.length = s.met.length
theorem Chg.nil {s : VS} : Chg s s [] [] := ⟨List.nodup_nil, List.nodup_nil, fun i h => (by cases h), fun i h => (by cases h), fun i _ => ⟨rfl, rfl⟩, fun i _ => rfl, rfl, rfl⟩
theorem Chg.trans {s s1 s2 : VS} {N N' : List (Int × E)} {D D' : List (Int × Int)} (h : Chg s s1 N D) (k : Chg s1 s2 N' D') : Chg s s2 (N ++ N') (D ++ D') := by
 have hd : ∀ i ∈ N.map (·.1), i ∉ N'.map (·.1) := fun i hi hi' => by
  obtain ⟨q, hq, rfl⟩ := List.mem_map.1 hi
  obtain ⟨q', hq', e⟩ := List.mem_map.1 hi'
  have a := (h.new q hq).2.1
  have b := (k.new q' hq').1
  rw [e, a] at b; cases b
 have hdd : ∀ i ∈ D.map (·.1), i ∉ D'.map (·.1) := fun i hi hi' => by
  obtain ⟨q, hq, rfl⟩ := List.mem_map.1 hi
  obtain ⟨q', hq', e⟩ := List.mem_map.1 hi'
  have a := (h.newd q hq).2
  have b := (k.newd q' hq').1
  rw [e, a] at b; cases b
 refine ⟨?_, ?_, fun q hq => ?_, fun q hq => ?_, fun i hi => ?_, fun i hi => ?_, by rw [k.ls, h.ls], by rw [k.lm, h.lm]⟩
 ·rw [List.map_append]; exact List.nodup_append.2 ⟨h.nn, k.nn, fun a ha b hb e => hd a ha (e ▸ hb)⟩
 ·rw [List.map_append]; exact List.nodup_append.2 ⟨h.dn, k.dn, fun a ha b hb e => hdd a ha (e ▸ hb)⟩
 ·rcases List.mem_append.1 hq with hq | hq
  ·have o := k.old q.1 (hd _ (List.mem_map.2 ⟨q, hq, rfl⟩))
   obtain ⟨a, b, c⟩ := h.new q hq
   exact ⟨a, by rw [o.1, b], by rw [o.2, c]⟩
  ·have o := h.old q.1 (fun z => hd _ z (List.mem_map.2 ⟨q, hq, rfl⟩))
   obtain ⟨a, b, c⟩ := k.new q hq
   exact ⟨by rw [← o.1, a], b, c⟩
 ·rcases List.mem_append.1 hq with hq | hq
  ·have o := k.oldd q.1 (hdd _ (List.mem_map.2 ⟨q, hq, rfl⟩))
   obtain ⟨a, b⟩ := h.newd q hq
   exact ⟨a, by rw [o, b]⟩
  ·have o := h.oldd q.1 (fun z => hdd _ z (List.mem_map.2 ⟨q, hq, rfl⟩))
   obtain ⟨a, b⟩ := k.newd q hq
   exact ⟨by rw [← o, a], b⟩
 ·rw [List.map_append, List.mem_append, not_or] at hi
  have a := h.old i hi.1
  have b := k.old i hi.2
  exact ⟨by rw [b.1, a.1], by rw [b.2, a.2]⟩
 ·rw [List.map_append, List.mem_append, not_or] at hi
  rw [k.oldd i hi.2, h.oldd i hi.1]
def mark (s : VS) (n z : Int) (x : ScopeNode) : VS := ⟨s.sz.set n.toNat z, s.met.set n.toNat true, if x.Op = 4 then s.dfs.set x.N.toNat true else s.dfs⟩
theorem aBf {g : VS → Int → Int → Option VS} : ∀ (l m : List (Int × Int)) (s : VS), cV g s (l ++ m) = (cV g s l).bind fun s => cV g s m
 | [], m, s => rfl
 | x :: l, m, s => by
  simp only [List.cons_append, cV]
  cases g s x.1 x.2 with
  | none => rfl
  | some s1 => exact aBf l m s1
theorem aCx {m : Int} {d : ScopeDef} : (chs m d).length = d.Chans.length := by simp [chs]
theorem qY {e : E} {m : Int} {d : ScopeDef} : ((inE e m d).length : Int) = e.length + own d := by simp only [inE, own, List.length_append, aCx, List.length_replicate]; omega
theorem aAN {e : E} {m : Int} {d : ScopeDef} {r : ScopeRule} (h : okD d = true) (hr : r ∈ d.Rules) : ((ruE e m d r).length : Int) = e.length + own d + brs d.Chans r.Joins := by
 have b := qN (ch := d.Chans) (js := r.Joins) ((eA h).2.2.2.2 r hr).2
 rw [ruE, List.length_append, List.length_replicate]
 have := qY (e := e) (m := m) (d := d)
 omega
theorem vis_inv {p : ScopeProg} {f : Nat} {s s' : VS} {n : Int} {e : E} (h : vis p (f + 1) s n e.length = some s') :
  ∃ x, idx p.Nodes n = some x ∧ 0 ≤ n ∧ idx s.met n = some false ∧ okT p x e.length ∧ (x.Op = 4 → idx s.dfs x.N = some false) ∧ cV (vis p f) (mark s n e.length x) ((subs p x e).map fun q => (q.1, (q.2.length : Int))) = some s' := by
 simp only [vis] at h
 split at h
 ·rename_i h1
  cases hx : idx p.Nodes n with
  | none => rw [hx] at h; cases h
  | some x =>
   rw [hx, bsm] at h
   split at h
   ·rename_i h2
    refine ⟨x, rfl, h1.1, h1.2.2, ?_⟩
    obtain ⟨⟨k, c, hk, hl, hm⟩, _⟩ := h2
    split at h
    ·rename_i h4
     have hm' : (0 ≤ x.N ∧ x.N < (p.Defs.length : Int) ∧ idx s.dfs x.N = some false) ∧ x.Args.length = 0 := by
      rw [h4] at hk
      simp [shp] at hk
      obtain ⟨rfl, rfl⟩ := hk
      exact hm
     have hk1 : x.Kids.length = 1 := by
      rw [h4] at hk
      simp [shp] at hk
      omega
     cases hd : idx p.Defs x.N with
     | none => rw [hd] at h; cases h
     | some d =>
      rw [hd, bsm] at h
      split at h
      ·rename_i h5
       refine ⟨Or.inr (Or.inr (Or.inr (Or.inr ⟨h4, hk1, hm'.1.1, d, hd, h5⟩))), fun _ => hm'.1.2.2, ?_⟩
       rw [subs, if_pos h4, hd, mark, if_pos h4]
       dsimp only
       rw [List.map_append, List.map_append, aBf]
       have e1 : (d.Rules.map (fun r => (r.Node, ruE e x.N d r))).map (fun q => (q.1, (q.2.length : Int))) = d.Rules.map fun r => (r.Node, (e.length : Int) + own d + brs d.Chans r.Joins) := by
        rw [List.map_map]; exact List.map_congr_left fun r hr => by show (r.Node, ((ruE e x.N d r).length : Int)) = _; rw [aAN h5 hr]
       have e2 : (d.Spots.map (fun y => (y.Node, inE e x.N d))).map (fun q => (q.1, (q.2.length : Int))) = d.Spots.map fun y => (y.Node, (e.length : Int) + own d) := by
        rw [List.map_map]; exact List.map_congr_left fun r hr => by show (r.Node, ((inE e x.N d).length : Int)) = _; rw [qY]
       have e3 : (x.Kids.map (fun y => (y, inE e x.N d))).map (fun q => (q.1, (q.2.length : Int))) = x.Kids.map fun y => (y, (e.length : Int) + own d) := by
        rw [List.map_map]; exact List.map_congr_left fun r hr => by show (r, ((inE e x.N d).length : Int)) = _; rw [qY]
       rw [e1, e2, e3]
       obtain ⟨s1, a1, h⟩ := bind_some h
       rw [a1, bsm, aBf]
       exact h
      ·cases h
    ·rename_i h4
     refine ⟨?_, fun q => absurd q h4, ?_⟩
     ·unfold shp at hk
      repeat' split at hk
      all_goals first | (cases hk; done) | skip
      all_goals cases hk
      ·left; exact ⟨‹_›, hl⟩
      ·right; left; exact ⟨Or.inl ‹_›, hl⟩
      ·right; right; left; exact ⟨‹_›, hm.2, hl, hm.1.1, hm.1.2⟩
      ·right; left; exact ⟨Or.inr ‹_›, hl⟩
      ·right; right; right; left; exact ⟨‹_›, hl⟩
     ·rw [subs, if_neg h4, mark, if_neg h4, List.map_map]
      exact h
   ·cases h
 ·cases h
theorem aDb {p : ScopeProg} {f : Nat} (g : Nat) (ih : ∀ (s s' : VS) (q : Int × E), vis p f s q.1 q.2.length = some s' → s.sz.length = s.met.length → Chg s s' (LN p g q) (HN p g q) ∧ Tr p g q) : ∀ (l : List (Int × E)) (s s' : VS), cV (vis p f) s (l.map fun q => (q.1, (q.2.length : Int))) = some s' → s.sz.length = s.met.length → Chg s s' (l.flatMap (LN p g)) (l.flatMap (HN p g)) ∧ ∀ q ∈ l, Tr p g q
 | [], s, s', h, _ => by cases h; exact ⟨Chg.nil, fun q h => by cases h⟩
 | q :: l, s, s', h, w => by
  simp only [List.map_cons, cV] at h
  obtain ⟨s1, h1, h2⟩ := bind_some h
  obtain ⟨a, b⟩ := ih s s1 q h1 w
  obtain ⟨c, d⟩ := aDb g ih l s1 s' h2 (by rw [a.ls, a.lm, w])
  refine ⟨?_, fun q' hq' => ?_⟩
  ·simp only [List.flatMap_cons]; exact a.trans c
  ·cases hq' with
   | head => exact b
   | tail _ hq' => exact d q' hq'
theorem vS {α : Type} {l : List α} {n : Int} {b : α} (h0 : 0 ≤ n) (h : n < l.length) : idx (l.set n.toNat b) n = some b := by
 have : idx (l.set n.toNat b) (n.toNat : Int) = some b := dZ (by rw [List.getElem?_set, if_pos rfl, if_pos (by omega)])
 rwa [Int.toNat_of_nonneg h0] at this
theorem wD {α : Type} {l : List α} {n i : Int} {b : α} (h0 : 0 ≤ n) (h : i ≠ n) : idx (l.set n.toNat b) i = idx l i := by
 unfold idx
 split
 ·rename_i hi
  exact List.getElem?_set_ne (by omega)
 ·rfl
theorem fX {α : Type} {l : List α} {n : Int} {a : α} (h : idx l n = some a) : 0 ≤ n ∧ n < l.length := by
 by_cases c : 0 ≤ n ∧ n < l.length
 ·exact c
 ·rw [sU c] at h; cases h
theorem mark_chg {s : VS} {n : Int} {e : E} {x : ScopeNode} (h0 : 0 ≤ n) (hm : idx s.met n = some false) (hd : x.Op = 4 → idx s.dfs x.N = some false) (w : s.sz.length = s.met.length) : Chg s (mark s n e.length x) [(n, e)] (if x.Op = 4 then [(x.N, n)] else []) := by
 have l := fX hm
 refine ⟨(by simp), ?_, fun q hq => ?_, fun q hq => ?_, fun i hi => ?_, fun i hi => ?_, by simp [mark], by simp [mark]⟩
 ·split
  ·simp
  ·simp
 ·cases hq with
  | head => exact ⟨hm, vS h0 l.2, vS h0 (by omega)⟩
  | tail _ hq => cases hq
 ·split at hq
  ·rename_i h4
   cases hq with
   | head => exact ⟨hd h4, by rw [mark, if_pos h4]; exact vS (fX (hd h4)).1 (fX (hd h4)).2⟩
   | tail _ hq => cases hq
  ·cases hq
 ·have : i ≠ n := fun q => hi (by rw [q]; exact List.mem_singleton.2 rfl)
  exact ⟨wD h0 this, wD h0 this⟩
 ·rw [mark]
  split at hi
  ·rename_i h4
   have : i ≠ x.N := fun q => hi (by rw [q]; exact List.mem_singleton.2 rfl)
   rw [if_pos h4]
   exact wD (fX (hd h4)).1 this
  ·rename_i h4
   rw [if_neg h4]
theorem aEo {p : ScopeProg} : ∀ (f : Nat) (s s' : VS) (q : Int × E), vis p f s q.1 q.2.length = some s' → s.sz.length = s.met.length → Chg s s' (LN p f q) (HN p f q) ∧ Tr p f q
 | 0, s, s', q, h, _ => by cases h
 | f + 1, s, s', ⟨n, e⟩, h, w => by
  obtain ⟨x, hx, h0, hm, hT, hD, hv⟩ := vis_inv h
  have c := mark_chg (e := e) h0 hm hD w
  obtain ⟨a, b⟩ := aDb f (aEo f) _ _ _ hv (by rw [c.ls, c.lm, w])
  refine ⟨?_, ⟨x, hx, h0, hT, b⟩⟩
  have t := c.trans a
  simp only [LN, HN, hx]
  exact t
end Go.Proofs.YtmnbfgeljmhekaaGreat
set_option maxRecDepth 100000
namespace Go.Proofs.YtmnbfgeljmhekaaGreat
open Go.SX Go.SW Go.Dt
def eO {σ β : Type} (g : σ → β → Option σ) : σ → List β → Option σ
 | s, [] => some s
 | s, b :: l => (g s b).bind fun s => eO g s l
theorem wG {σ β : Type} {g : σ → β → Option σ} : ∀ (l m : List β) (s : σ), eO g s (l ++ m) = (eO g s l).bind fun s => eO g s m
 | [], m, s => rfl
 | x :: l, m, s => by
  simp only [List.cons_append, eO]
  cases g s x with
  | none => rfl
  | some s1 => exact wG l m s1
theorem gR {α : Type} (o : Option α) : (o.bind fun y => some y) = o := by cases o <;> rfl
theorem uJ {α γ : Type} {o : Option α} {f g : α → Option γ} (h : ∀ a, f a = g a) : o.bind f = o.bind g := by
 cases o with
 | none => rfl
 | some a => rw [bsm, bsm]; exact h a
theorem ukids {σ : Type} {Y : Int → σ → Option σ} {x : ScopeNode} (suf : List Int) : ∀ (pre : List Int) (k : Nat) (s : σ), x.Kids = pre ++ suf → suf.length < k → pre.length + suf.length ≤ 3000000 → nV Y x k pre.length s = eO (fun s b => Y b s) s suf := by
 induction suf with
 | nil =>
  intro pre k s hx hk hB
  obtain _ | k := k
  ·omega
  rw [nV, if_neg (show ¬ (pre.length : Int) < (x.Kids.length : Int) from by rw [hx]; simp)]; rfl
 | cons e suf ih =>
  intro pre k s hx hk hB
  obtain _ | k := k
  ·omega
  rw [nV, if_pos (show (pre.length : Int) < (x.Kids.length : Int) from by rw [hx]; exact cC pre suf e), show idx x.Kids (pre.length : Int) = some e from by rw [hx]; exact bX pre suf e, bsm]
  simp only [List.length_cons] at hk hB
  show _ = (Y e s).bind _
  refine uJ fun s1 => ?_
  rw [aV (by omega), bsm, bT pre e]
  exact ih (pre ++ [e]) k s1 (by rw [hx]; exact cA pre suf e) (by omega) (by simp; omega)
theorem uspots {σ : Type} {Y : Int → σ → Option σ} {d : ScopeDef} (suf : List ScopeSpot) : ∀ (pre : List ScopeSpot) (k : Nat) (s : σ), d.Spots = pre ++ suf → suf.length < k → pre.length + suf.length ≤ 3000000 → pB Y d k pre.length s = eO (fun s b => Y b s) s (suf.map (·.Node)) := by
 induction suf with
 | nil =>
  intro pre k s hx hk hB
  obtain _ | k := k
  ·omega
  rw [pB, if_neg (show ¬ (pre.length : Int) < (d.Spots.length : Int) from by rw [hx]; simp)]; rfl
 | cons e suf ih =>
  intro pre k s hx hk hB
  obtain _ | k := k
  ·omega
  rw [pB, if_pos (show (pre.length : Int) < (d.Spots.length : Int) from by rw [hx]; exact cC pre suf e), show idx d.Spots (pre.length : Int) = some e from by rw [hx]; exact bX pre suf e, bsm]
  simp only [List.length_cons] at hk hB
  show _ = (Y e.Node s).bind _
  refine uJ fun s1 => ?_
  rw [aV (by omega), bsm, bT pre e]
  exact ih (pre ++ [e]) k s1 (by rw [hx]; exact cA pre suf e) (by omega) (by simp; omega)
theorem urules {σ : Type} {Y : Int → σ → Option σ} {d : ScopeDef} (suf : List ScopeRule) : ∀ (pre : List ScopeRule) (k : Nat) (s : σ), d.Rules = pre ++ suf → suf.length < k → pre.length + suf.length ≤ 3000000 → oA Y d k pre.length s = eO (fun s b => Y b s) s (suf.map (·.Node)) := by
 induction suf with
 | nil =>
  intro pre k s hx hk hB
  obtain _ | k := k
  ·omega
  rw [oA, if_neg (show ¬ (pre.length : Int) < (d.Rules.length : Int) from by rw [hx]; simp)]; rfl
 | cons e suf ih =>
  intro pre k s hx hk hB
  obtain _ | k := k
  ·omega
  rw [oA, if_pos (show (pre.length : Int) < (d.Rules.length : Int) from by rw [hx]; exact cC pre suf e), show idx d.Rules (pre.length : Int) = some e from by rw [hx]; exact bX pre suf e, bsm]
  simp only [List.length_cons] at hk hB
  show _ = (Y e.Node s).bind _
  refine uJ fun s1 => ?_
  rw [aV (by omega), bsm, bT pre e]
  exact ih (pre ++ [e]) k s1 (by rw [hx]; exact cA pre suf e) (by omega) (by simp; omega)
def uK (p : ScopeProg) (x : ScopeNode) : List Int := x.Kids ++ (if x.Op = 4 then match idx p.Defs x.N with | some d => d.Spots.map (·.Node) ++ d.Rules.map (·.Node) | none => [] else [])
theorem aBj {σ : Type} {fuel : Nat} {Y : Int → σ → Option σ} {s : σ} {t : Usage_text} {d : ScopeDef} {n : Int} (hd : idx t.ScopeProg.Defs n = some d) (hf : 100 ≤ fuel) (ho : okD d = true) : sG fuel Y s t n = eO (fun s b => Y b s) s (d.Spots.map (·.Node)) := by
 have b := eA ho
 rw [sG, hd, bsm]
 exact uspots d.Spots [] fuel s rfl (by omega) (by simp; omega)
theorem under_eq {σ : Type} {fuel : Nat} {Y : Int → σ → Option σ} {s : σ} {t : Usage_text} {x : ScopeNode} {n z : Int} (hx : idx t.ScopeProg.Nodes n = some x) (hf : 100 ≤ fuel) (hT : okT t.ScopeProg x z) : vY fuel Y s t n = eO (fun s b => Y b s) s (uK t.ScopeProg x) := by
 have hk : x.Kids.length ≤ 2 := by rcases hT with h | h | h | h | h <;> omega
 have e1 : ∀ s0, nV Y x fuel 0 s0 = eO (fun s b => Y b s) s0 x.Kids := fun s0 => ukids x.Kids [] fuel s0 rfl (by omega) (by simp; omega)
 rw [vY, hx, bsm, e1, uK, wG]
 refine uJ fun s1 => ?_
 by_cases h4 : x.Op = 4
 ·rw [if_neg (fun q => q h4), if_pos h4]
  have : ∃ d, idx t.ScopeProg.Defs x.N = some d ∧ okD d = true := by
   rcases hT with h | h | h | h | ⟨_, _, _, h⟩
   ·omega
   ·omega
   ·omega
   ·omega
   ·exact h
  obtain ⟨d, hd, ho⟩ := this
  have b := eA ho
  have e2 : (fun (x : Int) (t : σ) => sP Y x t) = Y := by
   funext a b; exact gR _
  rw [pO, bsm, e2]
  dsimp only
  rw [aBj hd hf ho, hd]
  dsimp only
  rw [wG]
  refine uJ fun s2 => ?_
  rw [bsm]
  exact urules d.Rules [] fuel s2 rfl (by omega) (by simp; omega)
 ·rw [if_pos h4, if_neg h4]; rfl
structure Fld {α : Type} (R : E → α → Prop) (N : List (Int × E)) (D : List (Int × Int)) (s s' : List α × List Int) : Prop where
 l1 : s'.1.length = s.1.length
 l2 : s'.2.length = s.2.length
 on : ∀ q ∈ N, ∃ y, idx s'.1 q.1 = some y ∧ R q.2 y
 hd : ∀ q ∈ D, idx s'.2 q.1 = some q.2
 off : ∀ i, i ∉ N.map (·.1) → idx s'.1 i = idx s.1 i
 offh : ∀ i, i ∉ D.map (·.1) → idx s'.2 i = idx s.2 i
variable {α : Type} {R : E → α → Prop}
theorem Fld.nil {s : List α × List Int} : Fld R [] [] s s := ⟨rfl, rfl, fun q h => (by cases h), fun q h => (by cases h), fun i _ => rfl, fun i _ => rfl⟩
theorem nd_map {β γ : Type} {f : β → γ} {l m : List β} (h : ((l ++ m).map f).Nodup) {a b : β} (ha : a ∈ l) (hb : b ∈ m) : f a ≠ f b := by
 rw [List.map_append, List.nodup_append] at h
 exact h.2.2 _ (List.mem_map.2 ⟨a, ha, rfl⟩) _ (List.mem_map.2 ⟨b, hb, rfl⟩)
theorem Fld.trans {N N' : List (Int × E)} {D D' : List (Int × Int)} {s s1 s2 : List α × List Int} (h : Fld R N D s s1) (k : Fld R N' D' s1 s2) (hn : ((N ++ N').map (·.1)).Nodup) (hd : ((D ++ D').map (·.1)).Nodup) : Fld R (N ++ N') (D ++ D') s s2 := by
 refine ⟨by rw [k.l1, h.l1], by rw [k.l2, h.l2], fun q hq => ?_, fun q hq => ?_, fun i hi => ?_, fun i hi => ?_⟩
 ·rcases List.mem_append.1 hq with hq | hq
  ·rw [k.off q.1 (fun z => by obtain ⟨b, hb, e⟩ := List.mem_map.1 z; exact nd_map hn hq hb e.symm)]; exact h.on q hq
  ·exact k.on q hq
 ·rcases List.mem_append.1 hq with hq | hq
  ·rw [k.offh q.1 (fun z => by obtain ⟨b, hb, e⟩ := List.mem_map.1 z; exact nd_map hd hq hb e.symm)]; exact h.hd q hq
  ·exact k.hd q hq
 ·rw [List.map_append, List.mem_append, not_or] at hi
  rw [k.off i hi.2, h.off i hi.1]
 ·rw [List.map_append, List.mem_append, not_or] at hi
  rw [k.offh i hi.2, h.offh i hi.1]
theorem Fld.congr {N N' : List (Int × E)} {D D' : List (Int × Int)} {s s1 : List α × List Int} (h : Fld R N D s s1) (hn : ∀ q, q ∈ N ↔ q ∈ N') (hd : ∀ q, q ∈ D ↔ q ∈ D') : Fld R N' D' s s1 := by
 refine ⟨h.l1, h.l2, fun q hq => h.on q ((hn q).2 hq), fun q hq => h.hd q ((hd q).2 hq), fun i hi => h.off i fun z => hi ?_, fun i hi => h.offh i fun z => hi ?_⟩
 ·obtain ⟨q, hq, e⟩ := List.mem_map.1 z; exact List.mem_map.2 ⟨q, (hn q).1 hq, e⟩
 ·obtain ⟨q, hq, e⟩ := List.mem_map.1 z; exact List.mem_map.2 ⟨q, (hd q).1 hq, e⟩
theorem aEK {p : ScopeProg} {h : Nat} {β : Type} {key : β → Int × E} {g : List α × List Int → β → Option (List α × List Int)} (l : List β) : ∀ (s : List α × List Int), (∀ b ∈ l, ∀ s0 : List α × List Int, s0.1.length = s.1.length → s0.2.length = s.2.length → ((LN p h (key b)).map (·.1)).Nodup → ((HN p h (key b)).map (·.1)).Nodup → ∃ s', g s0 b = some s' ∧ Fld R (LN p h (key b)) (HN p h (key b)) s0 s') →
  ((l.flatMap fun b => LN p h (key b)).map (·.1)).Nodup → ((l.flatMap fun b => HN p h (key b)).map (·.1)).Nodup → ∃ s', eO g s l = some s' ∧ Fld R (l.flatMap fun b => LN p h (key b)) (l.flatMap fun b => HN p h (key b)) s s' := by
 induction l with
 | nil => intro s _ _ _; exact ⟨s, rfl, Fld.nil⟩
 | cons b l ih =>
  intro s hg hn hd
  rw [List.flatMap_cons] at hn hd
  have hn' := hn; have hd' := hd
  rw [List.map_append, List.nodup_append] at hn' hd'
  obtain ⟨s1, e1, f1⟩ := hg b (List.mem_cons_self ..) s rfl rfl hn'.1 hd'.1
  obtain ⟨s2, e2, f2⟩ := ih s1 (fun c hc s0 a1 a2 => hg c (List.mem_cons_of_mem _ hc) s0 (by rw [a1, f1.l1]) (by rw [a2, f1.l2])) hn'.2.1 hd'.2.1
  refine ⟨s2, ?_, ?_⟩
  ·rw [eO, e1, bsm]; exact e2
  ·rw [List.flatMap_cons, List.flatMap_cons]; exact f1.trans f2 hn hd
end Go.Proofs.YtmnbfgeljmhekaaGreat
set_option maxRecDepth 100000
namespace Go.Proofs.YtmnbfgeljmhekaaGreat
open Go.SX Go.SW Go.Dt
def RP (e : E) (g : aT Int Usage_channel) : Prop := ∀ i : Int, g.get i = (idx e i).bind fun o => o.map fun c => (⟨c.1, c.2⟩ : Usage_channel)
theorem zK {β : Type} (l m : List β) (i : Int) : idx (l ++ m) i = if i < l.length then idx l i else idx m (i - l.length) := by
 unfold idx
 by_cases h0 : 0 ≤ i
 ·rw [if_pos h0, if_pos h0]
  split
  ·exact List.getElem?_append_left (by omega)
  ·rw [if_pos (by omega), List.getElem?_append_right (by omega), show i.toNat - l.length = (i - l.length).toNat from by omega]
 ·rw [if_neg h0, if_neg h0, if_pos (by omega)]
theorem aD5 {e : E} {g : aT Int Usage_channel} (h : RP e g) (k : Nat) : RP (e ++ List.replicate k none) g := fun i => by
 rw [h i, zK]
 split
 ·rfl
 ·rename_i hl
  rw [sU (by omega)]
  cases hq : idx (List.replicate k (none : Option (Int × Int))) (i - e.length) with
  | none => rfl
  | some o => rw [List.eq_of_mem_replicate (eF hq)]; rfl
theorem rp_snoc {e : E} {g : aT Int Usage_channel} (h : RP e g) (m c : Int) : RP (e ++ [some (m, c)]) (aT.upd g e.length ⟨m, c⟩) := fun i => by
 show (if i = (e.length : Int) then some (⟨m, c⟩ : Usage_channel) else g.get i) = _
 rw [zK, h i]
 split
 ·rename_i hi
  rw [if_neg (by omega), hi, Int.sub_self]; rfl
 ·rename_i hi
  split
  ·rfl
  ·rw [sU (by omega), sU (by simp; omega)]
def fU (m : Int) (k : Nat) : E := (List.range k).map fun c : Nat => some (m, (c : Int))
theorem pchans {t : Usage_text} {n : Int} {x : ScopeNode} {d : ScopeDef} {e : E} (hz : idx t.sizes n = some (e.length : Int)) (he : e.length ≤ 1000000) (hd : d.Chans.length ≤ 30) : ∀ (j i k : Nat) (g : aT Int Usage_channel), i + j = d.Chans.length → j < k → RP (e ++ fU x.N i) g →
  ∃ g', kL t n x d k i g = some g' ∧ RP (e ++ chs x.N d) g'
 | 0, i, k, g, h, hk, hR => by
  obtain _ | k := k
  ·omega
  refine ⟨g, by rw [kL, if_neg (by omega)], ?_⟩
  have : chs x.N d = fU x.N i := by rw [chs, fU, show d.Chans.length = i from by omega]
  rw [this]; exact hR
 | j + 1, i, k, g, h, hk, hR => by
  obtain _ | k := k
  ·omega
  rw [kL, if_pos (by omega), hz, bsm, aV (by omega), bsm, aV (by omega), bsm]
  refine pchans hz he hd j (i + 1) k _ (by omega) (by omega) ?_
  have : e ++ fU x.N (i + 1) = (e ++ fU x.N i) ++ [some (x.N, (i : Int))] := by rw [fU, List.range_succ, List.map_append, List.append_assoc]; rfl
  rw [this]
  have l : (e.length : Int) + (i : Int) = ((e ++ fU x.N i).length : Int) := by simp [fU]
  rw [l]
  exact rp_snoc hR _ _
def uE (p : ScopeProg) (x : ScopeNode) (e : E) : List (Int × E) :=
 if x.Op = 4 then match idx p.Defs x.N with
  | some d => x.Kids.map (fun k => (k, inE e x.N d)) ++ (d.Spots.map (fun y => (y.Node, inE e x.N d)) ++ d.Rules.map (fun r => (r.Node, ruE e x.N d r)))
  | none => x.Kids.map (fun k => (k, e))
 else x.Kids.map (fun k => (k, e))
theorem uE_K {p : ScopeProg} {x : ScopeNode} {e : E} : (uE p x e).map (·.1) = uK p x := by
 unfold uE uK
 split
 ·cases idx p.Defs x.N with
  | none => simp [Function.comp_def]
  | some d => simp [Function.comp_def]
 ·simp [Function.comp_def]
theorem aCz {p : ScopeProg} {x : ScopeNode} {e : E} {z : Int} (hT : okT p x z) : (uE p x e).Perm (subs p x e) := by
 unfold uE subs
 split
 ·rename_i h4
  have : ∃ d, idx p.Defs x.N = some d := by
   rcases hT with h | h | h | h | ⟨_, _, _, d, h, _⟩
   ·omega
   ·omega
   ·omega
   ·omega
   ·exact ⟨d, h⟩
  obtain ⟨d, hd⟩ := this
  rw [hd]
  dsimp only
  refine (List.perm_append_comm).trans ?_
  refine (List.Perm.append_right _ List.perm_append_comm).trans ?_
  rw [List.append_assoc]
 ·exact List.Perm.refl _
theorem aBe {σ β γ : Type} {g : σ → γ → Option σ} {f : β → γ} : ∀ (l : List β) (s : σ), eO g s (l.map f) = eO (fun s b => g s (f b)) s l
 | [], s => rfl
 | b :: l, s => by
  simp only [List.map_cons, eO]
  exact uJ fun s1 => aBe l s1
theorem rp_in {p : ScopeProg} {x : ScopeNode} {e : E} {g : aT Int Usage_channel} {d : ScopeDef} (hd : idx p.Defs x.N = some d) (h4 : x.Op = 4) (h : RP (e ++ chs x.N d) g) : ∀ q ∈ uE p x e, RP q.2 g := fun q hq => by
 rw [uE, if_pos h4, hd] at hq
 dsimp only at hq
 have hi : RP (inE e x.N d) g := aD5 h _
 rcases List.mem_append.1 hq with hq | hq
 ·obtain ⟨k, _, rfl⟩ := List.mem_map.1 hq; exact hi
 ·rcases List.mem_append.1 hq with hq | hq
  ·obtain ⟨k, _, rfl⟩ := List.mem_map.1 hq; exact hi
  ·obtain ⟨k, _, rfl⟩ := List.mem_map.1 hq; exact aD5 hi _
theorem rp_out {p : ScopeProg} {x : ScopeNode} {e : E} {g : aT Int Usage_channel} (h4 : ¬ x.Op = 4) (h : RP e g) : ∀ q ∈ uE p x e, RP q.2 g := fun q hq => by
 rw [uE, if_neg h4] at hq
 obtain ⟨k, _, rfl⟩ := List.mem_map.1 hq; exact h
theorem aDv {α : Type} {R : E → α → Prop} {n : Int} {e : E} {x : ScopeNode} {den : List α} {heads : List Int} {y : α} (hy : R e y) (h0 : 0 ≤ n ∧ n < den.length) (hx : x.Op = 4 → 0 ≤ x.N ∧ x.N < heads.length) :
  Fld R [(n, e)] (if x.Op = 4 then [(x.N, n)] else []) (den, heads) (den.set n.toNat y, if x.Op = 4 then heads.set x.N.toNat n else heads) := by
 refine ⟨by simp, by dsimp only; split <;> simp, fun q hq => ?_, fun q hq => ?_, fun i hi => ?_, fun i hi => ?_⟩
 ·rw [List.mem_singleton.1 hq]; exact ⟨y, vS h0.1 h0.2, hy⟩
 ·split at hq
  ·rename_i h4
   rw [List.mem_singleton.1 hq]
   dsimp only
   rw [if_pos h4]
   exact vS (hx h4).1 (hx h4).2
  ·cases hq
 ·exact wD h0.1 fun q => hi (by rw [q]; exact List.mem_singleton.2 rfl)
 ·dsimp only
  split at hi
  ·rename_i h4
   rw [if_pos h4]
   exact wD (hx h4).1 fun q => hi (by rw [q]; exact List.mem_singleton.2 rfl)
  ·rename_i h4
   rw [if_neg h4]
theorem uE_sub {p : ScopeProg} {h : Nat} {x : ScopeNode} {e : E} {z : Int} (hT : okT p x z) {β : Type} (f : Int × E → List β) : ((uE p x e).flatMap f).Perm ((subs p x e).flatMap f) := (aCz hT).flatMap_right _
theorem e_len {p : ScopeProg} {x : ScopeNode} {e : E} {z : Int} (hT : okT p x z) (h4 : x.Op = 4) : 0 ≤ x.N ∧ ∃ d, idx p.Defs x.N = some d ∧ okD d = true := by
 rcases hT with h | h | h | h | ⟨_, _, h0, h⟩
 ·omega
 ·omega
 ·omega
 ·omega
 ·exact ⟨h0, h⟩
theorem pfill {p : ScopeProg} : ∀ (h fuel : Nat) (n : Int) (e : E) (t : Usage_text) (g : aT Int Usage_channel), h + 100 ≤ fuel → t.ScopeProg = p → Tr p h (n, e) → RP e g → t.denotes.length = p.Nodes.length → t.heads.length = p.Defs.length →
  (∀ q ∈ LN p h (n, e), idx t.sizes q.1 = some (q.2.length : Int) ∧ q.2.length ≤ 1000000) → ((LN p h (n, e)).map (·.1)).Nodup → ((HN p h (n, e)).map (·.1)).Nodup →
  ∃ s', jU fuel t n g = some s' ∧ Fld RP (LN p h (n, e)) (HN p h (n, e)) (t.denotes, t.heads) s'
 | 0, fuel, n, e, t, g, _, _, hT, _, _, _, _, _, _ => hT.elim
 | h + 1, fuel, n, e, t, g, hf, ht, ⟨x, hx, h0, hT, hK⟩, hR, hl1, hl2, hz, hn, hd => by
  obtain _ | fuel := fuel
  ·omega
  dsimp only at hx h0 hT hK
  subst ht
  have hnl := fX hx
  simp only [LN, HN, hx] at hz hn hd ⊢
  have hp1 := uE_sub (h := h) (e := e) hT (LN t.ScopeProg h)
  have hp2 := uE_sub (h := h) (e := e) hT (HN t.ScopeProg h)
  have hxd : x.Op = 4 → 0 ≤ x.N ∧ x.N < t.heads.length := fun h4 => by
   obtain ⟨a, d, b, _⟩ := e_len (e := e) hT h4
   have := fX b
   omega
  have hg : ∃ g1, (∀ q ∈ uE t.ScopeProg x e, RP q.2 g1) ∧ ∀ {γ : Type} (K : aT Int Usage_channel × List Int → Option γ),
    (if x.Op = 4 then (idx t.heads x.N).bind fun y3 => (some ()).bind fun _ => ((idx t.ScopeProg.Defs x.N).bind fun y5 => kL t n x y5 fuel 0 g).bind fun x4 => some (x4, t.heads.set x.N.toNat n) else some (g, t.heads)).bind K = K (g1, if x.Op = 4 then t.heads.set x.N.toNat n else t.heads) := by
   by_cases h4 : x.Op = 4
   ·obtain ⟨_, d, b, c⟩ := e_len (e := e) hT h4
    obtain ⟨y3, q3⟩ := dU (hxd h4).1 (hxd h4).2
    have hs := hz (n, e) (List.mem_cons_self ..)
    obtain ⟨g1, q1, r1⟩ := pchans (t := t) (n := n) (x := x) (d := d) (e := e) hs.1 hs.2 (eA c).1 d.Chans.length 0 fuel g (by omega) (by have := (eA c).1; omega) (by rw [show e ++ fU x.N 0 = e from List.append_nil e]; exact hR)
    refine ⟨g1, rp_in b h4 r1, fun K => ?_⟩
    rw [if_pos h4, if_pos h4, q3, bsm, bsm, b, bsm]
    rw [show kL t n x d fuel 0 g = some g1 from q1, bsm, bsm]
   ·exact ⟨g, rp_out h4 hR, fun K => by rw [if_neg h4, if_neg h4, bsm]⟩
  obtain ⟨g1, hg1, hg2⟩ := hg
  obtain ⟨y1, q1⟩ := dU (xs := t.denotes) h0 (by omega)
  have own := aDv (R := RP) (n := n) (e := e) (x := x) (den := t.denotes) (heads := t.heads) hR ⟨h0, by omega⟩ hxd
  have hn' := hn; have hd' := hd
  rw [List.map_cons, List.nodup_cons] at hn'
  rw [List.map_append, List.nodup_append] at hd'
  obtain ⟨s2, e2, f2⟩ := aEK (R := RP) (p := t.ScopeProg) (h := h) (key := id) (g := fun (s : List (aT Int Usage_channel) × List Int) (b : Int × E) => rJ (jU fuel) t g1 b.1 s.1 s.2) (uE t.ScopeProg x e) (t.denotes.set n.toNat g, if x.Op = 4 then t.heads.set x.N.toNat n else t.heads)
   (fun b hb s0 a1 a2 b1 b2 => by
    have hb' : b ∈ subs t.ScopeProg x e := (aCz hT).mem_iff.1 hb
    obtain ⟨s', c1, c2⟩ := pfill h fuel b.1 b.2 { t with denotes := s0.1, heads := s0.2 } g1 (by omega) rfl (hK b hb') (hg1 b hb) (by show s0.1.length = _; rw [a1]; simp [hl1]) (by show s0.2.length = _; rw [a2, own.l2]; exact hl2)
     (fun q hq => hz q (List.mem_cons_of_mem _ (List.mem_flatMap.2 ⟨b, hb', hq⟩))) b1 b2
    exact ⟨s', by rw [rJ, c1, bsm], c2⟩)
   ((hp1.map _).nodup_iff.2 hn'.2) ((hp2.map _).nodup_iff.2 hd'.2.1)
  refine ⟨s2, ?_, ?_⟩
  ·rw [jU, q1, bsm, hx, bsm, hg2]
   dsimp only
   rw [xQ, bsm]
   dsimp only
   rw [under_eq hx (by omega) hT, ← uE_K (e := e), aBe, e2, bsm]
  ·exact own.trans (f2.congr (fun q => hp1.mem_iff) (fun q => hp2.mem_iff)) hn hd
end Go.Proofs.YtmnbfgeljmhekaaGreat
set_option maxRecDepth 100000
namespace Go.Proofs.YtmnbfgeljmhekaaGreat
open Go.SX Go.SW Go.Dt
abbrev unk : Ref05_Chan := ⟨-1, 0⟩
def rc : Option (Int × Int) → Ref05_Chan
 | some c => ⟨c.1, c.2⟩
 | none => unk
theorem gU {β : Type} {l : List β} (h : l.length ≤ 1000000000) : eI l = some l := if_pos h
theorem aDV {n : Int} {l : List Ref05_Chan} (hl : l.length ≤ 1000000) (hn : n ≤ 1000000) : ∀ (j i k : Nat), (i : Int) + j = n → j < k → mK n k (l ++ List.replicate i unk) i = some (l ++ List.replicate n.toNat unk)
 | 0, i, k, h, hk => by
  obtain _ | k := k
  ·omega
  rw [mK, if_neg (by omega), show n.toNat = i from by omega]
 | j + 1, i, k, h, hk => by
  obtain _ | k := k
  ·omega
  have : l ++ List.replicate i unk ++ [unk] = l ++ List.replicate (i + 1) unk := by rw [List.append_assoc, List.replicate_succ']
  rw [mK, if_pos (by omega), this, gU (by simp; omega), bsm, aV (by omega), bsm]
  exact aDV hl hn j (i + 1) k (by omega) (by omega)
theorem aBI {fuel : Nat} {n : Int} {l : List Ref05_Chan} (hl : l.length ≤ 1000000) (h0 : 0 ≤ n) (hn : n ≤ 1000000) (hf : n < fuel) : qQ fuel l n = some (l ++ List.replicate n.toNat unk) := by
 have e := aDV hl hn n.toNat 0 fuel (by omega) (by omega)
 rw [qQ, List.nil_append, gU (by omega), bsm, show mK n fuel l 0 = some (l ++ List.replicate n.toNat unk) from by rw [← e, List.replicate_zero, List.append_nil]; rfl, bsm]
theorem rchans {x : ScopeNode} {d : ScopeDef} {e : E} (he : e.length ≤ 1000000) (hd : d.Chans.length ≤ 30) : ∀ (j i k : Nat), i + j = d.Chans.length → j < k →
  lO x d k ((e ++ fU x.N i).map rc) i = some ((e ++ chs x.N d).map rc)
 | 0, i, k, h, hk => by
  obtain _ | k := k
  ·omega
  have : chs x.N d = fU x.N i := by rw [chs, fU, show d.Chans.length = i from by omega]
  rw [lO, if_neg (by omega), this]
 | j + 1, i, k, h, hk => by
  obtain _ | k := k
  ·omega
  have : (e ++ fU x.N i).map rc ++ [(⟨x.N, (i : Int)⟩ : Ref05_Chan)] = (e ++ fU x.N (i + 1)).map rc := by
   rw [show e ++ fU x.N (i + 1) = (e ++ fU x.N i) ++ [some (x.N, (i : Int))] from by rw [fU, List.range_succ, List.map_append, List.append_assoc]; rfl]
   exact (List.map_append (l₁ := e ++ fU x.N i) (l₂ := [some (x.N, (i : Int))]) (f := rc)).symm
  rw [lO, if_pos (by omega), this, gU (by simp [fU]; omega), bsm, aV (by omega), bsm]
  exact rchans he hd j (i + 1) k (by omega) (by omega)
theorem rbrs {d : ScopeDef} {r : ScopeRule} {i : Int} (hi : idx d.Rules i = some r) (suf : List Int) : ∀ (pre : List Int) (k : Nat) (w : Int), r.Joins = pre ++ suf → suf.length < k → pre.length + suf.length ≤ 1000 → 0 ≤ w → w + 3 * suf.length ≤ 100000 → (∀ c ∈ suf, ∃ y, idx d.Chans c = some y ∧ 0 ≤ y.Many ∧ y.Many ≤ 3) →
  mS d i k w pre.length = some (w + brs d.Chans suf) := by
 induction suf with
 | nil =>
  intro pre k w hx hk hB h0 h1 hc
  obtain _ | k := k
  ·omega
  rw [mS, hi, bsm, if_neg (show ¬ (pre.length : Int) < (r.Joins.length : Int) from by rw [hx]; simp), brs, Int.add_zero]
 | cons c suf ih =>
  intro pre k w hx hk hB h0 h1 hc
  obtain _ | k := k
  ·omega
  obtain ⟨y, hy, hy0, hy1⟩ := hc c (List.mem_cons_self ..)
  simp only [List.length_cons] at hk hB h1
  rw [mS, hi, bsm, if_pos (show (pre.length : Int) < (r.Joins.length : Int) from by rw [hx]; exact cC pre suf c), bsm, show idx r.Joins (pre.length : Int) = some c from by rw [hx]; exact bX pre suf c, bsm, hy, bsm, aV (by omega), bsm, aV (by omega), bsm, bT pre c]
  rw [ih (pre ++ [c]) k (w + y.Many) (by rw [hx]; exact cA pre suf c) (by omega) (by simp; omega) (by omega) (by omega) (fun c hc' => hc c (List.mem_cons_of_mem _ hc'))]
  simp only [brs, hy]; congr 1; omega
abbrev RS := List (List Ref05_Chan) × List Int
open Classical in
noncomputable def RG (rec : Ref05_Look → Int → List Ref05_Chan → Option Ref05_Look) (p : ScopeProg) (sz : List Int) (s : RS) (b : Int × List Ref05_Chan) : Option RS :=
 match rec ⟨p, s.1, sz, s.2⟩ b.1 b.2 with
 | some L => if L.p = p ∧ L.Sizes = sz then some (L.Envs, L.Heads) else none
 | none => none
theorem aAg {rec : Ref05_Look → Int → List Ref05_Chan → Option Ref05_Look} {p : ScopeProg} {sz : List Int} {s s' : RS} {b : Int × List Ref05_Chan} (h : RG rec p sz s b = some s') : rec ⟨p, s.1, sz, s.2⟩ b.1 b.2 = some ⟨p, s'.1, sz, s'.2⟩ := by
 unfold RG at h
 split at h
 ·rename_i L e
  split at h
  ·rename_i hc
   cases h
   rw [e, ← hc.1, ← hc.2]
  ·cases h
 ·cases h
theorem RG_in {rec : Ref05_Look → Int → List Ref05_Chan → Option Ref05_Look} {p : ScopeProg} {sz : List Int} {s s' : RS} {b : Int × List Ref05_Chan} (h : rec ⟨p, s.1, sz, s.2⟩ b.1 b.2 = some ⟨p, s'.1, sz, s'.2⟩) : RG rec p sz s b = some s' := by
 unfold RG
 rw [h]
 exact if_pos ⟨rfl, rfl⟩
variable {rec : Ref05_Look → Int → List Ref05_Chan → Option Ref05_Look} {p : ScopeProg} {sz : List Int}
theorem rkids {l : List Ref05_Chan} {x : ScopeNode} (suf : List Int) : ∀ (pre : List Int) (k : Nat) (s s' : RS), x.Kids = pre ++ suf → suf.length < k → pre.length + suf.length ≤ 3000000 → eO (RG rec p sz) s (suf.map fun b => (b, l)) = some s' →
  nR rec l x k pre.length p.Free p.Nodes p.Defs p.Main s.1 sz s.2 = some (p.Free, p.Nodes, p.Defs, p.Main, s'.1, sz, s'.2) := by
 induction suf with
 | nil =>
  intro pre k s s' hx hk hB h
  obtain _ | k := k
  ·omega
  cases h
  rw [nR, if_neg (show ¬ (pre.length : Int) < (x.Kids.length : Int) from by rw [hx]; simp)]
 | cons e suf ih =>
  intro pre k s s' hx hk hB h
  obtain _ | k := k
  ·omega
  simp only [List.map_cons, eO] at h
  obtain ⟨s1, h1, h2⟩ := bind_some h
  simp only [List.length_cons] at hk hB
  rw [nR, if_pos (show (pre.length : Int) < (x.Kids.length : Int) from by rw [hx]; exact cC pre suf e), show idx x.Kids (pre.length : Int) = some e from by rw [hx]; exact bX pre suf e, bsm, show rec ⟨⟨p.Free, p.Nodes, p.Defs, p.Main⟩, s.1, sz, s.2⟩ e l = _ from aAg h1, bsm, aV (by omega), bsm, bT pre e]
  exact ih (pre ++ [e]) k s1 s' (by rw [hx]; exact cA pre suf e) (by omega) (by simp; omega) h2
theorem rspots {l : List Ref05_Chan} {d : ScopeDef} (suf : List ScopeSpot) : ∀ (pre : List ScopeSpot) (k : Nat) (s s' : RS), d.Spots = pre ++ suf → suf.length < k → pre.length + suf.length ≤ 3000000 → eO (RG rec p sz) s (suf.map fun b => (b.Node, l)) = some s' →
  nS rec d l k pre.length p.Free p.Nodes p.Defs p.Main s.1 sz s.2 = some (p.Free, p.Nodes, p.Defs, p.Main, s'.1, sz, s'.2) := by
 induction suf with
 | nil =>
  intro pre k s s' hx hk hB h
  obtain _ | k := k
  ·omega
  cases h
  rw [nS, if_neg (show ¬ (pre.length : Int) < (d.Spots.length : Int) from by rw [hx]; simp)]
 | cons e suf ih =>
  intro pre k s s' hx hk hB h
  obtain _ | k := k
  ·omega
  simp only [List.map_cons, eO] at h
  obtain ⟨s1, h1, h2⟩ := bind_some h
  simp only [List.length_cons] at hk hB
  rw [nS, if_pos (show (pre.length : Int) < (d.Spots.length : Int) from by rw [hx]; exact cC pre suf e), show idx d.Spots (pre.length : Int) = some e from by rw [hx]; exact bX pre suf e, bsm, show rec ⟨⟨p.Free, p.Nodes, p.Defs, p.Main⟩, s.1, sz, s.2⟩ e.Node l = _ from aAg h1, bsm, aV (by omega), bsm, bT pre e]
  exact ih (pre ++ [e]) k s1 s' (by rw [hx]; exact cA pre suf e) (by omega) (by simp; omega) h2
theorem rrules {fuel : Nat} (hf : 1000 ≤ fuel) {l : List Ref05_Chan} (hl : l.length ≤ 1000000) {d : ScopeDef} (hd : okD d = true) (suf : List ScopeRule) : ∀ (pre : List ScopeRule) (k : Nat) (s s' : RS), d.Rules = pre ++ suf → suf.length < k → pre.length + suf.length ≤ 3000000 →
  eO (RG rec p sz) s (suf.map fun b => (b.Node, l ++ List.replicate (brs d.Chans b.Joins).toNat unk)) = some s' →
  lQ fuel rec d l k pre.length p.Free p.Nodes p.Defs p.Main s.1 sz s.2 = some (p.Free, p.Nodes, p.Defs, p.Main, s'.1, sz, s'.2) := by
 induction suf with
 | nil =>
  intro pre k s s' hx hk hB h
  obtain _ | k := k
  ·omega
  cases h
  rw [lQ, if_neg (show ¬ (pre.length : Int) < (d.Rules.length : Int) from by rw [hx]; simp)]
 | cons e suf ih =>
  intro pre k s s' hx hk hB h
  obtain _ | k := k
  ·omega
  simp only [List.map_cons, eO] at h
  obtain ⟨s1, h1, h2⟩ := bind_some h
  simp only [List.length_cons] at hk hB
  have hi : idx d.Rules (pre.length : Int) = some e := by rw [hx]; exact bX pre suf e
  have hm := (eA hd).2.2.2.2 e (eF hi)
  have hb := qN (ch := d.Chans) (js := e.Joins) hm.2
  have hj := rbrs hi e.Joins [] fuel 0 rfl (by omega) (by simp; omega) (by omega) (by omega) hm.2
  rw [Int.zero_add] at hj
  rw [lQ, if_pos (show (pre.length : Int) < (d.Rules.length : Int) from by rw [hx]; exact cC pre suf e), show mS d pre.length fuel 0 0 = some (brs d.Chans e.Joins) from hj, bsm, hi, bsm, aBI hl hb.1 (by omega) (by omega), bsm, show rec ⟨⟨p.Free, p.Nodes, p.Defs, p.Main⟩, s.1, sz, s.2⟩ e.Node _ = _ from aAg h1, bsm, bsm]
  dsimp only
  rw [aV (by omega), bsm, bT pre e]
  exact ih (pre ++ [e]) k s1 s' (by rw [hx]; exact cA pre suf e) (by omega) (by simp; omega) h2
def RR (e : E) (l : List Ref05_Chan) : Prop := l = e.map rc
theorem aBZ (k : Nat) : (List.replicate k (none : Option (Int × Int))).map rc = List.replicate k unk := by rw [List.map_replicate]; rfl
theorem rc_in {e : E} {m : Int} {d : ScopeDef} : (inE e m d).map rc = (e ++ chs m d).map rc ++ List.replicate d.Spots.length unk := by
 rw [inE, List.map_append, aBZ]
theorem rc_ru {e : E} {m : Int} {d : ScopeDef} {r : ScopeRule} : (ruE e m d r).map rc = (inE e m d).map rc ++ List.replicate (brs d.Chans r.Joins).toNat unk := by
 rw [ruE, List.map_append, aBZ]
theorem rfill {p : ScopeProg} {sz : List Int} : ∀ (h fuel : Nat) (n : Int) (e : E) (s : RS), h + 1000 ≤ fuel → Tr p h (n, e) → s.1.length = p.Nodes.length → s.2.length = p.Defs.length →
  (∀ q ∈ LN p h (n, e), q.2.length ≤ 100000) → ((LN p h (n, e)).map (·.1)).Nodup → ((HN p h (n, e)).map (·.1)).Nodup →
  ∃ s' : RS, fI fuel ⟨p, s.1, sz, s.2⟩ n (e.map rc) = some ⟨p, s'.1, sz, s'.2⟩ ∧ Fld RR (LN p h (n, e)) (HN p h (n, e)) s s'
 | 0, fuel, n, e, s, _, hT, _, _, _, _, _ => hT.elim
 | h + 1, fuel, n, e, s, hf, ⟨x, hx, h0, hT, hK⟩, hl1, hl2, hz, hn, hd => by
  obtain _ | fuel := fuel
  ·omega
  dsimp only at hx h0 hT hK
  have hnl := fX hx
  simp only [LN, HN, hx] at hz hn hd ⊢
  have hxd : x.Op = 4 → 0 ≤ x.N ∧ x.N < s.2.length := fun h4 => by
   obtain ⟨a, d, b, _⟩ := e_len (e := e) hT h4
   have := fX b
   omega
  obtain ⟨y1, q1⟩ := dU (xs := s.1) h0 (by omega)
  have hown := aDv (R := RR) (n := n) (e := e) (x := x) (den := s.1) (heads := s.2) (y := e.map rc) rfl ⟨h0, by omega⟩ hxd
  have hn' := hn; have hd' := hd
  rw [List.map_cons, List.nodup_cons] at hn'
  rw [List.map_append, List.nodup_append] at hd'
  obtain ⟨s2, e2, f2⟩ := aEK (R := RR) (p := p) (h := h) (key := id) (g := fun (s : RS) (b : Int × E) => RG (fI fuel) p sz s (b.1, b.2.map rc)) (subs p x e) (s.1.set n.toNat (e.map rc), if x.Op = 4 then s.2.set x.N.toNat n else s.2)
   (fun b hb s0 a1 a2 b1 b2 => by
    obtain ⟨s', c1, c2⟩ := rfill h fuel b.1 b.2 s0 (by omega) (hK b hb) (by rw [a1]; simp [hl1]) (by rw [a2, hown.l2]; exact hl2)
     (fun q hq => hz q (List.mem_cons_of_mem _ (List.mem_flatMap.2 ⟨b, hb, hq⟩))) b1 b2
    exact ⟨s', RG_in c1, c2⟩)
   hn'.2 hd'.2.1
  refine ⟨s2, ?_, hown.trans f2 hn hd⟩
  rw [← aBe (g := RG (fI fuel) p sz) (f := fun b : Int × E => (b.1, b.2.map rc))] at e2
  rw [fI, q1, bsm, hx, bsm]
  by_cases h4 : x.Op = 4
  ·obtain ⟨_, d, b, c⟩ := e_len (e := e) hT h4
   have hk1 : x.Kids.length = 1 := by rcases hT with h | h | h | h | h <;> omega
   obtain ⟨k, hk⟩ := List.length_eq_one_iff.1 hk1
   obtain ⟨y3, q3⟩ := dU (hxd h4).1 (hxd h4).2
   have bd := eA c
   have he : e.length ≤ 100000 := hz (n, e) (List.mem_cons_self ..)
   have rch := rchans (x := x) (d := d) (e := e) (by omega) bd.1 d.Chans.length 0 fuel (by omega) (by omega)
   rw [show e ++ fU x.N 0 = e from List.append_nil e] at rch
   rw [subs, if_pos h4, b] at e2
   dsimp only at e2
   rw [if_pos h4, List.map_append, List.map_append, wG] at e2
   obtain ⟨s3, i1, e2⟩ := bind_some e2
   rw [wG] at e2
   obtain ⟨s4, i2, e2⟩ := bind_some e2
   have e1 : (d.Rules.map (fun r => (r.Node, ruE e x.N d r))).map (fun b : Int × E => (b.1, b.2.map rc)) = d.Rules.map fun r => (r.Node, (inE e x.N d).map rc ++ List.replicate (brs d.Chans r.Joins).toNat unk) := by
    rw [List.map_map]; exact List.map_congr_left fun r hr => by show (r.Node, (ruE e x.N d r).map rc) = _; rw [rc_ru]
   have e3 : (d.Spots.map (fun y => (y.Node, inE e x.N d))).map (fun b : Int × E => (b.1, b.2.map rc)) = d.Spots.map fun y => (y.Node, (inE e x.N d).map rc) := by
    rw [List.map_map]; rfl
   rw [e1] at i1
   rw [e3] at i2
   rw [hk] at e2
   simp only [List.map_cons, List.map_nil, eO] at e2
   obtain ⟨s5, i3, e2⟩ := bind_some e2
   cases e2
   have hin : ((inE e x.N d).map rc).length ≤ 1000000 := by rw [List.length_map]; have := qY (e := e) (m := x.N) (d := d); unfold own at this; omega
   rw [if_neg (fun q => q h4), bsm]
   dsimp only
   rw [q3, bsm, b, bsm, List.nil_append, gU (by rw [List.length_map]; omega), bsm, show lO x d fuel (e.map rc) 0 = _ from rch, bsm, aBI (by rw [List.length_map, List.length_append, aCx]; omega) (by omega) (by omega) (by omega), bsm, Int.toNat_natCast, ← rc_in,
    show lQ fuel (fI fuel) d ((inE e x.N d).map rc) fuel 0 p.Free p.Nodes p.Defs p.Main (s.1.set n.toNat (e.map rc)) sz (s.2.set x.N.toNat n) = _ from rrules (by omega) hin c d.Rules [] fuel (s.1.set n.toNat (e.map rc), s.2.set x.N.toNat n) s3 rfl (by omega) (by simp; omega) i1, bsm]
   dsimp only
   rw [show nS (fI fuel) d ((inE e x.N d).map rc) fuel 0 p.Free p.Nodes p.Defs p.Main s3.1 sz s3.2 = _ from rspots d.Spots [] fuel s3 s4 rfl (by omega) (by simp; omega) i2, bsm]
   dsimp only
   rw [hk, show idx [k] (0 : Int) = some k from rfl, bsm, show fI fuel ⟨⟨p.Free, p.Nodes, p.Defs, p.Main⟩, s4.1, sz, s4.2⟩ k ((inE e x.N d).map rc) = _ from aAg i3, bsm]
  ·have hk : x.Kids.length ≤ 2 := by rcases hT with h | h | h | h | h <;> omega
   rw [subs, if_neg h4, if_neg h4, List.map_map] at e2
   rw [if_pos h4, show nR (fI fuel) (e.map rc) x fuel 0 p.Free p.Nodes p.Defs p.Main (s.1.set n.toNat (e.map rc)) sz s.2 = _ from rkids x.Kids [] fuel (s.1.set n.toNat (e.map rc), s.2) s2 rfl (by omega) (by simp; omega) e2, bsm]
   rfl
end Go.Proofs.YtmnbfgeljmhekaaGreat
set_option maxRecDepth 100000
namespace Go.Proofs.YtmnbfgeljmhekaaGreat
open Go.SX Go.SW Go.Dt
variable {p : ScopeProg}
def cP (p : ScopeProg) : Int × E := (p.Main, List.replicate p.Free.length none)
theorem qJ {x : ScopeNode} {z : Int} (hT : okT p x z) (h4 : x.Op = 4) : 0 ≤ x.N ∧ x.Kids.length = 1 ∧ ∃ d, idx p.Defs x.N = some d ∧ okD d = true := by
 rcases hT with h | h | h | h | ⟨_, h1, h0, h⟩
 ·omega
 ·omega
 ·omega
 ·omega
 ·exact ⟨h0, h1, h⟩
theorem zX {P : E → Prop} {x : ScopeNode} {e : E} {z : Int} (hin : ∀ m d, idx p.Defs m = some d → okD d = true → P (inE e m d)) (hru : ∀ m d r, idx p.Defs m = some d → okD d = true → r ∈ d.Rules → P (ruE e m d r)) (hT : okT p x z) (he : P e) : ∀ q ∈ subs p x e, P q.2 := fun q hq => by
 unfold subs at hq
 split at hq
 ·rename_i h4
  obtain ⟨_, _, d, hd, ho⟩ := qJ hT h4
  rw [hd] at hq
  dsimp only at hq
  rcases List.mem_append.1 hq with hq | hq
  ·obtain ⟨r, hr, rfl⟩ := List.mem_map.1 hq; exact hru x.N d r hd ho hr
  ·rcases List.mem_append.1 hq with hq | hq
   ·obtain ⟨r, hr, rfl⟩ := List.mem_map.1 hq; exact hin x.N d hd ho
   ·obtain ⟨r, hr, rfl⟩ := List.mem_map.1 hq; exact hin x.N d hd ho
 ·obtain ⟨r, hr, rfl⟩ := List.mem_map.1 hq; exact he
theorem ln_all {P : E → Prop} (hin : ∀ e m d, idx p.Defs m = some d → okD d = true → P e → P (inE e m d)) (hru : ∀ e m d r, idx p.Defs m = some d → okD d = true → r ∈ d.Rules → P e → P (ruE e m d r)) : ∀ (h : Nat) (q : Int × E), Tr p h q → P q.2 → ∀ b ∈ LN p h q, P b.2
 | 0, q, hT, _, b, hb => hT.elim
 | h + 1, q, ⟨x, hx, h0, hT, hK⟩, he, b, hb => by
  simp only [LN, hx] at hb
  cases hb with
  | head => exact he
  | tail _ hb =>
   obtain ⟨c, hc, hb⟩ := List.mem_flatMap.1 hb
   exact ln_all hin hru h c (hK c hc) (zX (fun m d a b => hin _ m d a b he) (fun m d r a b c => hru _ m d r a b c he) hT he c hc) b hb
theorem yM : ∀ (h : Nat) (q : Int × E), Tr p h q → ∀ b ∈ LN p h q, b.2.length ≤ q.2.length + 70 * h
 | 0, q, hT, b, hb => hT.elim
 | h + 1, q, ⟨x, hx, h0, hT, hK⟩, b, hb => by
  simp only [LN, hx] at hb
  cases hb with
  | head => omega
  | tail _ hb =>
   obtain ⟨c, hc, hb⟩ := List.mem_flatMap.1 hb
   have a := yM h c (hK c hc) b hb
   have c1 : c.2.length ≤ q.2.length + 70 := zX (P := fun e => e.length ≤ q.2.length + 70) (e := q.2)
    (fun m d h1 h2 => by have a := qY (e := q.2) (m := m) (d := d); have b := eA h2; unfold own at a; omega)
    (fun m d r h1 h2 h3 => by have a := aAN (e := q.2) (m := m) h2 h3; have b := eA h2; have c := (b.2.2.2.2 r h3); have d := qN c.2; have := c.1; unfold own at a; omega) hT (by omega) c hc
   omega
theorem aBV {s : VS} (h : eX p = some s) : ∃ H, p.Nodes.length = H ∧ H ≤ 60 ∧ p.Defs.length ≤ 12 ∧ p.Free.length ≤ 12 ∧ Tr p H (cP p) ∧ s.sz.length = p.Nodes.length ∧ ((LN p H (cP p)).map (·.1)).Nodup ∧ ((HN p H (cP p)).map (·.1)).Nodup ∧ (∀ q ∈ LN p H (cP p), idx s.sz q.1 = some (q.2.length : Int)) ∧
  (∀ n : Int, 0 ≤ n → n < p.Nodes.length → ∃ e, (n, e) ∈ LN p H (cP p)) ∧ ∀ d : Int, 0 ≤ d → d < p.Defs.length → ∃ n, (d, n) ∈ HN p H (cP p) := by
 unfold eX at h
 split at h
 ·rename_i hb
  obtain ⟨s1, h1, h⟩ := bind_some h
  split at h
  ·rename_i hm
   cases h
   have e1 : (p.Free.length : Int) = ((cP p).2.length : Int) := by simp [cP]
   rw [e1] at h1
   obtain ⟨c, t⟩ := aEo p.Nodes.length (start p) s (cP p) h1 (by simp [start])
   refine ⟨_, rfl, hb.2.1, hb.2.2.1, hb.1, t, by rw [c.ls]; simp [start], c.nn, c.dn, fun q hq => (c.new q hq).2.2, fun n h0 hn => ?_, fun d h0 hn => ?_⟩
   ·apply Classical.byContradiction
    intro q
    have hi : n ∉ (LN p p.Nodes.length (cP p)).map (·.1) := fun z => by obtain ⟨⟨a, e⟩, hq, rfl⟩ := List.mem_map.1 z; exact q ⟨e, hq⟩
    have o := (c.old n hi).1
    obtain ⟨y, hy⟩ := dU (xs := s.met) h0 (by rw [c.lm]; simp [start]; exact hn)
    have y1 : y = true := by have := List.all_eq_true.1 hm.1 y (eF hy); exact this
    rw [hy, y1] at o
    have := eF o.symm
    simp [start] at this
   ·apply Classical.byContradiction
    intro q
    have hi : d ∉ (HN p p.Nodes.length (cP p)).map (·.1) := fun z => by obtain ⟨⟨a, e⟩, hq, rfl⟩ := List.mem_map.1 z; exact q ⟨e, hq⟩
    have o := c.oldd d hi
    have hs : idx (start p).dfs d = some false := by
     obtain ⟨y, hy⟩ := dU (xs := (start p).dfs) h0 (by simp [start]; exact hn)
     have := eF hy
     simp [start] at this
     rw [hy, this.2]
    rw [hs] at o
    have := List.all_eq_true.1 hm.2 false (eF o)
    cases this
  ·cases h
 ·cases h
structure TP (p : ScopeProg) (H : Nat) (sz : List Int) (t : Usage_text) : Prop where
 prog : t.ScopeProg = p
 sizes : t.sizes = sz
 on : ∀ q ∈ LN p H (cP p), ∃ g, idx t.denotes q.1 = some g ∧ RP q.2 g
 hd : ∀ q ∈ HN p H (cP p), idx t.heads q.1 = some q.2
structure LP (p : ScopeProg) (H : Nat) (sz : List Int) (L : Ref05_Look) : Prop where
 prog : L.p = p
 sizes : L.Sizes = sz
 on : ∀ q ∈ LN p H (cP p), ∃ g, idx L.Envs q.1 = some g ∧ RR q.2 g
 hd : ∀ q ∈ HN p H (cP p), idx L.Heads q.1 = some q.2
theorem mk_ok {α : Type} {z : α} {n : Nat} (h : n ≤ 1000000000) : mk z (n : Int) = some (List.replicate n z) := by unfold mk; rw [if_pos (by omega), Int.toNat_natCast]
theorem rp_root {n : Nat} : RP (List.replicate n none) aT.none := fun i => by
 cases hq : idx (List.replicate n (none : Option (Int × Int))) i with
 | none => rfl
 | some o => rw [List.eq_of_mem_replicate (eF hq)]; rfl
theorem read_eq (hp : SmP p) {s : VS} (h : eX p = some s) {H : Nat} (hH : p.Nodes.length = H) : ∃ t, pV F p = some t ∧ TP p H s.sz t := by
 obtain ⟨H', h1, h2, h3, h4, hT, hl, hn, hd, hz, _, _⟩ := aBV h
 have : H' = H := by omega
 subst this
 obtain ⟨s', e, f⟩ := pfill (p := p) H' F p.Main (List.replicate p.Free.length none) ⟨p, List.replicate p.Nodes.length aT.none, s.sz, List.replicate p.Defs.length 0⟩ aT.none (by show _ ≤ 4000000; omega) rfl hT rp_root (by simp) (by simp)
  (fun q hq => ⟨hz q hq, by have := yM H' (cP p) hT q hq; have b : (cP p).2.length ≤ 12 := (by simp [cP]; omega); omega⟩) hn hd
 refine ⟨⟨p, s'.1, s.sz, s'.2⟩, ?_, rfl, rfl, f.on, f.hd⟩
 rw [pV, mk_ok (by omega), bsm, mk_ok (by omega), bsm, show tJ F ⟨p.Free, p.Nodes, p.Defs, p.Main⟩ = _ from sizes_eq hp h hl (by omega), bsm]
 dsimp only
 rw [show jU F ⟨⟨p.Free, p.Nodes, p.Defs, p.Main⟩, List.replicate p.Nodes.length aT.none, s.sz, List.replicate p.Defs.length 0⟩ p.Main aT.none = _ from e, bsm]
theorem see1 {p : ScopeProg} (hB : p.Nodes.length ≤ 1000) : ∀ (j i k : Nat), i + j = p.Nodes.length → j < k → mO p k i (List.replicate i []) = some (List.replicate p.Nodes.length [])
 | 0, i, k, h, hk => by
  obtain _ | k := k
  ·omega
  rw [mO, if_neg (by omega), show i = p.Nodes.length from by omega]
 | j + 1, i, k, h, hk => by
  obtain _ | k := k
  ·omega
  rw [mO, if_pos (by omega), ← List.replicate_succ', gU (by simp; omega), bsm, aV (by omega), bsm]
  exact see1 hB j (i + 1) k (by omega) (by omega)
theorem see2 {p : ScopeProg} (hB : p.Defs.length ≤ 1000) : ∀ (j i k : Nat), i + j = p.Defs.length → j < k → lZ p k i (List.replicate i 0) = some (List.replicate p.Defs.length 0)
 | 0, i, k, h, hk => by
  obtain _ | k := k
  ·omega
  rw [lZ, if_neg (by omega), show i = p.Defs.length from by omega]
 | j + 1, i, k, h, hk => by
  obtain _ | k := k
  ·omega
  rw [lZ, if_pos (by omega), ← List.replicate_succ', gU (by simp; omega), bsm, aV (by omega), bsm]
  exact see2 hB j (i + 1) k (by omega) (by omega)
theorem see_eq (hp : SmP p) {s : VS} (h : eX p = some s) {H : Nat} (hH : p.Nodes.length = H) : ∃ L, tA F p = some L ∧ LP p H s.sz L := by
 obtain ⟨H', h1, h2, h3, h4, hT, hl, hn, hd, hz, _, _⟩ := aBV h
 have : H' = H := by omega
 subst this
 obtain ⟨s', e, f⟩ := rfill (p := p) (sz := s.sz) H' F p.Main (List.replicate p.Free.length none) (List.replicate p.Nodes.length [], List.replicate p.Defs.length 0) (by show _ ≤ 4000000; omega) hT (by simp) (by simp)
  (fun q hq => by have := yM H' (cP p) hT q hq; have b : (cP p).2.length ≤ 12 := (by simp [cP]; omega); omega) hn hd
 refine ⟨⟨p, s'.1, s.sz, s'.2⟩, ?_, rfl, rfl, f.on, f.hd⟩
 have u := aBI (fuel := F) (n := (p.Free.length : Int)) (l := []) (by simp) (by omega) (by omega) (by show _ < ((4000000 : Nat) : Int); omega)
 rw [List.nil_append, Int.toNat_natCast, ← aBZ] at u
 rw [tA, show tW F ⟨p.Free, p.Nodes, p.Defs, p.Main⟩ = _ from aFP hp h, bsm, show mO p F 0 [] = _ from see1 (by omega) p.Nodes.length 0 F (by omega) (by show _ < 4000000; omega), bsm, show lZ p F 0 [] = _ from see2 (by omega) p.Defs.length 0 F (by omega) (by show _ < 4000000; omega), bsm, u, bsm,
  show fI F ⟨⟨p.Free, p.Nodes, p.Defs, p.Main⟩, List.replicate p.Nodes.length [], s.sz, List.replicate p.Defs.length 0⟩ p.Main _ = _ from e, bsm]
end Go.Proofs.YtmnbfgeljmhekaaGreat
set_option maxRecDepth 100000
namespace Go.Proofs.YtmnbfgeljmhekaaGreat
open Go.SX Go.SW Go.Dt
def cnt (k : Int) : Int := if k = 1 then 0 else if k = 4 then 2 else 1
def two (v : Int) : Prop := 0 ≤ v ∧ v ≤ 2
theorem of_p (k : Int) : mR k = some (cnt k) := by
 unfold mR cnt; split
 ·rfl
 ·split <;> rfl
theorem of_r (k : Int) : nG k = some (cnt k) := by
 unfold nG cnt; split
 ·rfl
 ·split <;> rfl
theorem jB (k : Int) : two (cnt k) := by unfold cnt two; repeat' split <;> omega
theorem zB {a b : Int} (ha : two a) (hb : two b) : oO a b = some (min (a + b) 2) := by unfold two at ha hb; rw [oO, aV (by omega), bsm]
theorem zG {a b : Int} (ha : two a) (hb : two b) : qA a b = some (min (a + b) 2) := by unfold two at ha hb; rw [qA, aV (by omega), bsm]
theorem kI {a b : Int} (ha : two a) (hb : two b) : two (min (a + b) 2) := by unfold two at *; omega
theorem aAD {a : Int} (h : two a) : a = 0 ∨ a = 1 ∨ a = 2 := by unfold two at h; omega
theorem aA4 {a b : Int} (ha : two a) (hb : two b) : 0 ≤ a * b ∧ a * b ≤ 4 := by
 rcases aAD ha with rfl | rfl | rfl <;> unfold two at hb <;> omega
theorem times_p {a b : Int} (ha : two a) (hb : two b) : xC a b = some (min (a * b) 2) := by have := aA4 ha hb; rw [xC, aV (by omega), bsm]
theorem times_r {a b : Int} (ha : two a) (hb : two b) : vI a b = some (min (a * b) 2) := by have := aA4 ha hb; rw [vI, aV (by omega), bsm]
theorem aDe {a b : Int} (ha : two a) (hb : two b) : two (min (a * b) 2) := by have := aA4 ha hb; unfold two; omega
structure kS (d : ScopeDef) (x : UsageDef) : Prop where
 chans : x.Chans.length = d.Chans.length
 rules : x.Rules.length = d.Rules.length
 args : x.Args.length = d.Chans.length
 many : ∀ c ch a, idx d.Chans c = some ch → idx x.Args c = some a → (a.length : Int) = ch.Many
def fO (p : ScopeProg) (t : List UsageDef) : Prop := t.length = p.Defs.length ∧ ∀ i d x, idx p.Defs i = some d → idx t i = some x → kS d x
theorem oD {p : ScopeProg} {t : List UsageDef} (h : fO p t) {i : Int} {d : ScopeDef} (hd : idx p.Defs i = some d) : ∃ x, idx t i = some x ∧ kS d x := by
 have := fX hd
 obtain ⟨x, hx⟩ := dU (xs := t) this.1 (by rw [h.1]; exact this.2)
 exact ⟨x, hx, h.2 i d x hd hx⟩
theorem tab_arg {p : ScopeProg} {t : List UsageDef} (h : fO p t) {i c : Int} {d : ScopeDef} {ch : ScopeChan} (hd : idx p.Defs i = some d) (hc : idx d.Chans c = some ch) : ∃ x a, idx t i = some x ∧ idx x.Args c = some a ∧ (a.length : Int) = ch.Many := by
 obtain ⟨x, hx, k⟩ := oD h hd
 have := fX hc
 obtain ⟨a, ha⟩ := dU (xs := x.Args) this.1 (by rw [k.args]; exact this.2)
 exact ⟨x, a, hx, ha, k.many c ch a hc ha⟩
theorem tab_rule {p : ScopeProg} {t : List UsageDef} (h : fO p t) {i : Int} {d : ScopeDef} (hd : idx p.Defs i = some d) : ∃ x, idx t i = some x ∧ x.Rules.length = d.Rules.length := by
 obtain ⟨x, hx, k⟩ := oD h hd
 exact ⟨x, hx, k.rules⟩
def hE (p : ScopeProg) (e : E) : Prop := ∀ i c, idx e i = some (some c) → ∃ d y, idx p.Defs c.1 = some d ∧ idx d.Chans c.2 = some y
def argW (ar : Option (List Int)) (w i : Int) : Int := match ar with | none => 2 | some a => min (w + cnt ((idx a i).getD 0)) 2
def iA (ar : Option (List Int)) (v : Int) : List ScopeExp → Int → Int → Int
 | [], _, w => w
 | e :: l, i, w => iA ar v l (i + 1) (if e.Op ≠ 2 then w else if e.N ≠ v then w else argW ar w i)
def chOf (p : ScopeProg) (c : Int × Int) : Option ScopeChan := (idx p.Defs c.1).bind fun d => idx d.Chans c.2
def arOf (tab : List UsageDef) (c : Int × Int) : List Int := ((idx tab c.1).bind fun x => idx x.Args c.2).getD []
def rH (p : ScopeProg) (tab : List UsageDef) (x : ScopeNode) (e : E) (v : Int) : Int :=
 match idx e x.N with
 | some (some c) => if (chOf p c).elim 0 (·.Many) = (x.Args.length : Int) then iA (some (arOf tab c)) v x.Args 0 (if x.N = v then 1 else 0) else 0
 | _ => iA none v x.Args 0 (if x.N = v then 1 else 0)
def gW (x : ScopeNode) (i : Int) : Int := (idx x.Kids i).getD 0
def oX (ru : List Int) (sv : ScopeRule → Int) : List ScopeRule → Int → Int → Int
 | [], _, w => w
 | r :: l, i, w => oX ru sv l (i + 1) (min (w + min (cnt ((idx ru i).getD 0) * sv r) 2) 2)
def lE (tab : List UsageDef) (x : ScopeNode) (d : ScopeDef) (e : E) (sv : Int × E → Int) : Int :=
 oX ((idx tab x.N).elim [] (·.Rules)) (fun r => sv (r.Node, ruE e x.N d r)) d.Rules 0 (d.Spots.foldl (fun w y => min (w + sv (y.Node, inE e x.N d)) 2) (sv (gW x 0, inE e x.N d)))
def kJ (p : ScopeProg) (tab : List UsageDef) (sv : Int × E → Int) (x : ScopeNode) (e : E) (v : Int) : Int :=
 if x.Op = 2 then rH p tab x e v
 else if x.Op = 3 then min (sv (gW x 0, e) + sv (gW x 1, e)) 2
 else if x.Op = 5 then max (sv (gW x 0, e)) (sv (gW x 1, e))
 else if x.Op = 6 ∨ x.Op = 8 then sv (gW x 0, e)
 else if x.Op = 4 then match idx p.Defs x.N with | some d => lE tab x d e sv | none => 0
 else 0
def gH (p : ScopeProg) (tab : List UsageDef) (v : Int) : Nat → Int × E → Int
 | 0, _ => 0
 | h + 1, q => match idx p.Nodes q.1 with | some x => kJ p tab (gH p tab v h) x q.2 v | none => 0
def begM (x : ScopeNode) (d : ScopeDef) (e : E) (sv : Int × E → Int) : Int := d.Spots.foldl (fun w y => w + sv (y.Node, inE e x.N d)) (sv (gW x 0, inE e x.N d))
def surW (p : ScopeProg) (x : ScopeNode) (v : Int) (o : Option (Int × Int)) : Int := match o with | some c => if x.N = v ∧ (chOf p c).elim 0 (·.Many) = (x.Args.length : Int) then 1 else 0 | none => 0
def kZ (p : ScopeProg) (sv : Int × E → Int) (x : ScopeNode) (e : E) (v : Int) : Int :=
 if x.Op = 2 then surW p x v ((idx e v).getD none)
 else if x.Op = 3 then sv (gW x 0, e) + sv (gW x 1, e)
 else if x.Op = 5 then min (sv (gW x 0, e)) (sv (gW x 1, e))
 else if x.Op = 4 then match idx p.Defs x.N with | some d => begM x d e sv | none => 0
 else 0
def kW (p : ScopeProg) (v : Int) : Nat → Int × E → Int
 | 0, _ => 0
 | h + 1, q => match idx p.Nodes q.1 with | some x => kZ p (kW p v h) x q.2 v | none => 0
theorem iU {x : ScopeNode} {i k : Int} (h : idx x.Kids i = some k) : gW x i = k := by unfold gW; rw [h]; rfl
theorem aFy {t : List UsageDef} {v : Int} {x : ScopeNode} {g : aT Int Usage_channel} {y3 : Ref05_Chan}
  {ar : Option (List Int)} (H : (g.get x.N = none ∧ y3.Def < 0 ∧ ar = none) ∨ (g.get x.N = some ⟨y3.Def, y3.Index⟩ ∧ 0 ≤ y3.Def ∧ ∃ tx, idx t y3.Def = some tx ∧ ∃ a, ar = some a ∧ idx tx.Args y3.Index = some a ∧ a.length = x.Args.length)) (suf : List ScopeExp) :
  ∀ (pre : List ScopeExp) (k k' : Nat) (w : Int), x.Args = pre ++ suf → suf.length < k → suf.length < k' → pre.length + suf.length ≤ 1000 → two w → ∃ r, (two r ∧ r = iA ar v suf pre.length w) ∧ kH t v x g k w pre.length = some r ∧ kV t v x y3 k' w pre.length = some r := by
 induction suf with
 | nil =>
  intro pre k k' w hx hk hk' hB hw
  obtain _ | k := k
  ·omega
  obtain _ | k' := k'
  ·omega
  have : ¬ (pre.length : Int) < (x.Args.length : Int) := by rw [hx]; simp
  exact ⟨w, ⟨hw, rfl⟩, by rw [kH, if_neg this], by rw [kV, if_neg this]⟩
 | cons e suf ih =>
  intro pre k k' w hx hk hk' hB hw
  obtain _ | k := k
  ·omega
  obtain _ | k' := k'
  ·omega
  simp only [List.length_cons] at hk hk' hB
  have hlt : (pre.length : Int) < (x.Args.length : Int) := by rw [hx]; exact cC pre suf e
  have hi : idx x.Args (pre.length : Int) = some e := by rw [hx]; exact bX pre suf e
  have next : ∀ w', two w' → ∃ r, (two r ∧ r = iA ar v suf ((pre.length : Int) + 1) w') ∧ kH t v x g k w' ((pre.length : Int) + 1) = some r ∧ kV t v x y3 k' w' ((pre.length : Int) + 1) = some r := fun w' hw' => by
   rw [bT pre e]
   exact ih (pre ++ [e]) k k' w' (by rw [hx]; exact cA pre suf e) (by omega) (by omega) (by simp; omega) hw'
  have ha : iA ar v (e :: suf) pre.length w = iA ar v suf ((pre.length : Int) + 1) (if e.Op ≠ 2 then w else if e.N ≠ v then w else argW ar w pre.length) := rfl
  rw [ha, kH, kV, if_pos hlt, if_pos hlt, hi, bsm, bsm]
  by_cases h1 : e.Op ≠ 2
  ·rw [if_pos h1, if_pos h1, if_pos h1, bsm, bsm, aV (by omega), bsm, bsm]; exact next w hw
  ·rw [if_neg h1, if_neg h1, if_neg h1, bsm]
   by_cases h2 : e.N ≠ v
   ·rw [if_pos h2, if_pos h2, if_pos h2, bsm, bsm, aV (by omega), bsm, bsm]; exact next w hw
   ·rw [if_neg h2, if_neg h2, if_neg h2]
    rcases H with ⟨a, b, rfl⟩ | ⟨a, b, tx, c1, ar, rfl, c2, c3⟩
    ·rw [a, if_pos b]
     show ∃ r, _ ∧ ((some (2 : Int)).bind _) = some r ∧ _
     rw [bsm, bsm, aV (by omega), bsm, bsm]; exact next 2 ⟨by omega, by omega⟩
    ·obtain ⟨z, hz⟩ := dU (xs := ar) (i := (pre.length : Int)) (by omega) (by omega)
     rw [a, if_neg (by omega), c1, bsm, c2, bsm, hz, bsm, of_r, bsm, zG hw (jB z), bsm, bsm]
     show ∃ r, _ ∧ (((idx t y3.Def).bind _).bind _) = some r ∧ _
     rw [c1, bsm]
     show ∃ r, (_ ∧ r = iA _ v suf _ (argW (some ar) w pre.length)) ∧ (((idx tx.Args y3.Index).bind _).bind _) = some r ∧ _
     rw [show argW (some ar) w pre.length = min (w + cnt z) 2 from by unfold argW; dsimp only; rw [hz]; rfl]
     rw [c2, bsm, hz, bsm, of_p, bsm, zB hw (jB z), bsm, bsm, aV (by omega), bsm, bsm]
     exact next _ (kI hw (jB z))
structure At (t : Usage_text) (L : Ref05_Look) (q : Int × E) : Prop where
 p : ∃ g, idx t.denotes q.1 = some g ∧ RP q.2 g
 r : ∃ g, idx L.Envs q.1 = some g ∧ RR q.2 g
theorem aDN {α β : Type} {f : α → β} {l : List α} {i : Int} {y : α} (h : idx l i = some y) : idx (l.map f) i = some (f y) := by
 have := fX h
 unfold idx at h ⊢
 rw [if_pos this.1] at h ⊢
 rw [List.getElem?_map, h]; rfl
theorem send_eq {p : ScopeProg} {t : Usage_text} {L : Ref05_Look} (ht : t.ScopeProg = p) (hL : L.p = p) {tab : List UsageDef} (hk : fO p tab) {n : Int} {e : E} {x : ScopeNode} (hx : idx p.Nodes n = some x) (hN : 0 ≤ x.N ∧ x.N < e.length) (hA : x.Args.length ≤ 3) (hat : At t L (n, e)) (he : hE p e) {v : Int} {f f' : Nat} (hf : 10 ≤ f) (hf' : 10 ≤ f') :
  ∃ r, (two r ∧ r = rH p tab x e v) ∧ vP f t tab n v = some r ∧ vJ f' L tab n v = some r := by
 subst ht
 obtain ⟨⟨g, g1, g2⟩, ⟨l, l1, l2⟩⟩ := hat
 obtain ⟨o, ho⟩ := dU hN.1 hN.2
 dsimp only at g1 g2 l1 l2
 have gg := g2 x.N
 rw [ho, bsm] at gg
 have ll : idx l x.N = some (rc o) := by rw [l2]; exact aDN ho
 have hw : two (if x.N = v then 1 else 0) := by unfold two; split <;> omega
 have fin : ∀ (y3 : Ref05_Chan) (ar : Option (List Int)) (_ : (g.get x.N = none ∧ y3.Def < 0 ∧ ar = none) ∨ (g.get x.N = some ⟨y3.Def, y3.Index⟩ ∧ 0 ≤ y3.Def ∧ ∃ tx, idx tab y3.Def = some tx ∧ ∃ a, ar = some a ∧ idx tx.Args y3.Index = some a ∧ a.length = x.Args.length)),
   ∃ r, (two r ∧ r = iA ar v x.Args 0 (if x.N = v then 1 else 0)) ∧ ((if x.N = v then some 1 else some 0).bind fun x1 => (kH tab v x g f x1 0).bind fun x2 => some x2) = some r ∧ ((if x.N = v then some 1 else some 0).bind fun x1 => (kV tab v x y3 f' x1 0).bind fun x2 => some x2) = some r := fun y3 ar H => by
  obtain ⟨r, r1, r2, r3⟩ := aFy (v := v) H x.Args [] f f' _ rfl (by omega) (by omega) (by simp; omega) hw
  have e0 : (if x.N = v then some (1 : Int) else some 0) = some (if x.N = v then 1 else 0) := by split <;> rfl
  rw [e0, bsm, bsm]
  exact ⟨r, r1, by rw [gR]; exact r2, by rw [gR]; exact r3⟩
 rw [vP, vJ, hx, bsm, g1, bsm, hL, hx, bsm, l1, bsm, bsm, ll, bsm]
 unfold rH
 rw [ho]
 cases o with
 | none =>
  rw [gg, if_neg (show ¬ 0 ≤ (rc none).Def from by simp [rc])]
  exact fin unk none (.inl ⟨gg, by decide, rfl⟩)
 | some c =>
  obtain ⟨d, y, hd, hy⟩ := he _ _ ho
  have h0 := (fX hd).1
  rw [gg, if_pos (show 0 ≤ (rc (some c)).Def from h0)]
  have hM : (chOf t.ScopeProg c).elim 0 (·.Many) = y.Many := by unfold chOf; rw [hd, bsm, hy]; rfl
  show ∃ r, (_ ∧ r = (if (chOf t.ScopeProg c).elim 0 (·.Many) = (x.Args.length : Int) then _ else 0)) ∧ (((qI t ⟨c.1, c.2⟩ n).bind _).bind _) = some r ∧ (((idx t.ScopeProg.Defs c.1).bind fun y4 => (idx y4.Chans c.2).bind _).bind _) = some r
  rw [hM, qI, hd, bsm, bsm, hy, bsm, bsm, hx, bsm, bsm]
  by_cases hm : y.Many = (x.Args.length : Int)
  ·rw [if_pos hm, decide_eq_true hm, if_neg (show ¬ (y.Many ≠ (x.Args.length : Int)) from fun q => q hm)]
   obtain ⟨tx, ar, a1, a2, a3⟩ := tab_arg hk hd hy
   exact fin ⟨c.1, c.2⟩ (some (arOf tab c)) (.inr ⟨gg, h0, tx, a1, ar, by unfold arOf; rw [a1, bsm, a2]; rfl, a2, by omega⟩)
  ·rw [if_neg hm, decide_eq_false hm, if_pos (show y.Many ≠ (x.Args.length : Int) from hm)]
   exact ⟨0, ⟨⟨by omega, by omega⟩, rfl⟩, rfl, rfl⟩
end Go.Proofs.YtmnbfgeljmhekaaGreat
