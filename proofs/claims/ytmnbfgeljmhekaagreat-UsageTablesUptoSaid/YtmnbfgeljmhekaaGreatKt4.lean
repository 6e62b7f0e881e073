/- Parts of the proof: lemmas, and the steps through the program. -/
import Derived.Test.YtmnbfgeljmhekaaGreatKt3
set_option linter.unusedVariables false
set_option linter.unusedSimpArgs false
set_option maxRecDepth 100000
set_option maxHeartbeats 2000000
namespace Go.Proofs.YtmnbfgeljmhekaaGreat
open Go.SX Go.SW Go.Dt
attribute [local irreducible] Code.wpIn wpListIn Exit.then Exit.inBlock
def oF (rec_r05_Look_Sure : Ref05_Look → Int → Int → Option (Int)) (a0 : Ref05_Look) (a2 : Int) (y2 : ScopeDef) : Nat → Int → Int → Option (Int)
| 0, _, _ => none
| k + 1, x4, x5 =>
 if x5 < (y2.Spots.length : Int) then
  (idx y2.Spots x5).bind fun y5 =>
  (rec_r05_Look_Sure a0 y5.Node a2).bind fun y6 =>
  (chk (x4 + y6)).bind fun z1 =>
  (chk (x5 + 1)).bind fun z2 =>
  oF rec_r05_Look_Sure a0 a2 y2 k z1 z2
 else
  some x4
mutual
def iB : Nat → Ref05_Look → Int → Int → Option (Int)
| 0, _, _, _ => none
| fuel + 1, a0, a1, a2 =>
 (idx a0.p.Nodes a1).bind fun y1 =>
 (if y1.Op = 2 then
  (idx a0.Envs a1).bind fun y2 =>
  (idx y2 a2).bind fun y3 =>
  if y1.N = a2 then
   if 0 ≤ y3.Def then
    (idx a0.p.Defs y3.Def).bind fun y4 =>
    (idx y4.Chans y3.Index).bind fun y5 =>
    if y5.Many = (y1.Args.length : Int) then
     (some 1).bind fun r => some (Sum.inr r)
    else
     some (Sum.inl ())
   else
    some (Sum.inl ())
  else
   some (Sum.inl ())
 else
  if y1.Op = 3 then
   (idx y1.Kids 0).bind fun y6 =>
   ((iB fuel) a0 y6 a2).bind fun y7 =>
   (idx y1.Kids 1).bind fun y8 =>
   ((iB fuel) a0 y8 a2).bind fun y9 =>
   (chk (y7 + y9)).bind fun z1 =>
   (some z1).bind fun r => some (Sum.inr r)
  else
   if y1.Op = 5 then
    (idx y1.Kids 0).bind fun y10 =>
    ((iB fuel) a0 y10 a2).bind fun y11 =>
    (idx y1.Kids 1).bind fun y12 =>
    ((iB fuel) a0 y12 a2).bind fun y13 =>
    (some (min y11 y13)).bind fun r => some (Sum.inr r)
   else
    if y1.Op = 4 then
     ((nK fuel) a0 a1 a2).bind fun y14 =>
     (some y14).bind fun r => some (Sum.inr r)
    else
     some (Sum.inl ())).bind fun o => match o with
 | Sum.inr r => some r
 | Sum.inl _ =>
 some 0
def nK : Nat → Ref05_Look → Int → Int → Option (Int)
| 0, _, _, _ => none
| fuel + 1, a0, a1, a2 =>
 (idx a0.p.Nodes a1).bind fun y1 =>
 (idx a0.p.Defs y1.N).bind fun y2 =>
 (idx y1.Kids 0).bind fun y3 =>
 ((iB fuel) a0 y3 a2).bind fun y4 =>
 (oF (iB fuel) a0 a2 y2 fuel y4 0).bind fun x1 =>
 some x1
end
theorem aHt : ∀ (fuel : Nat), (∀  (a0 : Ref05_Look) (a1 : Int) (a2 : Int) (r : Int) (H : iB fuel a0 a1 a2 = some r), FnS Tryz.prog 34 [aG dX a0, aA .i64 a1, aA .i64 a2] [] (aA .i64 r) (fun _ => [])) ∧ (∀  (a0 : Ref05_Look) (a1 : Int) (a2 : Int) (r : Int) (H : nK fuel a0 a1 a2 = some r), FnS Tryz.prog 49 [aG dX a0, aA .i64 a1, aA .i64 a2] [] (aA .i64 r) (fun _ => [])) := by
 intro fuel
 induction fuel with
 | zero => exact ⟨fun a0 a1 a2 r H => (by rw [iB] at H; cases H), fun a0 a1 a2 r H => (by rw [nK] at H; cases H)⟩
 | succ fuel ih =>
 obtain ⟨ih_r05_Look_Sure, ih_r05_Look_begun⟩ := ih
 refine ⟨?_, ?_⟩
 intro a0 a1 a2 r H
 rw [iB] at H
 refine bK Tryz.func34 rfl Tryz.ntmps34 rfl (fun β => ?_)
 refine Z10 ?_
 revert H; refine bs fun y1 h1 H => ?_
 refine Z2 ?_
 refine aR trivial rfl rfl (cB rfl iS rfl) (fun b1 => ?_)
 refine dB (φs' := [aA .i64 y1.Op, aA .i64 y1.N, fSl aW y1.Args, fSl (aB .i64) y1.Kids]) trivial rfl rfl (has rfl) (has rfl) (aM (aF trivial) (aM (aF trivial) (aM (bB) (aM (bB) bR)))) (sz rfl) rfl rfl rfl ?_
 refine Z1 ?_
 revert H; refine bs fun o1 H Hr1 => ?_
 refine aT (ι := Unit) (fun i => o1 = Sum.inl ()) (fun i => []) (fun i => [aC b1 51 [aA .i64 y1.Op, aA .i64 y1.N, fSl aW y1.Args, fSl (aB .i64) y1.Kids]]) ?_ ?_
 refine Z9 ?_
 revert H; refine is (fun c1 H => ?_) fun c1 H => ?_
 refine Z7 ?_
 revert H; refine bs fun y2 h2 H => ?_
 refine Z3 ?_
 revert H; refine bs fun y3 h3 H => ?_
 refine Z2 ?_
 refine aR trivial rfl rfl (cB rfl aD3 rfl) (fun b2 => ?_)
 refine dB (φs' := [aA .i64 y3.Def, aA .i64 y3.Index]) trivial rfl rfl (has rfl) (has rfl) (aM (aF trivial) (aM (aF trivial) bR)) (sz rfl) rfl rfl rfl ?_
 refine Z1 ?_
 refine aI ?_
 revert H; refine is (fun c2 H => ?_) fun c2 H => ?_
 revert H; refine is (fun c3 H => ?_) fun c3 H => ?_
 revert H; refine bs fun y4 h4 H => ?_
 revert H; refine bs fun y5 h5 H => ?_
 apply bG (ods := [_, _, _, _, _, _, _, _, _, _, _, _, _, _, _, _, _, _, _, _, _, _, _, _, _, _, _, _, _, _]) 30 0 2 bF rfl rfl rfl
 dsimp only [bA, List.take, List.replicate, List.append, List.drop]
 refine M6 ?_
 intros
 refine cU (od := odC [0] false (aA .i64 y3.Def) [cK]) (ps := [0]) (φ := aA .i64 y3.Def) rfl (fun _ => rfl) ⟨_, _, rfl, rfl, c2⟩ rfl rfl (bM rfl (has rfl) (sc rfl) rfl Ent.rfl) (fun _ => ?_)
 refine M8 ?_
 intros
 refine M1 ?_
 intros
 refine cU (od := odC [0] false (aA .i64 y3.Def) [cK]) (ps := [0]) (φ := aA .i64 y3.Def) rfl (fun _ => rfl) ⟨_, _, rfl, rfl, c3⟩ rfl rfl (bM rfl (has rfl) (sc rfl) rfl Ent.rfl) (fun _ => ?_)
 refine M4 ?_
 intros
 refine cU (od := odC [0] false (aA .i64 y3.Index) [cK]) (ps := [0]) (φ := aA .i64 y3.Index) rfl (fun _ => rfl) ⟨_, _, rfl, rfl, c3⟩ rfl rfl (bM rfl (has rfl) (sc rfl) rfl Ent.rfl) (fun _ => ?_)
 refine M4 ?_
 intros
 refine cU (od := odC [1] false (fSl aW y1.Args) [cK]) (ps := [1]) (φ := fSl aW y1.Args) rfl (fun _ => rfl) ⟨_, _, rfl, rfl, c3⟩ rfl rfl (bM rfl (has rfl) (sc rfl) rfl Ent.rfl) (fun _ => ?_)
 refine M3 ?_
 intros
 refine Z2 ?_
 revert H; refine is (fun c4 H => ?_) fun c4 H => ?_
 refine Z7 ?_
 revert H; refine bs fun r1 H e1 => ?_
 cases e1; cases Hr1
 cases H
 refine aH [] (by decide) ?_
 exact To
 refine Z4 ?_
 refine aH [1] (by decide) ?_
 exact Tm (()) (ij H)
 exact fk
 kernel_rfl
 apply bG (ods := [_, _, _, _, _, _, _, _, _, _, _, _, _, _, _, _, _, _, _, _, _, _, _, _, _, _, _, _, _, _]) 30 0 2 bF rfl rfl rfl
 dsimp only [bA, List.take, List.replicate, List.append, List.drop]
 refine M6 ?_
 intros
 refine cU (od := odC [0] false (aA .i64 y3.Def) [cK]) (ps := [0]) (φ := aA .i64 y3.Def) rfl (fun _ => rfl) ⟨_, _, rfl, rfl, c2⟩ rfl rfl (bM rfl (has rfl) (sc rfl) rfl Ent.rfl) (fun _ => ?_)
 refine M8 ?_
 intros
 refine M8 ?_
 intros
 refine M7 ?_
 intros
 refine Z6 ?_
 refine aH [1] (by decide) ?_
 exact Tm (()) (ij H)
 exact fk
 kernel_rfl
 apply bG (ods := [_, _, _, _, _, _, _, _, _, _, _, _, _, _, _, _, _, _, _, _, _, _, _, _, _, _, _, _, _, _]) 30 0 2 bF rfl rfl rfl
 dsimp only [bA, List.take, List.replicate, List.append, List.drop]
 refine M8 ?_
 intros
 refine M8 ?_
 intros
 refine M8 ?_
 intros
 refine M6 ?_
 intros
 refine Z6 ?_
 refine aH [1] (by decide) ?_
 exact Tm (()) (ij H)
 exact fk
 kernel_rfl
 refine Z5 ?_
 revert H; refine is (fun c5 H => ?_) fun c5 H => ?_
 refine Z1 ?_
 refine aI ?_
 revert H; refine bs fun y6 h6 H => ?_
 revert H; refine bs fun y7 h7 H => ?_
 revert H; refine bs fun y8 h8 H => ?_
 revert H; refine bs fun y9 h9 H => ?_
 revert H; refine bs fun z1 h10 H => ?_
 apply bG (ods := [_, _, _, _, _, _, _, _, _, _, _, _, _, _, _, _]) 16 0 1 bF rfl rfl rfl
 dsimp only [bA, List.take, List.replicate, List.append, List.drop]
 refine M6 ?_
 intros
 refine bP (od := odC [] true (aA .i64 y7) []) (Φ := aA .i64 y7) rfl (fun _ => rfl) trivial rfl rfl (has rfl) (aD.cons (has rfl) (aD.cons (has rfl) (aD.cons (has rfl) aD.nil))) rfl (cb rfl) (ih_r05_Look_Sure a0 y6 a2 y7 h7) (fun _ => ?_)
 refine M6 ?_
 intros
 refine bP (od := odC [] true (aA .i64 y9) []) (Φ := aA .i64 y9) rfl (fun _ => rfl) trivial rfl rfl (has rfl) (aD.cons (has rfl) (aD.cons (has rfl) (aD.cons (has rfl) aD.nil))) rfl (cb rfl) (ih_r05_Look_Sure a0 y8 a2 y9 h9) (fun _ => ?_)
 refine M2 ?_
 intros
 refine Z5 ?_
 revert H; refine bs fun r2 H e2 => ?_
 cases e2; cases Hr1
 cases H
 refine aH [] (by decide) ?_
 exact To
 exact fk
 kernel_rfl
 refine Z5 ?_
 revert H; refine is (fun c6 H => ?_) fun c6 H => ?_
 refine Z1 ?_
 refine aI ?_
 revert H; refine bs fun y10 h11 H => ?_
 revert H; refine bs fun y11 h12 H => ?_
 revert H; refine bs fun y12 h13 H => ?_
 revert H; refine bs fun y13 h14 H => ?_
 apply bG (ods := [_, _, _, _, _, _, _, _, _, _, _, _, _, _, _, _]) 16 0 1 bF rfl rfl rfl
 dsimp only [bA, List.take, List.replicate, List.append, List.drop]
 refine M6 ?_
 intros
 refine bP (od := odC [] true (aA .i64 y11) []) (Φ := aA .i64 y11) rfl (fun _ => rfl) trivial rfl rfl (has rfl) (aD.cons (has rfl) (aD.cons (has rfl) (aD.cons (has rfl) aD.nil))) rfl (cb rfl) (ih_r05_Look_Sure a0 y10 a2 y11 h12) (fun _ => ?_)
 refine M6 ?_
 intros
 refine bP (od := odC [] true (aA .i64 y13) []) (Φ := aA .i64 y13) rfl (fun _ => rfl) trivial rfl rfl (has rfl) (aD.cons (has rfl) (aD.cons (has rfl) (aD.cons (has rfl) aD.nil))) rfl (cb rfl) (ih_r05_Look_Sure a0 y12 a2 y13 h14) (fun _ => ?_)
 refine M2 ?_
 intros
 refine Z5 ?_
 revert H; refine bs fun r3 H e3 => ?_
 cases e3; cases Hr1
 cases H
 refine aH [] (by decide) ?_
 exact To
 exact fk
 kernel_rfl
 refine Z5 ?_
 revert H; refine is (fun c7 H => ?_) fun c7 H => ?_
 refine Z5 ?_
 revert H; refine bs fun y14 h15 H => ?_
 refine Tc (ih_r05_Look_begun _ _ _ _ h15) ?_
 refine Z5 ?_
 revert H; refine bs fun r4 H e4 => ?_
 cases e4; cases Hr1
 cases H
 refine aH [] (by decide) ?_
 exact To
 refine Z4 ?_
 exact Tm (()) (ij H)
 clear H; intro i hi; subst o1; have H := Hr1; clear Hr1; try dsimp only at H
 try dsimp only
 refine Z4 ?_
 cases H
 refine aH [] (by decide) ?_
 exact To
 intro a0 a1 a2 r H
 rw [nK] at H
 refine bK Tryz.func49 rfl Tryz.ntmps49 rfl (fun β => ?_)
 refine Z10 ?_
 revert H; refine bs fun y1 h1 H => ?_
 refine Z2 ?_
 refine aR trivial rfl rfl (cB rfl iS rfl) (fun b1 => ?_)
 refine dB (φs' := [aA .i64 y1.Op, aA .i64 y1.N, fSl aW y1.Args, fSl (aB .i64) y1.Kids]) trivial rfl rfl (has rfl) (has rfl) (aM (aF trivial) (aM (aF trivial) (aM (bB) (aM (bB) bR)))) (sz rfl) rfl rfl rfl ?_
 refine Z1 ?_
 refine aI ?_
 revert H; refine bs fun y2 h2 H => ?_
 apply bG (ods := [_, _, _, _, _, _, _, _, _, _, _]) 11 1 2 bF rfl rfl rfl
 dsimp only [bA, List.take, List.replicate, List.append, List.drop]
 refine M8 ?_
 intros
 refine M1 ?_
 intros
 refine Mn 1 (fun b2 => ptr b2) (fun b2 => aC b2 99 [fEq (.slice none 0 0), fEq (.slice none 0 0), fEq (.slice none 0 0)]) rfl (cB rfl jW rfl) (fun b2 u1 => ?_)
 refine pB (od := od1 9 [1] true (fun b2 _ => fAny) (fun b2 _ => [aC b2 99 [fSl aY y2.Chans, fSl bI y2.Spots, fSl bC y2.Rules]])) (p := 1) (φs' := [fSl aY y2.Chans, fSl bI y2.Spots, fSl bC y2.Rules]) rfl (fun _ => rfl) (fun _ => rfl) trivial rfl rfl rfl (has rfl) (has rfl) (aM (bB) (aM (bB) (aM (bB) bR))) (sz rfl) rfl rfl rfl (fun _ => ?_)
 refine Z6 ?_
 revert H; refine bs fun y3 h3 H => ?_
 refine Z3 ?_
 revert H; refine bs fun y4 h4 H => ?_
 refine Tc (ih_r05_Look_Sure _ _ _ _ h4) ?_
 refine Z2 ?_
 revert H; refine bs fun o1 H Hr1 => ?_
 refine aT (ι := Int) (fun i => o1 = i) (fun i => [(9, aA .i64 i)]) (fun i => [aC b1 51 [aA .i64 y1.Op, aA .i64 y1.N, fSl aW y1.Args, fSl (aB .i64) y1.Kids], aC b2 99 [fSl aY y2.Chans, fSl bI y2.Spots, fSl bC y2.Rules]]) ?_ ?_
 refine Z4 ?_
 refine Tl (ι := Nat × Int × Int) (fun i => oF (iB fuel) a0 a2 y2 i.1 i.2.1 i.2.2 = _) (fun i => i.1) (fun i => [(0, aG dX a0), (2, aA .i64 a2), (8, fEq (.pointer (some ⟨b2, 0, none⟩))), (9, aA .i64 i.2.1), (10, aA .i64 i.2.2)]) (fun i => [aC b1 51 [aA .i64 y1.Op, aA .i64 y1.N, fSl aW y1.Args, fSl (aB .i64) y1.Kids], aC b2 99 [fSl aY y2.Chans, fSl bI y2.Spots, fSl bC y2.Rules]]) (fuel, y4, 0) H ?_
 clear H; rintro ⟨k1, x4, x5⟩ H
 replace H : oF (iB fuel) a0 a2 y2 k1 x4 x5 = _ := H
 try dsimp only
 obtain _ | k1 := k1
 rw [oF] at H; cases H
 rw [oF] at H
 refine aI ?_
 refine Z7 ?_
 revert H; refine is (fun c1 H => ?_) fun c1 H => ?_
 refine Z3 ?_
 refine aI ?_
 refine Z7 ?_
 revert H; refine bs fun y5 h5 H => ?_
 refine Z4 ?_
 revert H; refine bs fun y6 h6 H => ?_
 refine Tc (ih_r05_Look_Sure _ _ _ _ h6) ?_
 revert H; refine bs fun z1 h7 H => ?_
 refine Z7 ?_
 revert H; refine bs fun z2 h8 H => ?_
 refine Z3 ?_
 exact Tm ((k1, z1, z2)) ⟨H, ls⟩
 refine Z6 ?_
 exact Tm (x4) (ij H)
 clear H; intro x1 hi; subst o1; have H := Hr1; clear Hr1; try dsimp only at H
 try dsimp only
 refine Z5 ?_
 cases H
 refine aH [] (by decide) ?_
 exact To
 exact fk
 kernel_rfl
theorem aHk (fuel : Nat)  (a0 : Ref05_Look) (a1 : Int) (a2 : Int) (r : Int) (H : nK fuel a0 a1 a2 = some r) : FnS Tryz.prog 49 [aG dX a0, aA .i64 a1, aA .i64 a2] [] (aA .i64 r) (fun _ => []) := (aHt fuel).2 a0 a1 a2 r H
def vA (a0 : Ref05_Look) (a1 : Int) (a2 : Int) : Option (Int) :=
 (idx a0.Heads a1).bind fun y1 =>
 (idx a0.Sizes y1).bind fun y2 =>
 (chk (y2 + a2)).bind fun z1 =>
 some z1
theorem aE4  (a0 : Ref05_Look) (a1 : Int) (a2 : Int) (r : Int) (H : vA a0 a1 a2 = some r) : FnS Tryz.prog 50 [aG dX a0, aA .i64 a1, aA .i64 a2] [] (aA .i64 r) (fun _ => []) := by
 unfold vA at H
 refine bK Tryz.func50 rfl Tryz.ntmps50 rfl (fun β => ?_)
 refine Z3 ?_
 refine aI ?_
 revert H; refine bs fun y1 h1 H => ?_
 revert H; refine bs fun y2 h2 H => ?_
 revert H; refine bs fun z1 h3 H => ?_
 apply bG (ods := [_, _, _, _, _, _, _, _, _, _, _, _, _, _, _, _]) 16 0 0 bF rfl rfl rfl
 dsimp only [bA, List.take, List.replicate, List.append, List.drop]
 refine M8 ?_
 intros
 refine M8 ?_
 intros
 refine Z3 ?_
 cases H
 exact To
 exact fk
 kernel_rfl
def mK (a2 : Int) (a3 : Int) (y1 : ScopeDef) : Nat → Int → Int → Option (Int)
| 0, _, _ => none
| k + 1, x4, x5 =>
 if x5 < a3 then
  (idx y1.Rules a2).bind fun y4 =>
  (idx y4.Joins x5).bind fun y5 =>
  (idx y1.Chans y5).bind fun y6 =>
  (chk (x4 + y6.Many)).bind fun z4 =>
  (chk (x5 + 1)).bind fun z5 =>
  mK a2 a3 y1 k z4 z5
 else
  some x4
def wZ (fuel : Nat) (a0 : Ref05_Look) (a1 : Int) (a2 : Int) (a3 : Int) (a4 : Int) : Option (Int) :=
 (idx a0.p.Defs a1).bind fun y1 =>
 (idx a0.Heads a1).bind fun y2 =>
 (idx a0.Sizes y2).bind fun y3 =>
 (chk (y3 + (y1.Chans.length : Int))).bind fun z1 =>
 (chk (z1 + (y1.Spots.length : Int))).bind fun z2 =>
 (chk (z2 + a4)).bind fun z3 =>
 (mK a2 a3 y1 fuel z3 0).bind fun x1 =>
 some x1
theorem aHV (fuel : Nat)  (a0 : Ref05_Look) (a1 : Int) (a2 : Int) (a3 : Int) (a4 : Int) (r : Int) (H : wZ fuel a0 a1 a2 a3 a4 = some r) : FnS Tryz.prog 117 [aG dX a0, aA .i64 a1, aA .i64 a2, aA .i64 a3, aA .i64 a4] [] (aA .i64 r) (fun _ => []) := by
 unfold wZ at H
 refine bK Tryz.func117 rfl Tryz.ntmps117 rfl (fun β => ?_)
 refine Z10 ?_
 revert H; refine bs fun y1 h1 H => ?_
 refine Z2 ?_
 refine aR trivial rfl rfl (cB rfl jW rfl) (fun b1 => ?_)
 refine dB (φs' := [fSl aY y1.Chans, fSl bI y1.Spots, fSl bC y1.Rules]) trivial rfl rfl (has rfl) (has rfl) (aM (bB) (aM (bB) (aM (bB) bR))) (sz rfl) rfl rfl rfl ?_
 refine Z1 ?_
 refine aI ?_
 revert H; refine bs fun y2 h2 H => ?_
 revert H; refine bs fun y3 h3 H => ?_
 revert H; refine bs fun z1 h4 H => ?_
 revert H; refine bs fun z2 h5 H => ?_
 revert H; refine bs fun z3 h6 H => ?_
 apply bG (ods := [_, _, _, _, _, _, _, _, _, _, _, _, _, _, _, _, _, _, _, _, _, _, _, _]) 24 0 1 bF rfl rfl rfl
 dsimp only [bA, List.take, List.replicate, List.append, List.drop]
 refine M8 ?_
 intros
 refine M8 ?_
 intros
 refine M8 ?_
 intros
 refine Z2 ?_
 revert H; refine bs fun o1 H Hr1 => ?_
 refine aT (ι := Int) (fun i => o1 = i) (fun i => [(12, aA .i64 i)]) (fun i => [aC b1 99 [fSl aY y1.Chans, fSl bI y1.Spots, fSl bC y1.Rules]]) ?_ ?_
 refine Z4 ?_
 refine Tl (ι := Nat × Int × Int) (fun i => mK a2 a3 y1 i.1 i.2.1 i.2.2 = _) (fun i => i.1) (fun i => [(2, aA .i64 a2), (3, aA .i64 a3), (11, fEq (.pointer (some ⟨b1, 0, none⟩))), (12, aA .i64 i.2.1), (13, aA .i64 i.2.2)]) (fun i => [aC b1 99 [fSl aY y1.Chans, fSl bI y1.Spots, fSl bC y1.Rules]]) (fuel, z3, 0) H ?_
 clear H; rintro ⟨k1, x4, x5⟩ H
 replace H : mK a2 a3 y1 k1 x4 x5 = _ := H
 try dsimp only
 obtain _ | k1 := k1
 rw [mK] at H; cases H
 rw [mK] at H
 refine aI ?_
 refine Z5 ?_
 revert H; refine is (fun c1 H => ?_) fun c1 H => ?_
 refine Z3 ?_
 refine aI ?_
 refine Z1 ?_
 revert H; refine bs fun y4 h7 H => ?_
 revert H; refine bs fun y5 h8 H => ?_
 revert H; refine bs fun y6 h9 H => ?_
 revert H; refine bs fun z4 h10 H => ?_
 apply bG (ods := [_, _, _, _, _, _, _, _, _, _, _, _, _, _, _, _, _]) 17 0 1 bF rfl rfl rfl
 dsimp only [bA, List.take, List.replicate, List.append, List.drop]
 refine M8 ?_
 intros
 refine M8 ?_
 intros
 refine M1 ?_
 intros
 refine Z6 ?_
 revert H; refine bs fun z5 h11 H => ?_
 refine Z3 ?_
 exact Tm ((k1, z4, z5)) ⟨H, ls⟩
 exact fk
 kernel_rfl
 refine Z6 ?_
 exact Tm (x4) (ij H)
 clear H; intro x1 hi; subst o1; have H := Hr1; clear Hr1; try dsimp only at H
 try dsimp only
 refine Z5 ?_
 cases H
 refine aH [] (by decide) ?_
 exact To
 exact fk
 kernel_rfl
end Go.Proofs.YtmnbfgeljmhekaaGreat
set_option maxRecDepth 100000
set_option maxHeartbeats 2000000
namespace Go.Proofs.YtmnbfgeljmhekaaGreat
open Go.SX Go.SW Go.Dt
attribute [local irreducible] Code.wpIn wpListIn Exit.then Exit.inBlock
def lY (fuel : Nat) (a0 : Ref05_Look) (a1 : List UsageDef) (a2 : Int) (a3 : Int) (a4 : Int) (y1 : ScopeDef) (x5 : Int) : Nat → Int → Int → Option (Int)
| 0, _, _ => none
| k + 1, x9, x10 =>
 (idx y1.Rules x5).bind fun y2 =>
 if x10 < (y2.Joins.length : Int) then
  ((idx y1.Rules x5).bind fun y3 =>
  (idx y3.Joins x10).bind fun y4 =>
  if y4 = a3 then
   (idx a1 a2).bind fun y5 =>
   (idx y5.Rules x5).bind fun y6 =>
   (qI y6).bind fun y7 =>
   if 0 < y7 then
    (idx y1.Rules x5).bind fun y8 =>
    (wZ fuel a0 a2 x5 x10 a4).bind fun y9 =>
    (fA fuel a0 a1 y8.Node y9).bind fun y10 =>
    some (max x9 y10)
   else
    some x9
  else
   some x9).bind fun x11 =>
  (chk (x10 + 1)).bind fun z1 =>
  lY fuel a0 a1 a2 a3 a4 y1 x5 k x11 z1
 else
  some x9
def oC (fuel : Nat) (a0 : Ref05_Look) (a1 : List UsageDef) (a2 : Int) (a3 : Int) (a4 : Int) (y1 : ScopeDef) : Nat → Int → Int → Option (Int)
| 0, _, _ => none
| k + 1, x4, x5 =>
 if x5 < (y1.Rules.length : Int) then
  (lY fuel a0 a1 a2 a3 a4 y1 x5 fuel x4 0).bind fun x6 =>
  (chk (x5 + 1)).bind fun z2 =>
  oC fuel a0 a1 a2 a3 a4 y1 k x6 z2
 else
  some x4
def aAj (fuel : Nat) (a0 : Ref05_Look) (a1 : List UsageDef) (a2 : Int) (a3 : Int) (a4 : Int) : Option (Int) :=
 (idx a0.p.Defs a2).bind fun y1 =>
 (oC fuel a0 a1 a2 a3 a4 y1 fuel 0 0).bind fun x1 =>
 some x1
theorem aGs (fuel : Nat)  (a0 : Ref05_Look) (a1 : List UsageDef) (a2 : Int) (a3 : Int) (a4 : Int) (r : Int) (H : aAj fuel a0 a1 a2 a3 a4 = some r) : FnS Tryz.prog 102 [aG dX a0, fSl bD a1, aA .i64 a2, aA .i64 a3, aA .i64 a4] [] (aA .i64 r) (fun _ => []) := by
 unfold aAj at H
 refine bK Tryz.func102 rfl Tryz.ntmps102 rfl (fun β => ?_)
 refine Z10 ?_
 revert H; refine bs fun y1 h1 H => ?_
 refine Z2 ?_
 refine aR trivial rfl rfl (cB rfl jW rfl) (fun b1 => ?_)
 refine dB (φs' := [fSl aY y1.Chans, fSl bI y1.Spots, fSl bC y1.Rules]) trivial rfl rfl (has rfl) (has rfl) (aM (bB) (aM (bB) (aM (bB) bR))) (sz rfl) rfl rfl rfl ?_
 refine Z4 ?_
 revert H; refine bs fun o1 H Hr1 => ?_
 refine aT (ι := Int) (fun i => o1 = i) (fun i => [(12, aA .i64 i)]) (fun i => [aC b1 99 [fSl aY y1.Chans, fSl bI y1.Spots, fSl bC y1.Rules]]) ?_ ?_
 refine Z4 ?_
 refine Tl (ι := Nat × Int × Int) (fun i => oC fuel a0 a1 a2 a3 a4 y1 i.1 i.2.1 i.2.2 = _) (fun i => i.1) (fun i => [(0, aG dX a0), (1, fSl bD a1), (2, aA .i64 a2), (3, aA .i64 a3), (4, aA .i64 a4), (11, fEq (.pointer (some ⟨b1, 0, none⟩))), (12, aA .i64 i.2.1), (13, aA .i64 i.2.2)]) (fun i => [aC b1 99 [fSl aY y1.Chans, fSl bI y1.Spots, fSl bC y1.Rules]]) (fuel, 0, 0) H ?_
 clear H; rintro ⟨k1, x4, x5⟩ H
 replace H : oC fuel a0 a1 a2 a3 a4 y1 k1 x4 x5 = _ := H
 try dsimp only
 obtain _ | k1 := k1
 rw [oC] at H; cases H
 rw [oC] at H
 refine aI ?_
 refine Z7 ?_
 revert H; refine is (fun c1 H => ?_) fun c1 H => ?_
 refine Z3 ?_
 revert H; refine bs fun o2 H Hr2 => ?_
 refine aT (ι := Int) (fun i => o2 = i) (fun i => [(0, aG dX a0), (1, fSl bD a1), (2, aA .i64 a2), (3, aA .i64 a3), (4, aA .i64 a4), (11, fEq (.pointer (some ⟨b1, 0, none⟩))), (12, aA .i64 i), (13, aA .i64 x5)]) (fun i => [aC b1 99 [fSl aY y1.Chans, fSl bI y1.Spots, fSl bC y1.Rules]]) ?_ ?_
 refine Z5 ?_
 refine Tl (ι := Nat × Int × Int) (fun i => lY fuel a0 a1 a2 a3 a4 y1 x5 i.1 i.2.1 i.2.2 = _) (fun i => i.1) (fun i => [(0, aG dX a0), (1, fSl bD a1), (2, aA .i64 a2), (3, aA .i64 a3), (4, aA .i64 a4), (11, fEq (.pointer (some ⟨b1, 0, none⟩))), (12, aA .i64 i.2.1), (13, aA .i64 x5), (14, aA .i64 i.2.2)]) (fun i => [aC b1 99 [fSl aY y1.Chans, fSl bI y1.Spots, fSl bC y1.Rules]]) (fuel, x4, 0) H ?_
 clear H; rintro ⟨k2, x9, x10⟩ H
 replace H : lY fuel a0 a1 a2 a3 a4 y1 x5 k2 x9 x10 = _ := H
 try dsimp only
 obtain _ | k2 := k2
 rw [lY] at H; cases H
 rw [lY] at H
 refine aI ?_
 refine Z5 ?_
 revert H; refine bs fun y2 h2 H => ?_
 refine Z6 ?_
 revert H; refine is (fun c2 H => ?_) fun c2 H => ?_
 refine Z3 ?_
 revert H; refine bs fun o3 H Hr3 => ?_
 refine aT (ι := Int) (fun i => o3 = i) (fun i => [(0, aG dX a0), (1, fSl bD a1), (2, aA .i64 a2), (3, aA .i64 a3), (4, aA .i64 a4), (11, fEq (.pointer (some ⟨b1, 0, none⟩))), (12, aA .i64 i), (13, aA .i64 x5), (14, aA .i64 x10)]) (fun i => [aC b1 99 [fSl aY y1.Chans, fSl bI y1.Spots, fSl bC y1.Rules]]) ?_ ?_
 refine Z5 ?_
 revert H; refine bs fun y3 h3 H => ?_
 refine Z4 ?_
 revert H; refine bs fun y4 h4 H => ?_
 refine Z5 ?_
 revert H; refine is (fun c3 H => ?_) fun c3 H => ?_
 refine Z2 ?_
 revert H; refine bs fun y5 h5 H => ?_
 refine Z4 ?_
 revert H; refine bs fun y6 h6 H => ?_
 refine Z2 ?_
 revert H; refine bs fun y7 h7 H => ?_
 refine Tc (aAs _ _ h7) ?_
 refine Z3 ?_
 revert H; refine is (fun c4 H => ?_) fun c4 H => ?_
 refine Z1 ?_
 revert H; refine bs fun y8 h8 H => ?_
 revert H; refine bs fun y9 h9 H => ?_
 revert H; refine bs fun y10 h10 H => ?_
 apply bG (ods := [_, _, _, _, _, _, _, _, _, _, _, _, _, _, _, _, _, _]) 18 0 1 bF rfl rfl rfl
 dsimp only [bA, List.take, List.replicate, List.append, List.drop]
 refine M8 ?_
 intros
 refine M6 ?_
 intros
 refine bP (od := odC [] true (aA .i64 y9) []) (Φ := aA .i64 y9) rfl (fun _ => rfl) trivial rfl rfl (has rfl) (aD.cons (has rfl) (aD.cons (has rfl) (aD.cons (has rfl) (aD.cons (has rfl) (aD.cons (has rfl) aD.nil))))) rfl (cb rfl) (aHV fuel a0 a2 x5 x10 a4 y9 h9) (fun _ => ?_)
 refine bP (od := odC [] true (aA .i64 y10) []) (Φ := aA .i64 y10) rfl (fun _ => rfl) trivial rfl rfl (has rfl) (aD.cons (has rfl) (aD.cons (has rfl) (aD.cons (has rfl) (aD.cons (has rfl) aD.nil)))) rfl (cb rfl) (aG5 fuel a0 a1 y8.Node y9 y10 h10) (fun _ => ?_)
 refine My (o_max rfl hh hh) fun _ => ?_
 refine M1 ?_
 intros
 refine Z4 ?_
 exact Tm (max x9 y10) (ij H)
 exact fk
 kernel_rfl
 refine Z4 ?_
 exact Tm (x9) (ij H)
 refine Z12 ?_
 refine Z4 ?_
 exact Tm (x9) (ij H)
 clear H; intro x11 hi; subst o3; have H := Hr3; clear Hr3; try dsimp only at H
 try dsimp only
 refine Z2 ?_
 revert H; refine bs fun z1 h11 H => ?_
 refine Z3 ?_
 exact Tm ((k2, x11, z1)) ⟨H, ls⟩
 refine Z7 ?_
 exact Tm (x9) (ij H)
 clear H; intro x6 hi; subst o2; have H := Hr2; clear Hr2; try dsimp only at H
 try dsimp only
 refine Z2 ?_
 revert H; refine bs fun z2 h12 H => ?_
 refine Z3 ?_
 exact Tm ((k1, x6, z2)) ⟨H, ls⟩
 refine Z6 ?_
 exact Tm (x4) (ij H)
 clear H; intro x1 hi; subst o1; have H := Hr1; clear Hr1; try dsimp only at H
 try dsimp only
 refine Z5 ?_
 cases H
 refine aH [] (by decide) ?_
 exact To
def nZ (fuel : Nat) (a0 : Ref05_Look) (a1 : List UsageDef) (a2 : Int) (y1 : ScopeDef) (x6 : Int) : Nat → (List Int) → Int → Option (List Int)
| 0, _, _ => none
| k + 1, x14, x15 =>
 (idx y1.Chans x6).bind fun y6 =>
 if x15 < y6.Many then
  (aAj fuel a0 a1 a2 x6 x15).bind fun y7 =>
  (sE y7).bind fun y8 =>
  (eA (x14 ++ [y8])).bind fun z2 =>
  (chk (x15 + 1)).bind fun z3 =>
  nZ fuel a0 a1 a2 y1 x6 k z2 z3
 else
  some x14
def mP (fuel : Nat) (a0 : Ref05_Look) (a1 : List UsageDef) (a2 : Int) (y1 : ScopeDef) : Nat → Int → (List Int) → (List (List Int)) → Option (List Int × List (List Int))
| 0, _, _, _ => none
| k + 1, x6, x7, x8 =>
 if x6 < (y1.Chans.length : Int) then
  ((idx a0.Heads a2).bind fun y2 =>
  (vA a0 a2 x6).bind fun y3 =>
  (pZ fuel a0 a1 y2 y3).bind fun y4 =>
  (sE y4).bind fun y5 =>
  (eA (x7 ++ [y5])).bind fun z1 =>
  (nZ fuel a0 a1 a2 y1 x6 fuel ([] : List Int) 0).bind fun x11 =>
  (eA (x8 ++ ([x11] : List (List Int)))).bind fun z4 =>
  some (z1, z4)).bind fun (x9, x10) =>
  (chk (x6 + 1)).bind fun z5 =>
  mP fuel a0 a1 a2 y1 k z5 x9 x10
 else
  some (x7, x8)
def mV (a1 : List UsageDef) (a2 : Int) (y1 : ScopeDef) (x19 : Int) : Nat → Int → Int → Option (Int)
| 0, _, _ => none
| k + 1, x25, x26 =>
 (idx y1.Rules x19).bind fun y9 =>
 if x26 < (y9.Joins.length : Int) then
  (idx a1 a2).bind fun y10 =>
  (idx y1.Rules x19).bind fun y11 =>
  (idx y11.Joins x26).bind fun y12 =>
  (idx y10.Chans y12).bind fun y13 =>
  (qI y13).bind fun y14 =>
  (chk (x26 + 1)).bind fun z6 =>
  mV a1 a2 y1 x19 k (min x25 y14) z6
 else
  some x25
def nS (fuel : Nat) (a1 : List UsageDef) (a2 : Int) (y1 : ScopeDef) : Nat → Int → (List Int) → Option (List Int)
| 0, _, _ => none
| k + 1, x19, x20 =>
 if x19 < (y1.Rules.length : Int) then
  ((mV a1 a2 y1 x19 fuel 2 0).bind fun x22 =>
  (sE x22).bind fun y15 =>
  (eA (x20 ++ [y15])).bind fun z7 =>
  some z7).bind fun x21 =>
  (chk (x19 + 1)).bind fun z8 =>
  nS fuel a1 a2 y1 k z8 x21
 else
  some x20
def uQ (fuel : Nat) (a0 : Ref05_Look) (a1 : List UsageDef) (a2 : Int) : Option (UsageDef) :=
 (idx a0.p.Defs a2).bind fun y1 =>
 (mP fuel a0 a1 a2 y1 fuel 0 [] []).bind fun (x1, x2) =>
 (nS fuel a1 a2 y1 fuel 0 []).bind fun x16 =>
 some (⟨x1, x16, x2⟩ : UsageDef)
theorem aH0 (fuel : Nat)  (a0 : Ref05_Look) (a1 : List UsageDef) (a2 : Int) (r : UsageDef) (H : uQ fuel a0 a1 a2 = some r) : FnS Tryz.prog 85 [aG dX a0, fSl bD a1, aA .i64 a2] [] fAny (fun v => [rK .agg [.own (fun v => aE v 30 (aB .i64) r.Chans) (fun _ => dI), .own (fun v => aE v 30 (aB .i64) r.Rules) (fun _ => dI), .own (fun v => bE v 58 (bQ 30 (aB .i64)) r.Args) (fun _ => iC)] v]) := by
 unfold uQ at H
 refine bK Tryz.func85 rfl Tryz.ntmps85 rfl (fun β => ?_)
 refine Z1 ?_
 refine aR trivial rfl rfl (cB rfl sS rfl) (fun b1 => ?_)
 refine Z8 ?_
 revert H; refine bs fun y1 h1 H => ?_
 refine Z2 ?_
 refine aR trivial rfl rfl (cB rfl jW rfl) (fun b2 => ?_)
 refine dB (φs' := [fSl aY y1.Chans, fSl bI y1.Spots, fSl bC y1.Rules]) trivial rfl rfl (has rfl) (has rfl) (aM (bB) (aM (bB) (aM (bB) bR))) (sz rfl) rfl rfl rfl ?_
 refine Z2 ?_
 refine aR trivial rfl rfl (cB rfl sS rfl) (fun b3 => ?_)
 refine Z1 ?_
 revert H; refine bs fun o1 H Hr1 => ?_
 refine aT (ι := List Int × List (List Int) × Value × Value) (fun i => o1 = (i.1, i.2.1)) (fun i => [(1, fSl bD a1), (2, aA .i64 a2), (6, fEq (.pointer (some ⟨b1, 0, none⟩))), (7, fEq (.pointer (some ⟨b2, 0, none⟩))), (8, fEq (.pointer (some ⟨b3, 0, none⟩)))]) (fun i => [aC b3 61 [fEq i.2.2.1, fEq (.slice none 0 0), fEq i.2.2.2], aC b2 99 [fSl aY y1.Chans, fSl bI y1.Spots, fSl bC y1.Rules], aC b1 61 [fEq (.slice none 0 0), fEq (.slice none 0 0), fEq (.slice none 0 0)], aE i.2.2.1 30 (aB .i64) i.1, bE i.2.2.2 58 (bQ 30 (aB .i64)) i.2.1]) ?_ ?_
 refine Z4 ?_
 refine lS (aB .i64) 30 ?_
 refine pU (bQ 30 (aB .i64)) 58 ?_
 refine aH [2, 3, 4, 1, 0] (by decide) ?_
 refine Tl (ι := Nat × Int × List Int × List (List Int) × Value × Value) (fun i => mP fuel a0 a1 a2 y1 i.1 i.2.1 i.2.2.1 i.2.2.2.1 = _) (fun i => i.1) (fun i => [(0, aG dX a0), (1, fSl bD a1), (2, aA .i64 a2), (6, fEq (.pointer (some ⟨b1, 0, none⟩))), (7, fEq (.pointer (some ⟨b2, 0, none⟩))), (8, fEq (.pointer (some ⟨b3, 0, none⟩))), (9, aA .i64 i.2.1)]) (fun i => [aC b3 61 [fEq i.2.2.2.2.1, fEq (.slice none 0 0), fEq i.2.2.2.2.2], aC b2 99 [fSl aY y1.Chans, fSl bI y1.Spots, fSl bC y1.Rules], aC b1 61 [fEq (.slice none 0 0), fEq (.slice none 0 0), fEq (.slice none 0 0)], aE i.2.2.2.2.1 30 (aB .i64) i.2.2.1, bE i.2.2.2.2.2 58 (bQ 30 (aB .i64)) i.2.2.2.1]) (fuel, 0, [], [], (.slice none 0 0), (.slice none 0 0)) H ?_
 clear H; rintro ⟨k1, x6, x7, x8, v5, v6⟩ H
 replace H : mP fuel a0 a1 a2 y1 k1 x6 x7 x8 = _ := H
 try dsimp only
 obtain _ | k1 := k1
 rw [mP] at H; cases H
 rw [mP] at H
 refine aO 3 rfl (fun hc_v5 => ?_)
 refine cM 4 rfl (fun hc_v6 => ?_)
 refine aI ?_
 refine Z7 ?_
 revert H; refine is (fun c1 H => ?_) fun c1 H => ?_
 refine Z3 ?_
 revert H; refine bs fun o2 H Hr2 => ?_
 refine aT (ι := List Int × List (List Int) × Value × Value) (fun i => o2 = (i.1, i.2.1)) (fun i => [(0, aG dX a0), (1, fSl bD a1), (2, aA .i64 a2), (6, fEq (.pointer (some ⟨b1, 0, none⟩))), (7, fEq (.pointer (some ⟨b2, 0, none⟩))), (8, fEq (.pointer (some ⟨b3, 0, none⟩))), (9, aA .i64 x6)]) (fun i => [aC b3 61 [fEq i.2.2.1, fEq (.slice none 0 0), fEq i.2.2.2], aC b2 99 [fSl aY y1.Chans, fSl bI y1.Spots, fSl bC y1.Rules], aC b1 61 [fEq (.slice none 0 0), fEq (.slice none 0 0), fEq (.slice none 0 0)], aE i.2.2.1 30 (aB .i64) i.1, bE i.2.2.2 58 (bQ 30 (aB .i64)) i.2.1]) ?_ ?_
 refine Z1 ?_
 refine aI ?_
 revert H; refine bs fun y2 h2 H => ?_
 revert H; refine bs fun y3 h3 H => ?_
 revert H; refine bs fun y4 h4 H => ?_
 revert H; refine bs fun y5 h5 H => ?_
 apply bG (ods := [_, _, _, _, _, _, _, _, _, _, _, _, _, _, _, _, _, _]) 18 0 5 bF rfl rfl rfl
 dsimp only [bA, List.take, List.replicate, List.append, List.drop]
 refine M8 ?_
 intros
 refine M6 ?_
 intros
 refine bP (od := odC [] true (aA .i64 y3) []) (Φ := aA .i64 y3) rfl (fun _ => rfl) trivial rfl rfl (has rfl) (aD.cons (has rfl) (aD.cons (has rfl) (aD.cons (has rfl) aD.nil))) rfl (cb rfl) (aE4 a0 a2 x6 y3 h3) (fun _ => ?_)
 refine bP (od := odC [] true (aA .i64 y4) []) (Φ := aA .i64 y4) rfl (fun _ => rfl) trivial rfl rfl (has rfl) (aD.cons (has rfl) (aD.cons (has rfl) (aD.cons (has rfl) (aD.cons (has rfl) aD.nil)))) rfl (cb rfl) (aHx fuel a0 a1 y2 y3 y4 h4) (fun _ => ?_)
 refine bP (od := odC [] true (aA .i64 y5) []) (Φ := aA .i64 y5) rfl (fun _ => rfl) trivial rfl rfl (has rfl) (aD.cons (has rfl) aD.nil) rfl (cb rfl) (aCe y4 y5 h5) (fun _ => ?_)
 refine Mf (φ := fSl (aB .i64) [y5]) (cC (t := (aB .i64)) (xs := [y5]) rfl (et rfl) (aQ.cons rfl (has rfl) (aS (aF trivial)) aQ.nil) rfl rfl rfl) (fun b => cR) fun _ => ?_
 refine Z1 ?_
 revert H; refine bs fun z1 h6 H => ?_
 refine dD ?_
 refine uI (ys := [y5]) trivial rfl rfl rfl (has rfl) (has rfl) (et rfl) rfl h6 (fun v10 => ?_)
 refine aO 0 rfl (fun hc_v10 => ?_)
 refine Z1 ?_
 refine cA ?_
 refine cY (φs' := [fEq v10, fEq (.slice none 0 0), fEq v6]) trivial rfl rfl (has rfl) (has rfl) (aF hc_v10) (sz rfl) rfl rfl ?_
 refine Z2 ?_
 refine aR trivial rfl rfl (cC (t := (aB .i64)) (xs := ([] : List Int)) rfl (et rfl) aQ.nil rfl rfl rfl) (fun b5 => ?_)
 generalize hv_v11 : (Value.slice (some ⟨b5, 0, none⟩) _ _) = v11; clear hv_v11
 refine aO 0 rfl (fun hc_v11 => ?_)
 refine Z2 ?_
 revert H; refine bs fun o3 H Hr3 => ?_
 refine aT (ι := List Int × Value) (fun i => o3 = i.1) (fun i => [(0, aG dX a0), (1, fSl bD a1), (2, aA .i64 a2), (6, fEq (.pointer (some ⟨b1, 0, none⟩))), (7, fEq (.pointer (some ⟨b2, 0, none⟩))), (8, fEq (.pointer (some ⟨b3, 0, none⟩))), (9, aA .i64 x6), (10, fEq i.2)]) (fun i => [aC b3 61 [fEq v10, fEq (.slice none 0 0), fEq v6], aC b2 99 [fSl aY y1.Chans, fSl bI y1.Spots, fSl bC y1.Rules], aC b1 61 [fEq (.slice none 0 0), fEq (.slice none 0 0), fEq (.slice none 0 0)], aE i.2 30 (aB .i64) i.1, aE v10 30 (aB .i64) z1, bE v6 58 (bQ 30 (aB .i64)) x8]) ?_ ?_
 refine Z4 ?_
 refine aH [1, 3, 4, 0, 2, 5] (by decide) ?_
 refine Tl (ι := Nat × List Int × Int × Value) (fun i => nZ fuel a0 a1 a2 y1 x6 i.1 i.2.1 i.2.2.1 = _) (fun i => i.1) (fun i => [(0, aG dX a0), (1, fSl bD a1), (2, aA .i64 a2), (6, fEq (.pointer (some ⟨b1, 0, none⟩))), (7, fEq (.pointer (some ⟨b2, 0, none⟩))), (8, fEq (.pointer (some ⟨b3, 0, none⟩))), (9, aA .i64 x6), (10, fEq i.2.2.2), (11, aA .i64 i.2.2.1)]) (fun i => [aC b3 61 [fEq v10, fEq (.slice none 0 0), fEq v6], aC b2 99 [fSl aY y1.Chans, fSl bI y1.Spots, fSl bC y1.Rules], aC b1 61 [fEq (.slice none 0 0), fEq (.slice none 0 0), fEq (.slice none 0 0)], aE i.2.2.2 30 (aB .i64) i.2.1, aE v10 30 (aB .i64) z1, bE v6 58 (bQ 30 (aB .i64)) x8]) (fuel, ([] : List Int), 0, v11) H ?_
 clear H; rintro ⟨k2, x14, x15, v14⟩ H
 replace H : nZ fuel a0 a1 a2 y1 x6 k2 x14 x15 = _ := H
 try dsimp only
 obtain _ | k2 := k2
 rw [nZ] at H; cases H
 rw [nZ] at H
 refine aO 3 rfl (fun hc_v14 => ?_)
 refine aI ?_
 refine Z5 ?_
 revert H; refine bs fun y6 h7 H => ?_
 refine Z5 ?_
 revert H; refine is (fun c2 H => ?_) fun c2 H => ?_
 refine Z3 ?_
 refine aI ?_
 refine Z8 ?_
 revert H; refine bs fun y7 h8 H => ?_
 refine Tc (aGs _ _ _ _ _ _ _ h8) ?_
 revert H; refine bs fun y8 h9 H => ?_
 refine Tc (aCe _ _ h9) ?_
 refine aR trivial rfl rfl (cC (t := (aB .i64)) (xs := [y8]) rfl (et rfl) (aQ.cons rfl (has rfl) (aS (aF trivial)) aQ.nil) rfl rfl rfl) (fun b6 => ?_)
 generalize hv_v15 : (Value.slice (some ⟨b6, 0, none⟩) _ _) = v15; clear hv_v15
 refine aO 0 rfl (fun hc_v15 => ?_)
 revert H; refine bs fun z2 h10 H => ?_
 refine bL ?_
 refine cA ?_
 refine lX trivial rfl rfl rfl (has rfl) (has rfl) (et rfl) rfl h10 (fun v16 => ?_)
 refine aO 0 rfl (fun hc_v16 => ?_)
 refine Z6 ?_
 revert H; refine bs fun z3 h11 H => ?_
 refine Z3 ?_
 refine aH [1, 2, 3, 0, 4, 5] (by decide) ?_
 exact Tm ((k2, z2, z3, v16)) ⟨H, ls⟩
 refine Z6 ?_
 exact Tm ((x14, v14)) (ij H)
 clear H; intro i hi; obtain ⟨x11, v12⟩ := i; subst o3; have H := Hr3; clear Hr3; try dsimp only at H
 try dsimp only
 refine aO 3 rfl (fun hc_v12 => ?_)
 refine Z4 ?_
 refine aR trivial rfl rfl (cC (t := tF 1) (xs := [[⟨fEq v12, aF hc_v12⟩]]) rfl (et rfl) (aQ.cons rfl (has rfl) (aS (aF hc_v12)) aQ.nil) rfl rfl rfl) (fun b7 => ?_)
 generalize hv_v17 : (Value.slice (some ⟨b7, 0, none⟩) _ _) = v17; clear hv_v17
 refine kT ?_
 refine bL ?_
 refine eP (p := 0) (f := (fun v => aE v 30 (aB .i64) x11)) (hf := (fun _ => dI)) rfl Ent.rfl ?_
 refine lM (o := (bQ 30 (aB .i64))) (xs := ([x11] : List (List Int))) rfl rfl rfl ?_
 refine cM 0 rfl (fun hc_v17 => ?_)
 revert H; refine bs fun z4 h12 H => ?_
 refine jA ?_
 refine cA ?_
 refine rI (q := (bQ 30 (aB .i64))) trivial rfl rfl rfl (has rfl) (has rfl) (et rfl) rfl h12 (fun v18 => ?_)
 refine cM 0 rfl (fun hc_v18 => ?_)
 refine Z1 ?_
 refine cA ?_
 refine cY (φs' := [fEq v10, fEq (.slice none 0 0), fEq v18]) trivial rfl rfl (has rfl) (has rfl) (aF hc_v18) (sz rfl) rfl rfl ?_
 refine Z3 ?_
 refine aH [0, 2, 3, 4, 1] (by decide) ?_
 exact Tm ((z1, z4, v10, v18)) (ij H)
 exact fk
 kernel_rfl
 clear H; intro i hi; obtain ⟨x9, x10, v7, v8⟩ := i; subst o2; have H := Hr2; clear Hr2; try dsimp only at H
 try dsimp only
 refine aO 3 rfl (fun hc_v7 => ?_)
 refine cM 4 rfl (fun hc_v8 => ?_)
 refine Z2 ?_
 revert H; refine bs fun z5 h13 H => ?_
 refine Z3 ?_
 exact Tm ((k1, z5, x9, x10, v7, v8)) ⟨H, ls⟩
 refine Z6 ?_
 exact Tm ((x7, x8, v5, v6)) (ij H)
 clear H; intro i hi; obtain ⟨x1, x2, v1, v2⟩ := i; subst o1; have H := Hr1; clear Hr1; try dsimp only at H
 try dsimp only
 refine aO 3 rfl (fun hc_v1 => ?_)
 refine cM 4 rfl (fun hc_v2 => ?_)
 revert H; refine bs fun o4 H Hr4 => ?_
 refine aT (ι := List Int × Value) (fun i => o4 = i.1) (fun i => [(6, fEq (.pointer (some ⟨b1, 0, none⟩))), (8, fEq (.pointer (some ⟨b3, 0, none⟩)))]) (fun i => [aC b3 61 [fEq v1, fEq i.2, fEq v2], aC b2 99 [fSl aY y1.Chans, fSl bI y1.Spots, fSl bC y1.Rules], aC b1 61 [fEq (.slice none 0 0), fEq (.slice none 0 0), fEq (.slice none 0 0)], aE v1 30 (aB .i64) x1, aE i.2 30 (aB .i64) i.1, bE v2 58 (bQ 30 (aB .i64)) x2]) ?_ ?_
 refine Z4 ?_
 refine lS (aB .i64) 30 ?_
 refine aH [1, 2, 3, 4, 0, 5] (by decide) ?_
 refine Tl (ι := Nat × Int × List Int × Value) (fun i => nS fuel a1 a2 y1 i.1 i.2.1 i.2.2.1 = _) (fun i => i.1) (fun i => [(1, fSl bD a1), (2, aA .i64 a2), (6, fEq (.pointer (some ⟨b1, 0, none⟩))), (7, fEq (.pointer (some ⟨b2, 0, none⟩))), (8, fEq (.pointer (some ⟨b3, 0, none⟩))), (12, aA .i64 i.2.1)]) (fun i => [aC b3 61 [fEq v1, fEq i.2.2.2, fEq v2], aC b2 99 [fSl aY y1.Chans, fSl bI y1.Spots, fSl bC y1.Rules], aC b1 61 [fEq (.slice none 0 0), fEq (.slice none 0 0), fEq (.slice none 0 0)], aE v1 30 (aB .i64) x1, aE i.2.2.2 30 (aB .i64) i.2.2.1, bE v2 58 (bQ 30 (aB .i64)) x2]) (fuel, 0, [], (.slice none 0 0)) H ?_
 clear H; rintro ⟨k3, x19, x20, v21⟩ H
 replace H : nS fuel a1 a2 y1 k3 x19 x20 = _ := H
 try dsimp only
 obtain _ | k3 := k3
 rw [nS] at H; cases H
 rw [nS] at H
 refine aO 4 rfl (fun hc_v21 => ?_)
 refine aI ?_
 refine Z7 ?_
 revert H; refine is (fun c3 H => ?_) fun c3 H => ?_
 refine Z3 ?_
 revert H; refine bs fun o5 H Hr5 => ?_
 refine aT (ι := List Int × Value) (fun i => o5 = i.1) (fun i => [(1, fSl bD a1), (2, aA .i64 a2), (6, fEq (.pointer (some ⟨b1, 0, none⟩))), (7, fEq (.pointer (some ⟨b2, 0, none⟩))), (8, fEq (.pointer (some ⟨b3, 0, none⟩))), (12, aA .i64 x19)]) (fun i => [aC b3 61 [fEq v1, fEq i.2, fEq v2], aC b2 99 [fSl aY y1.Chans, fSl bI y1.Spots, fSl bC y1.Rules], aC b1 61 [fEq (.slice none 0 0), fEq (.slice none 0 0), fEq (.slice none 0 0)], aE v1 30 (aB .i64) x1, aE i.2 30 (aB .i64) i.1, bE v2 58 (bQ 30 (aB .i64)) x2]) ?_ ?_
 refine Z4 ?_
 revert H; refine bs fun o6 H Hr6 => ?_
 refine aT (ι := Int) (fun i => o6 = i) (fun i => [(1, fSl bD a1), (2, aA .i64 a2), (6, fEq (.pointer (some ⟨b1, 0, none⟩))), (7, fEq (.pointer (some ⟨b2, 0, none⟩))), (8, fEq (.pointer (some ⟨b3, 0, none⟩))), (12, aA .i64 x19), (13, aA .i64 i)]) (fun i => [aC b3 61 [fEq v1, fEq v21, fEq v2], aC b2 99 [fSl aY y1.Chans, fSl bI y1.Spots, fSl bC y1.Rules], aC b1 61 [fEq (.slice none 0 0), fEq (.slice none 0 0), fEq (.slice none 0 0)], aE v1 30 (aB .i64) x1, aE v21 30 (aB .i64) x20, bE v2 58 (bQ 30 (aB .i64)) x2]) ?_ ?_
 refine Z4 ?_
 refine Tl (ι := Nat × Int × Int) (fun i => mV a1 a2 y1 x19 i.1 i.2.1 i.2.2 = _) (fun i => i.1) (fun i => [(1, fSl bD a1), (2, aA .i64 a2), (6, fEq (.pointer (some ⟨b1, 0, none⟩))), (7, fEq (.pointer (some ⟨b2, 0, none⟩))), (8, fEq (.pointer (some ⟨b3, 0, none⟩))), (12, aA .i64 x19), (13, aA .i64 i.2.1), (14, aA .i64 i.2.2)]) (fun i => [aC b3 61 [fEq v1, fEq v21, fEq v2], aC b2 99 [fSl aY y1.Chans, fSl bI y1.Spots, fSl bC y1.Rules], aC b1 61 [fEq (.slice none 0 0), fEq (.slice none 0 0), fEq (.slice none 0 0)], aE v1 30 (aB .i64) x1, aE v21 30 (aB .i64) x20, bE v2 58 (bQ 30 (aB .i64)) x2]) (fuel, 2, 0) H ?_
 clear H; rintro ⟨k4, x25, x26⟩ H
 replace H : mV a1 a2 y1 x19 k4 x25 x26 = _ := H
 try dsimp only
 obtain _ | k4 := k4
 rw [mV] at H; cases H
 rw [mV] at H
 refine aI ?_
 refine Z5 ?_
 revert H; refine bs fun y9 h14 H => ?_
 refine Z6 ?_
 revert H; refine is (fun c4 H => ?_) fun c4 H => ?_
 refine Z3 ?_
 refine aI ?_
 refine Z1 ?_
 revert H; refine bs fun y10 h15 H => ?_
 revert H; refine bs fun y11 h16 H => ?_
 revert H; refine bs fun y12 h17 H => ?_
 revert H; refine bs fun y13 h18 H => ?_
 revert H; refine bs fun y14 h19 H => ?_
 apply bG (ods := [_, _, _, _, _, _, _, _, _, _, _, _, _, _, _, _, _, _, _, _]) 20 0 6 bF rfl rfl rfl
 dsimp only [bA, List.take, List.replicate, List.append, List.drop]
 refine M8 ?_
 intros
 refine M8 ?_
 intros
 refine M1 ?_
 intros
 refine bP (od := odC [] true (aA .i64 y14) []) (Φ := aA .i64 y14) rfl (fun _ => rfl) trivial rfl rfl (has rfl) (aD.cons (has rfl) aD.nil) rfl (cb rfl) (aAs y13 y14 h19) (fun _ => ?_)
 refine M2 ?_
 intros
 refine Z6 ?_
 revert H; refine bs fun z6 h20 H => ?_
 refine Z3 ?_
 exact Tm ((k4, min x25 y14, z6)) ⟨H, ls⟩
 exact fk
 kernel_rfl
 refine Z6 ?_
 exact Tm (x25) (ij H)
 clear H; intro x22 hi; subst o6; have H := Hr6; clear Hr6; try dsimp only at H
 try dsimp only
 revert H; refine bs fun y15 h21 H => ?_
 apply bG (ods := [_, _, _, _, _]) 5 0 6 bF rfl rfl rfl
 dsimp only [bA, List.take, List.replicate, List.append, List.drop]
 refine M3 ?_
 intros
 refine bP (od := odC [] true (aA .i64 y15) []) (Φ := aA .i64 y15) rfl (fun _ => rfl) trivial rfl rfl (has rfl) (aD.cons (has rfl) aD.nil) rfl (cb rfl) (aCe x22 y15 h21) (fun _ => ?_)
 refine Mf (φ := fSl (aB .i64) [y15]) (cC (t := (aB .i64)) (xs := [y15]) rfl (et rfl) (aQ.cons rfl (has rfl) (aS (aF trivial)) aQ.nil) rfl rfl rfl) (fun b => cR) fun _ => ?_
 refine Z1 ?_
 revert H; refine bs fun z7 h22 H => ?_
 refine bL ?_
 refine uI (ys := [y15]) trivial rfl rfl rfl (has rfl) (has rfl) (et rfl) rfl h22 (fun v24 => ?_)
 refine aO 0 rfl (fun hc_v24 => ?_)
 refine Z1 ?_
 refine cA ?_
 refine cY (φs' := [fEq v1, fEq v24, fEq v2]) trivial rfl rfl (has rfl) (has rfl) (aF hc_v24) (sz rfl) rfl rfl ?_
 refine Z3 ?_
 refine aH [0, 2, 3, 4, 1, 5] (by decide) ?_
 exact Tm ((z7, v24)) (ij H)
 exact fk
 kernel_rfl
 clear H; intro i hi; obtain ⟨x21, v22⟩ := i; subst o5; have H := Hr5; clear Hr5; try dsimp only at H
 try dsimp only
 refine aO 4 rfl (fun hc_v22 => ?_)
 refine Z2 ?_
 revert H; refine bs fun z8 h23 H => ?_
 refine Z3 ?_
 exact Tm ((k3, z8, x21, v22)) ⟨H, ls⟩
 refine Z6 ?_
 exact Tm ((x20, v21)) (ij H)
 clear H; intro i hi; obtain ⟨x16, v19⟩ := i; subst o4; have H := Hr4; clear Hr4; try dsimp only at H
 try dsimp only
 refine aO 4 rfl (fun hc_v19 => ?_)
 refine Z2 ?_
 refine eB ?_
 refine dB (φs' := [fEq v1, fEq v19, fEq v2]) trivial rfl rfl (has rfl) (has rfl) (aM (aF hc_v1) (aM (aF hc_v19) (aM (aF hc_v2) bR))) (sz rfl) rfl rfl rfl ?_
 refine Z2 ?_
 cases H
 refine aH [0, 3, 4, 5] (by decide) ?_
 exact aDi rfl (ag rfl) (bU rfl) (eI.own (eI.own (eI.own eI.nil))) rfl rfl
def mC (fuel : Nat) (a0 : Ref05_Look) (a1 : List UsageDef) : Nat → (List UsageDef) → Int → Option (List UsageDef)
| 0, _, _ => none
| k + 1, x4, x5 =>
 if x5 < (a0.p.Defs.length : Int) then
  (uQ fuel a0 a1 x5).bind fun y1 =>
  (eA (x4 ++ ([(⟨y1.Chans, y1.Rules, y1.Args⟩ : UsageDef)] : List UsageDef))).bind fun z1 =>
  (chk (x5 + 1)).bind fun z2 =>
  mC fuel a0 a1 k z1 z2
 else
  some x4
def wO (fuel : Nat) (a0 : Ref05_Look) (a1 : List UsageDef) : Option (List UsageDef) :=
 (mC fuel a0 a1 fuel [] 0).bind fun x1 =>
 some x1
theorem aF6 (fuel : Nat)  (a0 : Ref05_Look) (a1 : List UsageDef) (r : List UsageDef) (H : wO fuel a0 a1 = some r) : FnS Tryz.prog 47 [aG dX a0, fSl bD a1] [] fAny (fun v => [(fun v => bE v 61 bV r) v]) := by
 unfold wO at H
 refine bK Tryz.func47 rfl Tryz.ntmps47 rfl (fun β => ?_)
 refine Z6 ?_
 revert H; refine bs fun o1 H Hr1 => ?_
 refine aT (ι := List UsageDef × Value) (fun i => o1 = i.1) (fun i => [(5, fEq i.2)]) (fun i => [bE i.2 61 bV i.1]) ?_ ?_
 refine Z4 ?_
 refine pU bV 61 ?_
 refine Tl (ι := Nat × List UsageDef × Int × Value) (fun i => mC fuel a0 a1 i.1 i.2.1 i.2.2.1 = _) (fun i => i.1) (fun i => [(0, aG dX a0), (1, fSl bD a1), (5, fEq i.2.2.2), (6, aA .i64 i.2.2.1)]) (fun i => [bE i.2.2.2 61 bV i.2.1]) (fuel, [], 0, (.slice none 0 0)) H ?_
 clear H; rintro ⟨k1, x4, x5, v3⟩ H
 replace H : mC fuel a0 a1 k1 x4 x5 = _ := H
 try dsimp only
 obtain _ | k1 := k1
 rw [mC] at H; cases H
 rw [mC] at H
 refine cM 0 rfl (fun hc_v3 => ?_)
 refine aI ?_
 refine Z10 ?_
 revert H; refine is (fun c1 H => ?_) fun c1 H => ?_
 refine Z3 ?_
 refine aI ?_
 refine Z6 ?_
 revert H; refine bs fun y1 h1 H => ?_
 refine vN trivial rfl rfl rfl (has rfl) (aD.cons (has rfl) (aD.cons (has rfl) (aD.cons (has rfl) aD.nil))) rfl (cb rfl) (aH0 fuel a0 a1 x5 y1 h1) (Δi := []) rfl (fun v4 => ?_)
 dsimp only [List.append, List.cons_append, List.nil_append]
 refine aEm (c := .agg) (fs := [.own (fun v => aE v 30 (aB .i64) y1.Chans) (fun _ => dI), .own (fun v => aE v 30 (aB .i64) y1.Rules) (fun _ => dI), .own (fun v => bE v 58 (bQ 30 (aB .i64)) y1.Args) (fun _ => iC)]) (fun v5 v6 v7 => ?_)
 dsimp only [List.append, List.cons_append, List.nil_append]
 refine aO 0 rfl (fun hc_v5 => ?_)
 refine aO 1 rfl (fun hc_v6 => ?_)
 refine cM 2 rfl (fun hc_v7 => ?_)
 refine aR trivial rfl rfl (cC (t := tF 3) (xs := [[⟨fEq v5, aF hc_v5⟩, ⟨fEq v6, aF hc_v6⟩, ⟨fEq v7, aF hc_v7⟩]]) rfl (et rfl) (aQ.cons rfl (has rfl) bO aQ.nil) rfl rfl rfl) (fun b1 => ?_)
 generalize hv_v8 : (Value.slice (some ⟨b1, 0, none⟩) _ _) = v8; clear hv_v8
 refine kT ?_
 refine cA ?_
 refine eP (p := 0) (f := (fun v => aE v 30 (aB .i64) y1.Chans)) (hf := (fun _ => dI)) rfl Ent.rfl ?_
 refine cA ?_
 refine eP (p := 1) (f := (fun v => aE v 30 (aB .i64) y1.Rules)) (hf := (fun _ => dI)) rfl Ent.rfl ?_
 refine cA ?_
 refine eP (p := 2) (f := (fun v => bE v 58 (bQ 30 (aB .i64)) y1.Args)) (hf := (fun _ => iC)) rfl Ent.rfl ?_
 refine lM (o := bV) (xs := ([(⟨y1.Chans, y1.Rules, y1.Args⟩ : UsageDef)] : List UsageDef)) rfl rfl rfl ?_
 refine cM 0 rfl (fun hc_v8 => ?_)
 revert H; refine bs fun z1 h2 H => ?_
 refine rI (q := bV) trivial rfl rfl rfl (has rfl) (has rfl) (et rfl) rfl h2 (fun v9 => ?_)
 refine cM 0 rfl (fun hc_v9 => ?_)
 refine Z6 ?_
 revert H; refine bs fun z2 h3 H => ?_
 refine Z3 ?_
 exact Tm ((k1, z1, z2, v9)) ⟨H, ls⟩
 refine Z6 ?_
 exact Tm ((x4, v3)) (ij H)
 clear H; intro i hi; obtain ⟨x1, v1⟩ := i; subst o1; have H := Hr1; clear Hr1; try dsimp only at H
 try dsimp only
 refine cM 0 rfl (fun hc_v1 => ?_)
 refine Z5 ?_
 cases H
 exact tR rfl (bU rfl) (fun _ _ _ => trivial) rfl
def lZ (a0 : ScopeProg) (x5 : Int) (x12 : Int) : Nat → (List Int) → Int → Option (List Int)
| 0, _, _ => none
| k + 1, x20, x21 =>
 (idx a0.Defs x5).bind fun y2 =>
 (idx y2.Chans x12).bind fun y3 =>
 if x21 < y3.Many then
  (eA (x20 ++ [1])).bind fun z2 =>
  (chk (x21 + 1)).bind fun z3 =>
  lZ a0 x5 x12 k z2 z3
 else
  some x20
def oM (fuel : Nat) (a0 : ScopeProg) (x5 : Int) : Nat → Int → (List Int) → (List (List Int)) → Option (List Int × List (List Int))
| 0, _, _, _ => none
| k + 1, x12, x13, x14 =>
 (idx a0.Defs x5).bind fun y1 =>
 if x12 < (y1.Chans.length : Int) then
  ((eA (x13 ++ [1])).bind fun z1 =>
  (lZ a0 x5 x12 fuel ([] : List Int) 0).bind fun x17 =>
  (eA (x14 ++ ([x17] : List (List Int)))).bind fun z4 =>
  some (z1, z4)).bind fun (x15, x16) =>
  (chk (x12 + 1)).bind fun z5 =>
  oM fuel a0 x5 k z5 x15 x16
 else
  some (x13, x14)
def oK (a0 : ScopeProg) (x5 : Int) : Nat → Int → (List Int) → Option (List Int)
| 0, _, _ => none
| k + 1, x25, x26 =>
 (idx a0.Defs x5).bind fun y4 =>
 if x25 < (y4.Rules.length : Int) then
  (eA (x26 ++ [1])).bind fun z6 =>
  (chk (x25 + 1)).bind fun z7 =>
  oK a0 x5 k z7 z6
 else
  some x26
def mL (fuel : Nat) (a0 : ScopeProg) : Nat → (List UsageDef) → Int → Option (List UsageDef)
| 0, _, _ => none
| k + 1, x4, x5 =>
 if x5 < (a0.Defs.length : Int) then
  ((oM fuel a0 x5 fuel 0 [] []).bind fun (x7, x8) =>
  (oK a0 x5 fuel 0 []).bind fun x22 =>
  (eA (x4 ++ ([(⟨x7, x22, x8⟩ : UsageDef)] : List UsageDef))).bind fun z8 =>
  some z8).bind fun x6 =>
  (chk (x5 + 1)).bind fun z9 =>
  mL fuel a0 k x6 z9
 else
  some x4
def vC (fuel : Nat) (a0 : ScopeProg) : Option (List UsageDef) :=
 (mL fuel a0 fuel [] 0).bind fun x1 =>
 some x1
theorem aFP (fuel : Nat)  (a0 : ScopeProg) (r : List UsageDef) (H : vC fuel a0 = some r) : FnS Tryz.prog 84 [fSt dG a0] [] fAny (fun v => [(fun v => bE v 61 bV r) v]) := by
 unfold vC at H
 refine bK Tryz.func84 rfl Tryz.ntmps84 rfl (fun β => ?_)
 refine Z1 ?_
 refine aR trivial rfl rfl (cF rfl (has rfl) bO) (fun b1 => ?_)
 refine Z5 ?_
 revert H; refine bs fun o1 H Hr1 => ?_
 refine aT (ι := List UsageDef × Value) (fun i => o1 = i.1) (fun i => [(3, fEq i.2)]) (fun i => [aC b1 26 [fSl aN a0.Free, fSl aL a0.Nodes, fSl aJ a0.Defs, aA .i64 a0.Main], bE i.2 61 bV i.1]) ?_ ?_
 refine Z4 ?_
 refine pU bV 61 ?_
 refine aH [1, 0] (by decide) ?_
 refine Tl (ι := Nat × List UsageDef × Int × Value) (fun i => mL fuel a0 i.1 i.2.1 i.2.2.1 = _) (fun i => i.1) (fun i => [(1, fEq (.pointer (some ⟨b1, 0, none⟩))), (3, fEq i.2.2.2), (4, aA .i64 i.2.2.1)]) (fun i => [aC b1 26 [fSl aN a0.Free, fSl aL a0.Nodes, fSl aJ a0.Defs, aA .i64 a0.Main], bE i.2.2.2 61 bV i.2.1]) (fuel, [], 0, (.slice none 0 0)) H ?_
 clear H; rintro ⟨k1, x4, x5, v3⟩ H
 replace H : mL fuel a0 k1 x4 x5 = _ := H
 try dsimp only
 obtain _ | k1 := k1
 rw [mL] at H; cases H
 rw [mL] at H
 refine cM 1 rfl (fun hc_v3 => ?_)
 refine aI ?_
 refine Z7 ?_
 revert H; refine is (fun c1 H => ?_) fun c1 H => ?_
 refine Z3 ?_
 revert H; refine bs fun o2 H Hr2 => ?_
 refine aT (ι := List UsageDef × Value) (fun i => o2 = i.1) (fun i => [(1, fEq (.pointer (some ⟨b1, 0, none⟩))), (4, aA .i64 x5), (3, fEq i.2)]) (fun i => [aC b1 26 [fSl aN a0.Free, fSl aL a0.Nodes, fSl aJ a0.Defs, aA .i64 a0.Main], bE i.2 61 bV i.1]) ?_ ?_
 refine Z2 ?_
 refine aR trivial rfl rfl (cB rfl sS rfl) (fun b2 => ?_)
 refine Z1 ?_
 revert H; refine bs fun o3 H Hr3 => ?_
 refine aT (ι := List Int × List (List Int) × Value × Value) (fun i => o3 = (i.1, i.2.1)) (fun i => [(1, fEq (.pointer (some ⟨b1, 0, none⟩))), (3, fEq v3), (4, aA .i64 x5), (5, fEq (.pointer (some ⟨b2, 0, none⟩)))]) (fun i => [aC b2 61 [fEq i.2.2.1, fEq (.slice none 0 0), fEq i.2.2.2], aC b1 26 [fSl aN a0.Free, fSl aL a0.Nodes, fSl aJ a0.Defs, aA .i64 a0.Main], bE v3 61 bV x4, aE i.2.2.1 30 (aB .i64) i.1, bE i.2.2.2 58 (bQ 30 (aB .i64)) i.2.1]) ?_ ?_
 refine Z4 ?_
 refine lS (aB .i64) 30 ?_
 refine pU (bQ 30 (aB .i64)) 58 ?_
 refine aH [2, 3, 4, 1, 0] (by decide) ?_
 refine Tl (ι := Nat × Int × List Int × List (List Int) × Value × Value) (fun i => oM fuel a0 x5 i.1 i.2.1 i.2.2.1 i.2.2.2.1 = _) (fun i => i.1) (fun i => [(1, fEq (.pointer (some ⟨b1, 0, none⟩))), (3, fEq v3), (4, aA .i64 x5), (5, fEq (.pointer (some ⟨b2, 0, none⟩))), (6, aA .i64 i.2.1)]) (fun i => [aC b2 61 [fEq i.2.2.2.2.1, fEq (.slice none 0 0), fEq i.2.2.2.2.2], aC b1 26 [fSl aN a0.Free, fSl aL a0.Nodes, fSl aJ a0.Defs, aA .i64 a0.Main], bE v3 61 bV x4, aE i.2.2.2.2.1 30 (aB .i64) i.2.2.1, bE i.2.2.2.2.2 58 (bQ 30 (aB .i64)) i.2.2.2.1]) (fuel, 0, [], [], (.slice none 0 0), (.slice none 0 0)) H ?_
 clear H; rintro ⟨k2, x12, x13, x14, v9, v10⟩ H
 replace H : oM fuel a0 x5 k2 x12 x13 x14 = _ := H
 try dsimp only
 obtain _ | k2 := k2
 rw [oM] at H; cases H
 rw [oM] at H
 refine aO 3 rfl (fun hc_v9 => ?_)
 refine cM 4 rfl (fun hc_v10 => ?_)
 refine aI ?_
 refine Z5 ?_
 revert H; refine bs fun y1 h1 H => ?_
 refine Z6 ?_
 revert H; refine is (fun c2 H => ?_) fun c2 H => ?_
 refine Z3 ?_
 revert H; refine bs fun o4 H Hr4 => ?_
 refine aT (ι := List Int × List (List Int) × Value × Value) (fun i => o4 = (i.1, i.2.1)) (fun i => [(1, fEq (.pointer (some ⟨b1, 0, none⟩))), (3, fEq v3), (4, aA .i64 x5), (5, fEq (.pointer (some ⟨b2, 0, none⟩))), (6, aA .i64 x12)]) (fun i => [aC b2 61 [fEq i.2.2.1, fEq (.slice none 0 0), fEq i.2.2.2], aC b1 26 [fSl aN a0.Free, fSl aL a0.Nodes, fSl aJ a0.Defs, aA .i64 a0.Main], bE v3 61 bV x4, aE i.2.2.1 30 (aB .i64) i.1, bE i.2.2.2 58 (bQ 30 (aB .i64)) i.2.1]) ?_ ?_
 refine Z4 ?_
 refine aR trivial rfl rfl (cC (t := (aB .i64)) (xs := [1]) rfl (et rfl) (aQ.cons rfl (has rfl) (aS (aF trivial)) aQ.nil) rfl rfl rfl) (fun b3 => ?_)
 generalize hv_v13 : (Value.slice (some ⟨b3, 0, none⟩) _ _) = v13; clear hv_v13
 refine aO 0 rfl (fun hc_v13 => ?_)
 revert H; refine bs fun z1 h2 H => ?_
 refine bL ?_
 refine cA ?_
 refine lX trivial rfl rfl rfl (has rfl) (has rfl) (et rfl) rfl h2 (fun v14 => ?_)
 refine aO 0 rfl (fun hc_v14 => ?_)
 refine Z1 ?_
 refine cA ?_
 refine cY (φs' := [fEq v14, fEq (.slice none 0 0), fEq v10]) trivial rfl rfl (has rfl) (has rfl) (aF hc_v14) (sz rfl) rfl rfl ?_
 refine Z2 ?_
 refine aR trivial rfl rfl (cC (t := (aB .i64)) (xs := ([] : List Int)) rfl (et rfl) aQ.nil rfl rfl rfl) (fun b4 => ?_)
 generalize hv_v15 : (Value.slice (some ⟨b4, 0, none⟩) _ _) = v15; clear hv_v15
 refine aO 0 rfl (fun hc_v15 => ?_)
 refine Z2 ?_
 revert H; refine bs fun o5 H Hr5 => ?_
 refine aT (ι := List Int × Value) (fun i => o5 = i.1) (fun i => [(1, fEq (.pointer (some ⟨b1, 0, none⟩))), (3, fEq v3), (4, aA .i64 x5), (5, fEq (.pointer (some ⟨b2, 0, none⟩))), (6, aA .i64 x12), (7, fEq i.2)]) (fun i => [aC b2 61 [fEq v14, fEq (.slice none 0 0), fEq v10], aC b1 26 [fSl aN a0.Free, fSl aL a0.Nodes, fSl aJ a0.Defs, aA .i64 a0.Main], bE v3 61 bV x4, aE i.2 30 (aB .i64) i.1, aE v14 30 (aB .i64) z1, bE v10 58 (bQ 30 (aB .i64)) x14]) ?_ ?_
 refine Z4 ?_
 refine aH [1, 3, 4, 0, 2, 5] (by decide) ?_
 refine Tl (ι := Nat × List Int × Int × Value) (fun i => lZ a0 x5 x12 i.1 i.2.1 i.2.2.1 = _) (fun i => i.1) (fun i => [(1, fEq (.pointer (some ⟨b1, 0, none⟩))), (3, fEq v3), (4, aA .i64 x5), (5, fEq (.pointer (some ⟨b2, 0, none⟩))), (6, aA .i64 x12), (7, fEq i.2.2.2), (8, aA .i64 i.2.2.1)]) (fun i => [aC b2 61 [fEq v14, fEq (.slice none 0 0), fEq v10], aC b1 26 [fSl aN a0.Free, fSl aL a0.Nodes, fSl aJ a0.Defs, aA .i64 a0.Main], bE v3 61 bV x4, aE i.2.2.2 30 (aB .i64) i.2.1, aE v14 30 (aB .i64) z1, bE v10 58 (bQ 30 (aB .i64)) x14]) (fuel, ([] : List Int), 0, v15) H ?_
 clear H; rintro ⟨k3, x20, x21, v18⟩ H
 replace H : lZ a0 x5 x12 k3 x20 x21 = _ := H
 try dsimp only
 obtain _ | k3 := k3
 rw [lZ] at H; cases H
 rw [lZ] at H
 refine aO 3 rfl (fun hc_v18 => ?_)
 refine aI ?_
 refine Z5 ?_
 revert H; refine bs fun y2 h3 H => ?_
 refine Z4 ?_
 revert H; refine bs fun y3 h4 H => ?_
 refine Z5 ?_
 revert H; refine is (fun c3 H => ?_) fun c3 H => ?_
 refine Z3 ?_
 refine aI ?_
 refine Z3 ?_
 refine aR trivial rfl rfl (cC (t := (aB .i64)) (xs := [1]) rfl (et rfl) (aQ.cons rfl (has rfl) (aS (aF trivial)) aQ.nil) rfl rfl rfl) (fun b5 => ?_)
 generalize hv_v19 : (Value.slice (some ⟨b5, 0, none⟩) _ _) = v19; clear hv_v19
 refine aO 0 rfl (fun hc_v19 => ?_)
 revert H; refine bs fun z2 h5 H => ?_
 refine bL ?_
 refine cA ?_
 refine lX trivial rfl rfl rfl (has rfl) (has rfl) (et rfl) rfl h5 (fun v20 => ?_)
 refine aO 0 rfl (fun hc_v20 => ?_)
 refine Z6 ?_
 revert H; refine bs fun z3 h6 H => ?_
 refine Z3 ?_
 refine aH [1, 2, 3, 0, 4, 5] (by decide) ?_
 exact Tm ((k3, z2, z3, v20)) ⟨H, ls⟩
 refine Z6 ?_
 exact Tm ((x20, v18)) (ij H)
 clear H; intro i hi; obtain ⟨x17, v16⟩ := i; subst o5; have H := Hr5; clear Hr5; try dsimp only at H
 try dsimp only
 refine aO 3 rfl (fun hc_v16 => ?_)
 refine Z4 ?_
 refine aR trivial rfl rfl (cC (t := tF 1) (xs := [[⟨fEq v16, aF hc_v16⟩]]) rfl (et rfl) (aQ.cons rfl (has rfl) (aS (aF hc_v16)) aQ.nil) rfl rfl rfl) (fun b6 => ?_)
 generalize hv_v21 : (Value.slice (some ⟨b6, 0, none⟩) _ _) = v21; clear hv_v21
 refine kT ?_
 refine bL ?_
 refine eP (p := 0) (f := (fun v => aE v 30 (aB .i64) x17)) (hf := (fun _ => dI)) rfl Ent.rfl ?_
 refine lM (o := (bQ 30 (aB .i64))) (xs := ([x17] : List (List Int))) rfl rfl rfl ?_
 refine cM 0 rfl (fun hc_v21 => ?_)
 revert H; refine bs fun z4 h7 H => ?_
 refine jA ?_
 refine cA ?_
 refine rI (q := (bQ 30 (aB .i64))) trivial rfl rfl rfl (has rfl) (has rfl) (et rfl) rfl h7 (fun v22 => ?_)
 refine cM 0 rfl (fun hc_v22 => ?_)
 refine Z1 ?_
 refine cA ?_
 refine cY (φs' := [fEq v14, fEq (.slice none 0 0), fEq v22]) trivial rfl rfl (has rfl) (has rfl) (aF hc_v22) (sz rfl) rfl rfl ?_
 refine Z3 ?_
 refine aH [0, 2, 3, 4, 1] (by decide) ?_
 exact Tm ((z1, z4, v14, v22)) (ij H)
 clear H; intro i hi; obtain ⟨x15, x16, v11, v12⟩ := i; subst o4; have H := Hr4; clear Hr4; try dsimp only at H
 try dsimp only
 refine aO 3 rfl (fun hc_v11 => ?_)
 refine cM 4 rfl (fun hc_v12 => ?_)
 refine Z2 ?_
 revert H; refine bs fun z5 h8 H => ?_
 refine Z3 ?_
 exact Tm ((k2, z5, x15, x16, v11, v12)) ⟨H, ls⟩
 refine Z6 ?_
 exact Tm ((x13, x14, v9, v10)) (ij H)
 clear H; intro i hi; obtain ⟨x7, x8, v5, v6⟩ := i; subst o3; have H := Hr3; clear Hr3; try dsimp only at H
 try dsimp only
 refine aO 3 rfl (fun hc_v5 => ?_)
 refine cM 4 rfl (fun hc_v6 => ?_)
 revert H; refine bs fun o6 H Hr6 => ?_
 refine aT (ι := List Int × Value) (fun i => o6 = i.1) (fun i => [(1, fEq (.pointer (some ⟨b1, 0, none⟩))), (3, fEq v3), (4, aA .i64 x5), (5, fEq (.pointer (some ⟨b2, 0, none⟩)))]) (fun i => [aC b2 61 [fEq v5, fEq i.2, fEq v6], aC b1 26 [fSl aN a0.Free, fSl aL a0.Nodes, fSl aJ a0.Defs, aA .i64 a0.Main], bE v3 61 bV x4, aE v5 30 (aB .i64) x7, aE i.2 30 (aB .i64) i.1, bE v6 58 (bQ 30 (aB .i64)) x8]) ?_ ?_
 refine Z4 ?_
 refine lS (aB .i64) 30 ?_
 refine aH [1, 2, 3, 4, 0, 5] (by decide) ?_
 refine Tl (ι := Nat × Int × List Int × Value) (fun i => oK a0 x5 i.1 i.2.1 i.2.2.1 = _) (fun i => i.1) (fun i => [(1, fEq (.pointer (some ⟨b1, 0, none⟩))), (3, fEq v3), (4, aA .i64 x5), (5, fEq (.pointer (some ⟨b2, 0, none⟩))), (9, aA .i64 i.2.1)]) (fun i => [aC b2 61 [fEq v5, fEq i.2.2.2, fEq v6], aC b1 26 [fSl aN a0.Free, fSl aL a0.Nodes, fSl aJ a0.Defs, aA .i64 a0.Main], bE v3 61 bV x4, aE v5 30 (aB .i64) x7, aE i.2.2.2 30 (aB .i64) i.2.2.1, bE v6 58 (bQ 30 (aB .i64)) x8]) (fuel, 0, [], (.slice none 0 0)) H ?_
 clear H; rintro ⟨k4, x25, x26, v25⟩ H
 replace H : oK a0 x5 k4 x25 x26 = _ := H
 try dsimp only
 obtain _ | k4 := k4
 rw [oK] at H; cases H
 rw [oK] at H
 refine aO 4 rfl (fun hc_v25 => ?_)
 refine aI ?_
 refine Z5 ?_
 revert H; refine bs fun y4 h9 H => ?_
 refine Z6 ?_
 revert H; refine is (fun c4 H => ?_) fun c4 H => ?_
 refine Z3 ?_
 refine aI ?_
 refine Z4 ?_
 refine aR trivial rfl rfl (cC (t := (aB .i64)) (xs := [1]) rfl (et rfl) (aQ.cons rfl (has rfl) (aS (aF trivial)) aQ.nil) rfl rfl rfl) (fun b7 => ?_)
 generalize hv_v26 : (Value.slice (some ⟨b7, 0, none⟩) _ _) = v26; clear hv_v26
 refine aO 0 rfl (fun hc_v26 => ?_)
 revert H; refine bs fun z6 h10 H => ?_
 refine jA ?_
 refine cA ?_
 refine lX trivial rfl rfl rfl (has rfl) (has rfl) (et rfl) rfl h10 (fun v27 => ?_)
 refine aO 0 rfl (fun hc_v27 => ?_)
 refine Z1 ?_
 refine cA ?_
 refine cY (φs' := [fEq v5, fEq v27, fEq v6]) trivial rfl rfl (has rfl) (has rfl) (aF hc_v27) (sz rfl) rfl rfl ?_
 refine Z5 ?_
 revert H; refine bs fun z7 h11 H => ?_
 refine Z3 ?_
 refine aH [0, 2, 3, 4, 1, 5] (by decide) ?_
 exact Tm ((k4, z7, z6, v27)) ⟨H, ls⟩
 refine Z6 ?_
 exact Tm ((x26, v25)) (ij H)
 clear H; intro i hi; obtain ⟨x22, v23⟩ := i; subst o6; have H := Hr6; clear Hr6; try dsimp only at H
 try dsimp only
 refine aO 4 rfl (fun hc_v23 => ?_)
 refine Z3 ?_
 refine aR trivial rfl rfl (cC (t := tF 3) (xs := [[⟨fEq v5, aF hc_v5⟩, ⟨fEq v23, aF hc_v23⟩, ⟨fEq v6, aF hc_v6⟩]]) rfl (et rfl) (aQ.cons rfl (has rfl) bO aQ.nil) rfl rfl rfl) (fun b8 => ?_)
 generalize hv_v28 : (Value.slice (some ⟨b8, 0, none⟩) _ _) = v28; clear hv_v28
 refine kT ?_
 refine bL ?_
 refine eP (p := 0) (f := (fun v => aE v 30 (aB .i64) x7)) (hf := (fun _ => dI)) rfl Ent.rfl ?_
 refine bL ?_
 refine eP (p := 1) (f := (fun v => aE v 30 (aB .i64) x22)) (hf := (fun _ => dI)) rfl Ent.rfl ?_
 refine bL ?_
 refine eP (p := 2) (f := (fun v => bE v 58 (bQ 30 (aB .i64)) x8)) (hf := (fun _ => iC)) rfl Ent.rfl ?_
 refine lM (o := bV) (xs := ([(⟨x7, x22, x8⟩ : UsageDef)] : List UsageDef)) rfl rfl rfl ?_
 refine cM 0 rfl (fun hc_v28 => ?_)
 revert H; refine bs fun z8 h12 H => ?_
 refine dD ?_
 refine cA ?_
 refine rI (q := bV) trivial rfl rfl rfl (has rfl) (has rfl) (et rfl) rfl h12 (fun v29 => ?_)
 refine cM 0 rfl (fun hc_v29 => ?_)
 refine Z4 ?_
 refine aH [2, 0] (by decide) ?_
 exact Tm ((z8, v29)) (ij H)
 clear H; intro i hi; obtain ⟨x6, v4⟩ := i; subst o2; have H := Hr2; clear Hr2; try dsimp only at H
 try dsimp only
 refine cM 1 rfl (fun hc_v4 => ?_)
 refine Z2 ?_
 revert H; refine bs fun z9 h13 H => ?_
 refine Z3 ?_
 exact Tm ((k1, x6, z9, v4)) ⟨H, ls⟩
 refine Z6 ?_
 exact Tm ((x4, v3)) (ij H)
 clear H; intro i hi; obtain ⟨x1, v1⟩ := i; subst o1; have H := Hr1; clear Hr1; try dsimp only at H
 try dsimp only
 refine cM 1 rfl (fun hc_v1 => ?_)
 refine Z5 ?_
 cases H
 refine aH [1] (by decide) ?_
 exact tR rfl (bU rfl) (fun _ _ _ => trivial) rfl
end Go.Proofs.YtmnbfgeljmhekaaGreat
set_option maxRecDepth 100000
set_option maxHeartbeats 2000000
namespace Go.Proofs.YtmnbfgeljmhekaaGreat
open Go.SX Go.SW Go.Dt
attribute [local irreducible] Code.wpIn wpListIn Exit.then Exit.inBlock
def nU (fuel : Nat) (y1 : Ref05_Look) : Nat → (List UsageDef) → Option (List UsageDef)
| 0, _ => none
| k + 1, x3 =>
 (wO fuel y1 x3).bind fun y3 =>
 (oX fuel x3 y3).bind fun y4 =>
 bif y4 then
  some x3
 else
  nU fuel y1 k y3
def mQ (fuel : Nat) (y1 : Ref05_Look) (x8 : Int) : Nat → (List UsageDef) → Int → Option (List UsageDef)
| 0, _, _ => none
| k + 1, x12, x13 =>
 (idx x12 x8).bind fun y5 =>
 if x13 < (y5.Chans.length : Int) then
  ((idx x12 x8).bind fun y6 =>
  (idx y5.Chans x13).bind fun y7 =>
  if y7 = 3 then
   (idx y1.Heads x8).bind fun y8 =>
   (vA y1 x8 x13).bind fun y9 =>
   (nK fuel y1 y8 y9).bind fun y10 =>
   if y10 = 1 then
    (idx x12 x8).bind fun y11 =>
    (idx y5.Chans x13).bind fun y12 =>
    some (y5.Chans.set x13.toNat 2)
   else
    some y5.Chans
  else
   some y5.Chans).bind fun x14 =>
  (chk (x13 + 1)).bind fun z1 =>
  mQ fuel y1 x8 k (x12.set x8.toNat ({ y5 with Chans := x14 })) z1
 else
  some (x12.set x8.toNat ({ y5 with Chans := y5.Chans }))
def kJ (fuel : Nat) (y1 : Ref05_Look) : Nat → (List UsageDef) → Int → Option (List UsageDef)
| 0, _, _ => none
| k + 1, x7, x8 =>
 if x8 < (x7.length : Int) then
  (mQ fuel y1 x8 fuel x7 0).bind fun x9 =>
  (chk (x8 + 1)).bind fun z2 =>
  kJ fuel y1 k x9 z2
 else
  some x7
def zI (fuel : Nat) (a0 : ScopeProg) : Option (List UsageDef) :=
 (tN fuel (⟨a0.Free, a0.Nodes, a0.Defs, a0.Main⟩ : ScopeProg)).bind fun y1 =>
 (vC fuel (⟨a0.Free, a0.Nodes, a0.Defs, a0.Main⟩ : ScopeProg)).bind fun y2 =>
 (nU fuel y1 fuel y2).bind fun x1 =>
 (kJ fuel y1 fuel x1 0).bind fun x4 =>
 some x4
theorem aHb (fuel : Nat)  (a0 : ScopeProg) (r : List UsageDef) (H : zI fuel a0 = some r) : FnS Tryz.prog 43 [fSt dG a0] [] (fSl bD r) (fun _ => []) := by
 unfold zI at H
 refine bK Tryz.func43 rfl Tryz.ntmps43 rfl (fun β => ?_)
 refine Z1 ?_
 refine aR trivial rfl rfl (cF rfl (has rfl) bO) (fun b1 => ?_)
 refine Z4 ?_
 revert H; refine bs fun y1 h1 H => ?_
 refine Tc (aGr _ _ _ h1) ?_
 refine Z4 ?_
 revert H; refine bs fun y2 h2 H => ?_
 refine vN trivial rfl rfl rfl (has rfl) (aD.cons (has rfl) aD.nil) rfl (cb rfl) (aFP fuel (⟨a0.Free, a0.Nodes, a0.Defs, a0.Main⟩ : ScopeProg) y2 h2) (Δi := []) rfl (fun v1 => ?_)
 dsimp only [List.append, List.cons_append, List.nil_append]
 refine cM 0 rfl (fun hc_v1 => ?_)
 refine Z2 ?_
 revert H; refine bs fun o1 H Hr1 => ?_
 refine aT (ι := List UsageDef × Value) (fun i => o1 = i.1) (fun i => [(3, aG dX y1), (4, fEq i.2)]) (fun i => [aC b1 26 [fSl aN a0.Free, fSl aL a0.Nodes, fSl aJ a0.Defs, aA .i64 a0.Main], bE i.2 61 bV i.1]) ?_ ?_
 refine Z1 ?_
 refine aH [1, 0] (by decide) ?_
 refine Tl (ι := Nat × List UsageDef × Value) (fun i => nU fuel y1 i.1 i.2.1 = _) (fun i => i.1) (fun i => [(3, aG dX y1), (4, fEq i.2.2)]) (fun i => [aC b1 26 [fSl aN a0.Free, fSl aL a0.Nodes, fSl aJ a0.Defs, aA .i64 a0.Main], bE i.2.2 61 bV i.2.1]) (fuel, y2, v1) H ?_
 clear H; rintro ⟨k1, x3, v4⟩ H
 replace H : nU fuel y1 k1 x3 = _ := H
 try dsimp only
 obtain _ | k1 := k1
 rw [nU] at H; cases H
 rw [nU] at H
 refine cM 1 rfl (fun hc_v4 => ?_)
 refine Z4 ?_
 refine cA ?_
 revert H; refine bs fun y3 h3 H => ?_
 refine aDT (Δl := [bE v4 61 bV x3]) (Δi := []) [(v4, fSl bD x3)] trivial rfl rfl rfl (has rfl) (dW.cons rfl (uB Ent.rfl) (dW.cons rfl (oT 0 rfl) dW.nil)) (cb rfl) (aF6 fuel y1 x3 y3 h3) aC1 (fun v τ h => by have : τ = _ := List.mem_singleton.1 h; subst this; exact (aBx aD4)) (fD.cons (iW rfl jK) fD.nil) rfl (fun v5 => ?_)
 dsimp only [List.append, List.cons_append, List.nil_append]
 refine cM 1 rfl (fun hc_v5 => ?_)
 refine Z2 ?_
 refine aI ?_
 refine Z3 ?_
 revert H; refine bs fun y4 h4 H => ?_
 refine xO (Δl := [bE v4 61 bV x3, bE v5 61 bV y3]) (Δi := []) (Δo := []) [(v4, fSl bD x3), (v5, fSl bD y3)] trivial rfl rfl rfl (has rfl) (dW.cons rfl (oT 0 rfl) (dW.cons rfl (oT 1 rfl) dW.nil)) (cb rfl) (aB3 fuel x3 y3 y4 h4) uS (fun _ h => nomatch h) (fD.cons (iW rfl jK) (fD.cons (iW rfl jK) fD.nil)) rfl ?_
 dsimp only [List.append, List.cons_append, List.nil_append]
 refine Z1 ?_
 revert H; refine cs (fun c1 H => ?_) fun c1 H => ?_
 refine Z7 ?_
 refine aH [2, 0] (by decide) ?_
 exact Tm ((x3, v4)) (ij H)
 refine Z9 ?_
 refine aH [2, 1] (by decide) ?_
 exact Tm ((k1, y3, v5)) ⟨H, ls⟩
 clear H; intro i hi; obtain ⟨x1, v2⟩ := i; subst o1; have H := Hr1; clear Hr1; try dsimp only at H
 try dsimp only
 refine cM 1 rfl (fun hc_v2 => ?_)
 revert H; refine bs fun o2 H Hr2 => ?_
 refine aT (ι := List UsageDef) (fun i => o2 = i) (fun i => [(4, fEq v2)]) (fun i => [aC b1 26 [fSl aN a0.Free, fSl aL a0.Nodes, fSl aJ a0.Defs, aA .i64 a0.Main], bE v2 61 bV i]) ?_ ?_
 refine Z4 ?_
 refine Tl (ι := Nat × List UsageDef × Int) (fun i => kJ fuel y1 i.1 i.2.1 i.2.2 = _) (fun i => i.1) (fun i => [(3, aG dX y1), (4, fEq v2), (6, aA .i64 i.2.2)]) (fun i => [aC b1 26 [fSl aN a0.Free, fSl aL a0.Nodes, fSl aJ a0.Defs, aA .i64 a0.Main], bE v2 61 bV i.2.1]) (fuel, x1, 0) H ?_
 clear H; rintro ⟨k2, x7, x8⟩ H
 replace H : kJ fuel y1 k2 x7 x8 = _ := H
 try dsimp only
 obtain _ | k2 := k2
 rw [kJ] at H; cases H
 rw [kJ] at H
 refine aI ?_
 refine Z3 ?_
 refine Yo 1 rfl (aA4 rfl hh (us rfl)) ?_
 refine Z2 ?_
 revert H; refine is (fun c2 H => ?_) fun c2 H => ?_
 refine Z3 ?_
 revert H; refine bs fun o3 H Hr3 => ?_
 refine aT (ι := List UsageDef) (fun i => o3 = i) (fun i => [(3, aG dX y1), (4, fEq v2), (6, aA .i64 x8)]) (fun i => [aC b1 26 [fSl aN a0.Free, fSl aL a0.Nodes, fSl aJ a0.Defs, aA .i64 a0.Main], bE v2 61 bV i]) ?_ ?_
 refine Z5 ?_
 refine Tl (ι := Nat × List UsageDef × Int) (fun i => mQ fuel y1 x8 i.1 i.2.1 i.2.2 = _) (fun i => i.1) (fun i => [(3, aG dX y1), (4, fEq v2), (6, aA .i64 x8), (7, aA .i64 i.2.2)]) (fun i => [aC b1 26 [fSl aN a0.Free, fSl aL a0.Nodes, fSl aJ a0.Defs, aA .i64 a0.Main], bE v2 61 bV i.2.1]) (fuel, x7, 0) H ?_
 clear H; rintro ⟨k3, x12, x13⟩ H
 replace H : mQ fuel y1 x8 k3 x12 x13 = _ := H
 try dsimp only
 obtain _ | k3 := k3
 rw [mQ] at H; cases H
 rw [mQ] at H
 refine aI ?_
 refine Z4 ?_
 revert H; refine bs fun y5 h5 H => ?_
 refine Yo 1 rfl (hZ rfl hh hh (el rfl) h5) ?_
 refine Yy (qJ 0 rfl hh (fa rfl) rfl) ?_
 refine cA ?_
 refine qD (i := x8.toNat) (k := 0) (y := y5) (f := (fun v => aE v 30 (aB .i64) y5.Chans)) (bW h5) rfl (fun v6 => ?_)
 refine aO 0 rfl (fun hc_v6 => ?_)
 refine Yo 1 rfl (iT rfl rfl hh (sc rfl) (bW h5) rfl) ?_
 refine Z3 ?_
 revert H; refine is (fun c3 H => ?_) fun c3 H => ?_
 refine Z3 ?_
 revert H; refine bs fun o4 H Hr4 => ?_
 refine aT (ι := List Int) (fun i => o4 = i) (fun i => [(3, aG dX y1), (4, fEq v2), (6, aA .i64 x8), (7, aA .i64 x13)]) (fun i => [aC b1 26 [fSl aN a0.Free, fSl aL a0.Nodes, fSl aJ a0.Defs, aA .i64 a0.Main], pG v2 61 bV x12 (x8.toNat * OTy.sz bV + 0) v6, aE v6 30 (aB .i64) i]) ?_ ?_
 refine Z1 ?_
 refine aI ?_
 revert H; refine bs fun y6 h6 H => ?_
 revert H; refine bs fun y7 h7 H => ?_
 revert H; refine is (fun c4 H => ?_) fun c4 H => ?_
 revert H; refine bs fun y8 h8 H => ?_
 revert H; refine bs fun y9 h9 H => ?_
 revert H; refine bs fun y10 h10 H => ?_
 apply bG (ods := [_, _, _, _, _, _, _, _, _, _, _, _, _, _, _, _, _, _, _, _, _, _, _, _, _]) 25 0 3 bF rfl rfl rfl
 dsimp only [bA, List.take, List.replicate, List.append, List.drop]
 refine M2 ?_
 intros
 refine Mo 1 rfl (hZ rfl hh hh (el rfl) h6) fun _ => ?_
 refine My (qJ 0 rfl hh (fa rfl) rfl) fun _ => ?_
 refine Mo 1 rfl (iT rfl rfl hh (sc rfl) (bW h6) rfl) fun _ => ?_
 refine M2 ?_
 intros
 refine Mo 0 rfl (iN rfl rfl hh (sc rfl) (bW h7) rfl) fun _ => ?_
 refine M8 ?_
 intros
 refine M5 ?_
 intros
 refine bP (od := odC [] true (aA .i64 y9) []) (Φ := aA .i64 y9) rfl (fun _ => rfl) ⟨_, _, rfl, rfl, c4⟩ rfl rfl (has rfl) (aD.cons (has rfl) (aD.cons (has rfl) (aD.cons (has rfl) aD.nil))) rfl (cb rfl) (aE4 y1 x8 x13 y9 h9) (fun _ => ?_)
 refine bP (od := odC [] true (aA .i64 y10) []) (Φ := aA .i64 y10) rfl (fun _ => rfl) ⟨_, _, rfl, rfl, c4⟩ rfl rfl (has rfl) (aD.cons (has rfl) (aD.cons (has rfl) (aD.cons (has rfl) aD.nil))) rfl (cb rfl) (aHk fuel y1 y8 y9 y10 h10) (fun _ => ?_)
 refine M2 ?_
 intros
 refine Z2 ?_
 revert H; refine is (fun c5 H => ?_) fun c5 H => ?_
 refine Z4 ?_
 revert H; refine bs fun y11 h11 H => ?_
 refine Yo 1 rfl (hZ rfl hh hh (el rfl) h11) ?_
 refine Yy (qJ 0 rfl hh (fa rfl) rfl) ?_
 refine Yo 1 rfl (iT rfl rfl hh (sc rfl) (bW h11) rfl) ?_
 refine Z1 ?_
 revert H; refine bs fun y12 h12 H => ?_
 refine Z1 ?_
 refine rJ (z' := 2) trivial rfl rfl rfl (has rfl) (has rfl) (aF trivial) (sz rfl) (bW h12) rfl rfl ?_
 refine Z3 ?_
 refine aH [2, 1, 0] (by decide) ?_
 exact Tm (y5.Chans.set x13.toNat 2) (ij H)
 refine Z4 ?_
 refine aH [2, 1, 0] (by decide) ?_
 exact Tm (y5.Chans) (ij H)
 exact fk
 kernel_rfl
 apply bG (ods := [_, _, _, _, _, _, _, _, _, _, _, _, _, _, _, _, _, _, _, _, _, _, _, _, _]) 25 0 3 bF rfl rfl rfl
 dsimp only [bA, List.take, List.replicate, List.append, List.drop]
 refine M2 ?_
 intros
 refine Mo 1 rfl (hZ rfl hh hh (el rfl) h6) fun _ => ?_
 refine My (qJ 0 rfl hh (fa rfl) rfl) fun _ => ?_
 refine Mo 1 rfl (iT rfl rfl hh (sc rfl) (bW h6) rfl) fun _ => ?_
 refine M2 ?_
 intros
 refine Mo 0 rfl (iN rfl rfl hh (sc rfl) (bW h7) rfl) fun _ => ?_
 refine M8 ?_
 intros
 refine M8 ?_
 intros
 refine M1 ?_
 intros
 refine Z6 ?_
 refine aH [2, 1, 0] (by decide) ?_
 exact Tm (y5.Chans) (ij H)
 exact fk
 kernel_rfl
 clear H; intro x14 hi; subst o4; have H := Hr4; clear Hr4; try dsimp only at H
 try dsimp only
 refine Z2 ?_
 revert H; refine bs fun z1 h13 H => ?_
 refine Z3 ?_
 refine cA ?_
 refine eB ?_
 refine mF (o := bV) (i := x8.toNat) (k := 0) (y := y5) (y' := { y5 with Chans := x14 }) (f := (fun v => aE v 30 (aB .i64) x14)) (hf := (fun _ => dI)) (bW h5) rfl rfl ?_
 refine aH [1, 0] (by decide) ?_
 exact Tm ((k3, x12.set x8.toNat ({ y5 with Chans := x14 }), z1)) ⟨H, ls⟩
 refine Z7 ?_
 refine mF (o := bV) (i := x8.toNat) (k := 0) (y := y5) (y' := { y5 with Chans := y5.Chans }) (f := (fun v => aE v 30 (aB .i64) y5.Chans)) (hf := (fun _ => dI)) (bW h5) rfl rfl ?_
 refine aH [1, 0] (by decide) ?_
 exact Tm (x12.set x8.toNat ({ y5 with Chans := y5.Chans })) (ij H)
 clear H; intro x9 hi; subst o3; have H := Hr3; clear Hr3; try dsimp only at H
 try dsimp only
 refine Z2 ?_
 revert H; refine bs fun z2 h14 H => ?_
 refine Z3 ?_
 exact Tm ((k2, x9, z2)) ⟨H, ls⟩
 refine Z6 ?_
 exact Tm (x7) (ij H)
 clear H; intro x4 hi; subst o2; have H := Hr2; clear Hr2; try dsimp only at H
 try dsimp only
 refine Z5 ?_
 refine cA ?_
 refine cW (φ := fSl bD x4) (v := v2) [4, 67, 2] (iW rfl jK) (by intro s hs; simp only [List.mem_cons, List.not_mem_nil, or_false] at hs; rcases hs with rfl | rfl | rfl <;> rfl) ?_
 refine cV ?_
 cases H
 refine aH [] (by decide) ?_
 exact To
def wR (fuel : Nat) (a0 : ScopeProg) : Option ((List UsageDef) × Int) :=
 (xB fuel (⟨a0.Free, a0.Nodes, a0.Defs, a0.Main⟩ : ScopeProg)).bind fun y1 =>
 if y1 ≠ 0 then
  some ([], 2)
 else
  (zI fuel (⟨a0.Free, a0.Nodes, a0.Defs, a0.Main⟩ : ScopeProg)).bind fun y2 =>
  some (y2, 0)
theorem aGx (fuel : Nat)  (a0 : ScopeProg) (r : (List UsageDef) × Int) (H : wR fuel a0 = some r) : FnS Tryz.prog 15 [fSt dG a0] [] (dC [fSl bD r.1, aA .i64 r.2]) (fun _ => []) := by
 unfold wR at H
 refine bK Tryz.func15 rfl Tryz.ntmps15 rfl (fun β => ?_)
 refine Z1 ?_
 refine aR trivial rfl rfl (cF rfl (has rfl) bO) (fun b1 => ?_)
 refine Z3 ?_
 refine aI ?_
 refine Z2 ?_
 revert H; refine bs fun y1 h1 H => ?_
 refine Tc (aF9 _ _ _ h1) ?_
 refine Z2 ?_
 revert H; refine is (fun c1 H => ?_) fun c1 H => ?_
 refine Z6 ?_
 cases H
 refine aH [] (by decide) ?_
 exact gF rfl (jD rfl eF) (bU rfl) rfl
 refine Z5 ?_
 revert H; refine bs fun y2 h2 H => ?_
 refine Tc (aHb _ _ _ h2) ?_
 refine Z4 ?_
 cases H
 refine aH [] (by decide) ?_
 exact gF rfl (bU rfl) (bU rfl) rfl
def zH (fuel : Nat) (a0 : ScopeProg) : Option (Bool) :=
 (rL fuel (⟨a0.Free, a0.Nodes, a0.Defs, a0.Main⟩ : ScopeProg)).bind fun y1 =>
 (wR fuel (⟨a0.Free, a0.Nodes, a0.Defs, a0.Main⟩ : ScopeProg)).bind fun y2 =>
 ((oX fuel y1.1 y2.1).bind fun y3 =>
 bif y3 then
  if y1.2 = y2.2 then
   (wL fuel).bind fun y4 =>
   some y4
  else
   some false
 else
  some false).bind fun x1 =>
 some x1
theorem aIc (fuel : Nat)  (a0 : ScopeProg) (r : Bool) (H : zH fuel a0 = some r) : FnS Tryz.prog 4 [fSt dG a0] [] (aK r) (fun _ => []) := by
 unfold zH at H
 refine bK Tryz.func4 rfl Tryz.ntmps4 rfl (fun β => ?_)
 refine Z1 ?_
 refine aR trivial rfl rfl (cF rfl (has rfl) bO) (fun b1 => ?_)
 refine Z4 ?_
 revert H; refine bs fun y1 h1 H => ?_
 refine iM trivial rfl rfl rfl (has rfl) (aD.cons (has rfl) aD.nil) rfl (cb rfl) (aDa fuel (⟨a0.Free, a0.Nodes, a0.Defs, a0.Main⟩ : ScopeProg) y1 h1) rfl ?_
 refine Z8 ?_
 revert H; refine bs fun y2 h2 H => ?_
 refine Tc (aGx _ _ _ h2) ?_
 refine Z6 ?_
 revert H; refine bs fun o1 H Hr1 => ?_
 refine aT (ι := Bool) (fun i => o1 = i) (fun i => [(2, aK i)]) (fun i => [aC b1 26 [fSl aN a0.Free, fSl aL a0.Nodes, fSl aJ a0.Defs, aA .i64 a0.Main]]) ?_ ?_
 refine Z3 ?_
 revert H; refine bs fun y3 h3 H => ?_
 refine Tc (aB3 _ _ _ _ h3) ?_
 refine Z1 ?_
 revert H; refine cs (fun c1 H => ?_) fun c1 H => ?_
 refine Z5 ?_
 revert H; refine is (fun c2 H => ?_) fun c2 H => ?_
 revert H; refine bs fun y4 h4 H => ?_
 refine Tc (aFA _ _ h4) ?_
 refine Z3 ?_
 exact Tm (y4) (ij H)
 refine Z4 ?_
 exact Tm (false) (ij H)
 refine Z9 ?_
 exact Tm (false) (ij H)
 clear H; intro x1 hi; subst o1; have H := Hr1; clear Hr1; try dsimp only at H
 try dsimp only
 refine Z1 ?_
 cases H
 refine aH [] (by decide) ?_
 exact To
end Go.Proofs.YtmnbfgeljmhekaaGreat
set_option maxRecDepth 100000
namespace Go.Proofs.YtmnbfgeljmhekaaGreat
open Go.SX Go.SW Go.Dt
theorem bsm {α γ : Type} {a : α} {f : α → Option γ} : (some a).bind f = f a := by
 cases h : f a <;> simp [h]
theorem cZ {α : Type} {xs : List α} {i : Nat} {y : α} (h : xs[i]? = some y) : idx xs (i : Int) = some y := by
 unfold idx; rw [if_pos (by omega)]; simpa using h
theorem cL {α : Type} (pre suf : List α) (y : α) : idx (pre ++ y :: suf) (pre.length : Int) = some y := cZ (by simp)
theorem aV {i : Int} (h : -9000000000000000000 ≤ i ∧ i ≤ 9000000000000000000) : chk i = some i := by unfold chk; rw [if_pos (by omega)]
theorem cJ {α : Type} (pre suf : List α) (y : α) : (pre.length : Int) < ((pre ++ y :: suf).length : Int) := by simp; omega
theorem cN {α : Type} (pre suf : List α) (y : α) : pre ++ y :: suf = (pre ++ [y]) ++ suf := by simp
theorem bZ {α : Type} (pre : List α) (y : α) : (pre.length : Int) + 1 = ((pre ++ [y]).length : Int) := by simp
theorem yD (e : ScopeExp) : (⟨e.Op, e.N, e.Kids⟩ : ScopeExp) = e := by cases e; rfl
def flaw : Value := .iface 167 (.agg ([(.int .i64 2)] : List Value).toArray)
theorem eU : bX true = some (.inl ()) := rfl
theorem dJ : bX false = some (.inr flaw) := rfl
mutual
def nE : ScopeExp → Nat
 | ⟨_, _, ks⟩ => 1 + nL ks
def nL : List ScopeExp → Nat
 | [] => 0
 | k :: ks => nE k + nL ks
end
mutual
def dE : ScopeExp → Nat
 | ⟨_, _, ks⟩ => 1 + dL ks
def dL : List ScopeExp → Nat
 | [] => 0
 | k :: ks => max (dE k) (dL ks)
end
def loc (s op n : Int) (l : Nat) : Bool :=
 if op = 1 then decide (-1000000000 ≤ n ∧ n ≤ 1000000000 ∧ l = 0) else if op = 2 then decide (0 ≤ n ∧ n < s ∧ l = 0) else decide (3 ≤ op ∧ op ≤ 7 ∧ n = 0 ∧ l = 2)
mutual
def fE (s : Int) : ScopeExp → Bool
 | ⟨op, n, ks⟩ => loc s op n ks.length && fL s ks
def fL (s : Int) : List ScopeExp → Bool
 | [] => true
 | k :: ks => fE s k && fL s ks
end
theorem nE_pos (e : ScopeExp) : 1 ≤ nE e := by cases e; simp only [nE]; omega
theorem yN : ∀ l : List ScopeExp, l.length ≤ nL l
 | [] => by simp [nL]
 | k :: ks => by have := yN ks; have := nE_pos k; simp only [nL, List.length_cons]; omega
theorem tE : ∀ {l : List ScopeExp} {e : ScopeExp}, e ∈ l → nE e ≤ nL l
 | k :: ks, e, h => by
  simp only [nL]
  cases h with
  | head => omega
  | tail _ h => have := tE h; omega
def okE (s : Int) (e : ScopeExp) : Bool := fE s e && decide (dE e ≤ 12) && decide (nE e ≤ 60)
def exR (s d w : Int) (e : ScopeExp) : Int ⊕ Value := if fE s e = true ∧ d + dE e ≤ 13 ∧ w + nE e ≤ 60 then .inl (w + nE e) else .inr flaw
theorem aEJ {rec : ScopeExp → Int → Int → Int → Option (Int ⊕ Value)} {op n d s : Int} (hd : 0 ≤ d ∧ d ≤ 12) :
  ∀ (suf pre : List ScopeExp) (k : Nat) (w : Int), suf.length < k → pre.length + suf.length ≤ 1000000000 → 0 ≤ w → w ≤ 60 → (∀ e ∈ suf, ∀ w : Int, 0 ≤ w → w ≤ 60 → rec e (d + 1) w s = some (exR s (d + 1) w e)) →
   pS rec ⟨op, n, pre ++ suf⟩ d s k pre.length w = some (if fL s suf = true ∧ d + 1 + dL suf ≤ 13 ∧ w + nL suf ≤ 60 then .inl (w + nL suf) else .inr flaw)
 | [], pre, k + 1, w, _, _, h0, h1, _ => by
  rw [pS, if_neg (by simp), if_pos ⟨rfl, by simp [dL]; omega, by simpa [nL]⟩]; simp [nL]
 | e :: suf, pre, k + 1, w, hk, hB, h0, h1, hr => by
  rw [pS, if_pos (cJ _ _ _), cL]
  have hr1 := hr e (.head _) w h0 h1
  simp only [List.length_cons] at hk hB
  simp only [bsm, aV (i := d + 1) (by omega)]
  rw [yD, hr1]
  simp only [bsm, exR]
  have hn := nE_pos e
  by_cases hc : fE s e = true ∧ d + 1 + dE e ≤ 13 ∧ w + nE e ≤ 60
  ·rw [if_pos hc]
   simp only [aV (i := (pre.length : Int) + 1) (by omega), bsm]
   rw [cN, bZ, aEJ hd suf (pre ++ [e]) k _ (by omega) (by simp; omega) (by omega) hc.2.2 (fun x hx => hr x (.tail _ hx))]
   congr 1
   by_cases hs : fL s suf = true ∧ d + 1 + dL suf ≤ 13 ∧ w + nE e + nL suf ≤ 60
   ·rw [if_pos hs, if_pos ⟨by simp [fL, hc.1, hs.1], by simp only [dL]; omega, by simp only [nL]; omega⟩]
    simp only [nL, Int.natCast_add]; congr 1; omega
   ·rw [if_neg hs, if_neg]
    rintro ⟨g1, g2, g3⟩
    simp only [fL, Bool.and_eq_true] at g1
    simp only [dL] at g2; simp only [nL] at g3
    exact hs ⟨g1.2, by omega, by omega⟩
  ·rw [if_neg hc]
   dsimp only
   rw [if_neg]
   rintro ⟨g1, g2, g3⟩
   simp only [fL, Bool.and_eq_true] at g1
   simp only [dL] at g2; simp only [nL] at g3
   exact hc ⟨g1.1, by omega, by omega⟩
theorem aCz : ∀ (fuel : Nat) (e : ScopeExp) (d w s : Int), nE e < fuel → nE e ≤ 1000000000 → 0 ≤ d → d ≤ 1000 → 0 ≤ w → w ≤ 60 → nR fuel e d w s = some (exR s d w e)
 | fuel + 1, ⟨op, n, ks⟩, d, w, s, hf, hB, hd, hd2, hw, hw2 => by
  rw [nR]
  simp only [nE] at hf hB
  have hlen := yN ks
  simp only [aV (i := w + 1) (by omega), bsm]
  have hdE : dE ⟨op, n, ks⟩ = 1 + dL ks := by simp only [dE]
  have hnE : nE ⟨op, n, ks⟩ = 1 + nL ks := by simp only [nE]
  have hfE : fE s ⟨op, n, ks⟩ = (loc s op n ks.length && fL s ks) := by simp only [fE]
  by_cases h1 : w + 1 ≤ 60 ∧ d ≤ 12
  ·by_cases h2 : loc s op n ks.length = true
   ·have hloop := aEJ (rec := nR fuel) (op := op) (n := n) (s := s) ⟨hd, h1.2⟩ ks [] fuel (w + 1) (by omega) (by simp; omega) (by omega) h1.1
     (fun e he w h0 h60 => aCz fuel e (d + 1) w s (by have := tE he; omega) (by have := tE he; omega) (by omega) (by omega) h0 h60)
    simp only [List.nil_append, List.length_nil, Int.natCast_zero] at hloop
    have hres : (some (if fL s ks = true ∧ d + 1 + (dL ks : Int) ≤ 13 ∧ w + 1 + (nL ks : Int) ≤ 60 then Sum.inl (w + 1 + (nL ks : Int)) else Sum.inr flaw) : Option (Int ⊕ Value)) = some (exR s d w ⟨op, n, ks⟩) := by
     unfold exR; rw [hdE, hnE, hfE, h2]
     congr 1
     by_cases hc : fL s ks = true ∧ d + 1 + (dL ks : Int) ≤ 13 ∧ w + 1 + (nL ks : Int) ≤ 60
     ·rw [if_pos hc, if_pos ⟨by simp [hc.1], by omega, by omega⟩]; congr 1; omega
     ·rw [if_neg hc, if_neg]
      rintro ⟨g1, g2, g3⟩
      exact hc ⟨by simpa using g1, by omega, by omega⟩
    rw [← hres, ← hloop]
    unfold loc at h2
    rw [if_pos h1.1, decide_eq_true h1.2, eU]
    simp only [bsm]
    by_cases o1 : op = 1
    ·rw [if_pos o1] at h2 ⊢
     obtain ⟨a, b, c⟩ := of_decide_eq_true h2
     rw [if_pos a, if_pos b, decide_eq_true (by omega), eU]; rfl
    ·rw [if_neg o1] at h2 ⊢
     by_cases o2 : op = 2
     ·rw [if_pos o2] at h2 ⊢
      obtain ⟨a, b, c⟩ := of_decide_eq_true h2
      rw [if_pos a, if_pos b, decide_eq_true (by omega), eU]; rfl
     ·rw [if_neg o2] at h2 ⊢
      obtain ⟨a, b, c, e⟩ := of_decide_eq_true h2
      have : ((if op = 3 then some (decide (op = 3)) else if op = 4 then some (decide (op = 4)) else if op = 5 then some (decide (op = 5)) else if op = 6 then some (decide (op = 6)) else some (decide (op = 7))) : Option Bool) = some true := by
       split; · simp_all
       split; · simp_all
       split; · simp_all
       split; · simp_all
       rw [decide_eq_true (by omega)]
      rw [this]
      simp only [bsm, cond_true]
      rw [if_pos c, decide_eq_true (by omega), eU]; rfl
   ·have hr : exR s d w ⟨op, n, ks⟩ = .inr flaw := by
     unfold exR; rw [if_neg]; rintro ⟨g, _⟩; rw [hfE] at g; simp [h2] at g
    rw [hr, if_pos h1.1, decide_eq_true h1.2, eU]
    simp only [bsm]
    unfold loc at h2
    by_cases o1 : op = 1
    ·rw [if_pos o1] at h2 ⊢
     simp only [decide_eq_true_eq] at h2
     by_cases a : -1000000000 ≤ n
     ·rw [if_pos a]
      by_cases b : n ≤ 1000000000
      ·rw [if_pos b, decide_eq_false (by omega), dJ]; rfl
      ·rw [if_neg b, dJ]; rfl
     ·rw [if_neg a, dJ]; rfl
    ·rw [if_neg o1] at h2 ⊢
     by_cases o2 : op = 2
     ·rw [if_pos o2] at h2 ⊢
      simp only [decide_eq_true_eq] at h2
      by_cases a : 0 ≤ n
      ·rw [if_pos a]
       by_cases b : n < s
       ·rw [if_pos b, decide_eq_false (by omega), dJ]; rfl
       ·rw [if_neg b, dJ]; rfl
      ·rw [if_neg a, dJ]; rfl
     ·rw [if_neg o2] at h2 ⊢
      simp only [decide_eq_true_eq] at h2
      have : ((if op = 3 then some (decide (op = 3)) else if op = 4 then some (decide (op = 4)) else if op = 5 then some (decide (op = 5)) else if op = 6 then some (decide (op = 6)) else some (decide (op = 7))) : Option Bool) = some (decide (3 ≤ op ∧ op ≤ 7)) := by
       split; · simp_all
       split; · simp_all
       split; · simp_all
       split; · simp_all
       congr 1; rw [decide_eq_decide]; omega
      rw [this]
      simp only [bsm]
      by_cases o3 : 3 ≤ op ∧ op ≤ 7
      ·rw [decide_eq_true o3]
       simp only [cond_true]
       by_cases a : n = 0
       ·rw [if_pos a, decide_eq_false (by omega), dJ]; rfl
       ·rw [if_neg a, dJ]; rfl
      ·rw [decide_eq_false o3, dJ]; rfl
  ·have hr : exR s d w ⟨op, n, ks⟩ = .inr flaw := by
    unfold exR; rw [if_neg]; rintro ⟨_, g2, g3⟩; rw [hdE] at g2; rw [hnE] at g3; omega
   rw [hr]
   by_cases h2 : w + 1 ≤ 60
   ·rw [if_pos h2, decide_eq_false (by omega), dJ]; rfl
   ·rw [if_neg h2, dJ]; rfl
theorem exp_eq {fuel : Nat} {e : ScopeExp} {s : Int} (hf : nE e < fuel) (hB : nE e ≤ 1000000000) : vS fuel e s = some (if okE s e = true then .inl () else .inr flaw) := by
 rw [vS, yD, aCz fuel e 1 0 s hf hB (by omega) (by omega) (by omega) (by omega)]
 simp only [bsm, exR]
 by_cases h : fE s e = true ∧ (1 : Int) + dE e ≤ 13 ∧ (0 : Int) + nE e ≤ 60
 ·have h' : okE s e = true := by
   simp only [okE, Bool.and_eq_true, decide_eq_true_eq]; exact ⟨⟨h.1, by omega⟩, by omega⟩
  rw [if_pos h, if_pos h']
 ·have h' : ¬ okE s e = true := by
   simp only [okE, Bool.and_eq_true, decide_eq_true_eq]; intro g; exact h ⟨g.1.1, by omega, by omega⟩
  rw [if_neg h, if_neg h']
theorem aHr {rec : ScopeExp → Int → Option Int} {op n most : Int} (hm : -1000000000 ≤ most ∧ most ≤ 1000000000) (suf : List ScopeExp) :
  ∀ (pre : List ScopeExp) (k : Nat) (w : Int), suf.length < k → pre.length + suf.length ≤ 1000000000 → 0 ≤ w → w + nL suf ≤ 1000000000 → (∀ e ∈ suf, ∀ m : Int, -1000000000 ≤ m → m ≤ 1000000000 → ∃ v, rec e m = some v ∧ 0 ≤ v ∧ v ≤ nE e ∧ ((nE e : Int) ≤ m → v = nE e) ∧ (m < nE e → m < v)) →
   ∃ v, pM rec ⟨op, n, pre ++ suf⟩ most k w pre.length = some v ∧ 0 ≤ v ∧ v ≤ w + nL suf ∧ (w + (nL suf : Int) ≤ most → v = w + nL suf) ∧ (most < w + nL suf → most < v) := by
 induction suf with
 | nil =>
  intro pre k w hk _ h0 _ _
  obtain _ | k := k
  ·omega
  refine ⟨w, ?_, h0, by simp only [nL]; omega, fun _ => by simp only [nL]; omega, fun h => by simp only [nL] at h; omega⟩
  rw [pM, if_neg (by simp)]
 | cons e suf ih =>
  intro pre k w hk hB h0 hW hr
  obtain _ | k := k
  ·omega
  simp only [List.length_cons] at hk hB
  simp only [nL] at hW ⊢
  rw [pM, if_pos (cJ _ _ _)]
  by_cases hw : w ≤ most
  ·rw [if_pos hw]
   simp only [cL, bsm, aV (i := most - w) (by omega)]
   obtain ⟨v, h1, h2, h3, h4, h5⟩ := hr e (.head _) (most - w) (by omega) (by omega)
   simp only [h1, bsm, aV (i := w + v) (by omega), aV (i := (pre.length : Int) + 1) (by omega)]
   rw [cN, bZ]
   obtain ⟨u, g1, g2, g3, g4, g5⟩ := ih (pre ++ [e]) k (w + v) (by omega) (by simp; omega) (by omega) (by omega) (fun x hx => hr x (.tail _ hx))
   refine ⟨u, g1, g2, by omega, fun h => ?_, fun h => ?_⟩
   ·have := h4 (by omega); have := g4 (by omega); omega
   ·by_cases hv : (nE e : Int) ≤ most - w
    ·have := h4 hv; exact g5 (by omega)
    ·have := h5 (by omega); exact g5 (by omega)
  ·rw [if_neg hw]
   exact ⟨w, rfl, h0, by omega, fun h => by omega, fun _ => by omega⟩
theorem nodes_eq (fuel : Nat) : ∀ (e : ScopeExp) (m : Int), nE e < fuel → nE e ≤ 1000000000 → -1000000000 ≤ m → m ≤ 1000000000 → ∃ v, mZ fuel e m = some v ∧ 0 ≤ v ∧ v ≤ nE e ∧ ((nE e : Int) ≤ m → v = nE e) ∧ (m < nE e → m < v) := by
 induction fuel with
 | zero => intro e m h; omega
 | succ fuel ih =>
  intro ⟨op, n, ks⟩ m hf hB h0 h1
  simp only [nE] at hf hB ⊢
  have hlen := yN ks
  obtain ⟨v, g1, g2, g3, g4, g5⟩ := aHr (rec := mZ fuel) (op := op) (n := n) ⟨h0, h1⟩ ks [] fuel 1 (by omega) (by simp; omega) (by omega) (by omega)
   (fun e he m h0 h1 => ih e m (by have := tE he; omega) (by have := tE he; omega) h0 h1)
  simp only [List.nil_append, List.length_nil, Int.natCast_zero] at g1
  exact ⟨v, by rw [mZ, g1]; rfl, g2, by omega, fun h => by have := g4 (by omega); omega, fun h => g5 (by omega)⟩
theorem aH5 {rec : ScopeExp → Option Int} {op n : Int} (suf : List ScopeExp) :
  ∀ (pre : List ScopeExp) (k : Nat) (w : Int), suf.length < k → pre.length + suf.length ≤ 1000000000 → 0 ≤ w → (∀ e ∈ suf, rec e = some (dE e : Int)) →
   pV rec ⟨op, n, pre ++ suf⟩ k w pre.length = some (max w (dL suf : Int)) := by
 induction suf with
 | nil =>
  intro pre k w hk _ h0 _
  obtain _ | k := k
  ·omega
  rw [pV, if_neg (by simp)]; simp only [dL]; congr 1; omega
 | cons e suf ih =>
  intro pre k w hk hB h0 hr
  obtain _ | k := k
  ·omega
  simp only [List.length_cons] at hk hB
  rw [pV, if_pos (cJ _ _ _)]
  simp only [cL, bsm, hr e (.head _), aV (i := (pre.length : Int) + 1) (by omega)]
  rw [cN, bZ, ih (pre ++ [e]) k _ (by omega) (by simp; omega) (by omega) (fun x hx => hr x (.tail _ hx))]
  simp only [dL]; congr 1; omega
theorem dE_le : (∀ e, dE e ≤ nE e) ∧ ∀ l, dL l ≤ nL l := by
 refine ⟨fun e => ?_, fun l => ?_⟩
 ·exact go e
 ·exact goL l
where
 go : ∀ e, dE e ≤ nE e
  | ⟨_, _, ks⟩ => by have := goL ks; simp only [dE, nE]; omega
 goL : ∀ l, dL l ≤ nL l
  | [] => by simp [dL]
  | k :: ks => by have := go k; have := goL ks; simp only [dL, nL]; omega
theorem depth_eq (fuel : Nat) : ∀ (e : ScopeExp), nE e < fuel → nE e ≤ 1000000000 → nI fuel e = some (dE e : Int) := by
 induction fuel with
 | zero => intro e h; omega
 | succ fuel ih =>
  intro ⟨op, n, ks⟩ hf hB
  simp only [nE] at hf hB
  have hlen := yN ks
  have h := aH5 (rec := nI fuel) (op := op) (n := n) ks [] fuel 0 (by omega) (by simp; omega) (by omega) (fun e he => ih e (by have := tE he; omega) (by have := tE he; omega))
  simp only [List.nil_append, List.length_nil, Int.natCast_zero] at h
  have hd := dE_le.2 ks
  rw [nI, h, show max (0 : Int) (dL ks : Int) = dL ks from by omega]
  simp only [bsm, aV (i := (dL ks : Int) + 1) (by omega), dE]
  congr 1; omega
theorem aFI (fuel : Nat) : ∀ (e : ScopeExp) (s : Int), nE e < fuel → rG fuel e s = some (fE s e) := by
 induction fuel with
 | zero => intro e s h; omega
 | succ fuel ih =>
  intro ⟨op, n, ks⟩ s hf
  simp only [nE] at hf
  rw [rG]
  simp only [fE, loc]
  by_cases o1 : op = 1
  ·rw [if_pos o1, if_pos o1]
   by_cases c : (ks.length : Int) = 0
   ·have hk : ks = [] := List.eq_nil_of_length_eq_zero (by omega)
    subst hk
    rw [if_pos c]
    by_cases a : -1000000000 ≤ n
    ·rw [if_pos a]; simp [a, fL]
    ·rw [if_neg a]; simp [a, fL]
   ·rw [if_neg c]; have : ¬ ks.length = 0 := by omega
    simp [this]
  ·rw [if_neg o1, if_neg o1]
   by_cases o2 : op = 2
   ·rw [if_pos o2, if_pos o2]
    by_cases c : (ks.length : Int) = 0
    ·have hk : ks = [] := List.eq_nil_of_length_eq_zero (by omega)
     subst hk
     rw [if_pos c]
     by_cases a : 0 ≤ n
     ·rw [if_pos a]; simp [a, fL]
     ·rw [if_neg a]; simp [a, fL]
    ·rw [if_neg c]; have : ¬ ks.length = 0 := by omega
     simp [this]
   ·rw [if_neg o2, if_neg o2]
    by_cases a : op < 3
    ·rw [if_pos a]; simp; intro _; omega
    ·rw [if_neg a]
     by_cases b : 7 < op
     ·rw [if_pos b]; simp; intro _; omega
     ·rw [if_neg b]
      by_cases c : (ks.length : Int) ≠ 2
      ·rw [if_pos c]; simp; intro _ _ _; omega
      ·rw [if_neg c]
       by_cases e : n ≠ 0
       ·rw [if_pos e]; simp [e]
       ·rw [if_neg e]
        match ks, c, hf with
        | [x, y], _, hf =>
         simp only [nL] at hf
         have h1 := ih x s (by omega)
         have h2 := ih y s (by omega)
         have i0 : idx [x, y] 0 = some x := rfl
         have i1 : idx [x, y] 1 = some y := rfl
         have : decide (3 ≤ op ∧ op ≤ 7 ∧ n = 0 ∧ [x, y].length = 2) = true := decide_eq_true ⟨by omega, by omega, by omega, rfl⟩
         rw [this]
         simp only [i0, i1, h1, h2, bsm, fL, Bool.true_and, Bool.and_true]
         cases fE s x <;> simp
        | [], c, _ => simp at c
        | [_], c, _ => simp at c
        | _ :: _ :: _ :: _, c, _ => simp at c; omega
theorem aId {fuel : Nat} {e : ScopeExp} {s : Int} (hf : nE e < fuel) (hB : nE e ≤ 1000000000) : xD fuel e s = some (okE s e) := by
 obtain ⟨v, h1, h2, h3, h4, h5⟩ := nodes_eq fuel e 60 hf hB (by omega) (by omega)
 rw [xD, yD, h1, depth_eq fuel e hf hB, aFI fuel e s hf]
 simp only [bsm, okE]
 by_cases hn : (nE e : Int) ≤ 60
 ·rw [h4 hn, if_pos hn]
  by_cases hd : (dE e : Int) ≤ 12
  ·rw [if_pos hd]; have h1 : dE e ≤ 12 := by omega
   have h2 : nE e ≤ 60 := by omega
   simp [h1, h2]
  ·rw [if_neg hd]; have : ¬ dE e ≤ 12 := by omega
   simp [this]
 ·have := h5 (by omega)
  rw [if_neg (by omega)]; have : ¬ nE e ≤ 60 := by omega
  simp [this]
end Go.Proofs.YtmnbfgeljmhekaaGreat
set_option maxRecDepth 100000
namespace Go.Proofs.YtmnbfgeljmhekaaGreat
open Go.SX Go.SW Go.Dt
def gI (n : Nat) (c : ScopeChan) : Bool := decide (0 ≤ c.At ∧ c.At ≤ (n : Int) ∧ 0 ≤ c.Many ∧ c.Many ≤ 3)
def lG : Nat → List ScopeSpot → Bool
 | _, [] => true
 | i, s :: l => decide (0 ≤ s.In ∧ s.In ≤ (i : Int)) && lG (i + 1) l
def oI (chans : List ScopeChan) (at_ : Int) : List Int → List Int → List Bool → Option (List Bool)
 | _, [], u => some u
 | pre, c :: js, u => match idx chans c with
  | some ch => if ch.At = at_ ∧ c ∉ pre then oI chans at_ (pre ++ [c]) js (u.set c.toNat true) else none
  | none => none
def okR (n : Nat) (r : ScopeRule) : Prop := 0 ≤ r.At ∧ r.At ≤ (n : Int) ∧ 1 ≤ r.Joins.length ∧ r.Joins.length ≤ 3
instance {n : Nat} {r : ScopeRule} : Decidable (okR n r) := by unfold okR; infer_instance
def jF (chans : List ScopeChan) (n : Nat) : List ScopeRule → List Bool → Option (List Bool)
 | [], u => some u
 | r :: rs, u => if okR n r then (oI chans r.At [] r.Joins u).bind (jF chans n rs) else none
def okU (o : Option (List Bool)) : Bool := match o with
 | some u => u.all id
 | none => false
def okD (d : ScopeDef) : Bool := decide (d.Chans.length ≤ 30 ∧ d.Spots.length ≤ 30 ∧ d.Rules.length ≤ 30) && d.Chans.all (gI d.Spots.length) && lG 0 d.Spots && okU (jF d.Chans d.Spots.length d.Rules (List.replicate d.Chans.length false))
def smD (d : ScopeDef) : Prop := d.Chans.length ≤ 2000000 ∧ d.Spots.length ≤ 2000000 ∧ d.Rules.length ≤ 2000000 ∧ ∀ r ∈ d.Rules, r.Joins.length ≤ 2000000
theorem dH {α : Type} {xs : List α} {i : Int} (h0 : 0 ≤ i) (h1 : i < xs.length) : ∃ y, idx xs i = some y := by
 unfold idx; rw [if_pos h0]; exact ⟨xs[i.toNat]'(by omega), by simp⟩
theorem jX {α : Type} {xs : List α} {i : Int} (h : ¬ (0 ≤ i ∧ i < xs.length)) : idx xs i = none := by
 unfold idx; split
 ·simp; omega
 ·rfl
theorem aHo {c : Int} (suf : List Int) : ∀ (pre : List Int) (k : Nat), suf.length < k → pre.length + suf.length ≤ 3000000 → c ∉ pre →
  ∃ r, mB (pre ++ suf) c k pre.length = some r ∧ ((c ∈ suf ∧ ∃ i : Int, r = .inr i ∧ 0 ≤ i) ∨ (c ∉ suf ∧ r = .inl ())) := by
 induction suf with
 | nil =>
  intro pre k hk _ _
  obtain _ | k := k
  ·omega
  exact ⟨_, by rw [mB, if_neg (by simp)], .inr ⟨by simp, rfl⟩⟩
 | cons e suf ih =>
  intro pre k hk hB hn
  obtain _ | k := k
  ·omega
  simp only [List.length_cons] at hk hB
  by_cases he : c = e
  ·exact ⟨_, by rw [mB, if_pos (cJ _ _ _), cL, bsm, if_pos he]; rfl, .inl ⟨by simp [he], _, rfl, by omega⟩⟩
  ·obtain ⟨r, h1, h2⟩ := ih (pre ++ [e]) k (by omega) (by simp; omega) (by simp [hn, he])
   refine ⟨r, ?_, ?_⟩
   ·rw [mB, if_pos (cJ _ _ _), cL, bsm, if_neg he, aV (by omega), bsm, cN pre suf e, bZ pre e]; exact h1
   ·rcases h2 with ⟨h2, h3⟩ | ⟨h2, h3⟩
    ·exact .inl ⟨by simp [h2], h3⟩
    ·exact .inr ⟨by simp [h2, he], h3⟩
theorem aHY {fuel : Nat} {l : List Int} {c : Int} (hf : l.length < fuel) (hB : l.length ≤ 3000000) : wF fuel l c = some (decide (c ∈ l)) := by
 obtain ⟨r, h1, h2⟩ := aHo (c := c) l [] fuel hf (by simpa using hB) (by simp)
 simp only [List.nil_append, List.length_nil, Int.natCast_zero] at h1
 rw [wF, xZ, h1]
 rcases h2 with ⟨h2, i, rfl, h3⟩ | ⟨h2, rfl⟩
 ·simp [h2, h3]
 ·simp [h2]
theorem aCl {a : Int} {d : ScopeDef} : tP a d = some (if 0 ≤ a ∧ a ≤ (d.Spots.length : Int) then .inl () else .inr flaw) := by
 rw [tP]
 by_cases h : 0 ≤ a
 ·rw [if_pos h]
  by_cases h2 : a ≤ (d.Spots.length : Int)
  ·rw [decide_eq_true h2, eU, if_pos ⟨h, h2⟩]; rfl
  ·rw [decide_eq_false h2, dJ, if_neg (fun g => h2 g.2)]; rfl
 ·rw [if_neg h, dJ, if_neg (fun g => h g.1)]; rfl
theorem dl1 {sp : List ScopeSpot} {ru : List ScopeRule} (suf : List ScopeChan) : ∀ (pre : List ScopeChan) (k : Nat), suf.length < k → pre.length + suf.length ≤ 3000000 →
  pR ⟨pre ++ suf, sp, ru⟩ k pre.length = some (if suf.all (gI sp.length) = true then .inl () else .inr (.inr flaw)) := by
 induction suf with
 | nil =>
  intro pre k hk _
  obtain _ | k := k
  ·omega
  rw [pR, if_neg (by simp), if_pos (by rfl)]
 | cons e suf ih =>
  intro pre k hk hB
  obtain _ | k := k
  ·omega
  simp only [List.length_cons] at hk hB
  rw [pR, if_pos (cJ _ _ _)]
  dsimp only
  rw [cL, bsm, aCl, bsm]
  simp only [List.all_cons, Bool.and_eq_true]
  by_cases h1 : 0 ≤ e.At ∧ e.At ≤ (sp.length : Int)
  ·rw [if_pos h1]
   dsimp only
   by_cases h2 : 0 ≤ e.Many
   ·rw [if_pos h2]
    by_cases h3 : e.Many ≤ 3
    ·rw [decide_eq_true h3, eU, bsm, bsm]
     dsimp only
     rw [aV (by omega), bsm, cN pre suf e, bZ pre e, ih (pre ++ [e]) k (by omega) (by simp; omega)]
     have : gI sp.length e = true := decide_eq_true ⟨h1.1, h1.2, h2, h3⟩
     simp [this]
    ·have hn : ¬ (gI sp.length e = true ∧ suf.all (gI sp.length) = true) := by
      rintro ⟨g, _⟩; exact h3 (of_decide_eq_true g).2.2.2
     rw [decide_eq_false h3, dJ, if_neg hn]; rfl
   ·have hn : ¬ (gI sp.length e = true ∧ suf.all (gI sp.length) = true) := by
     rintro ⟨g, _⟩; exact h2 (of_decide_eq_true g).2.2.1
    rw [if_neg h2, dJ, if_neg hn]; rfl
  ·have hn : ¬ (gI sp.length e = true ∧ suf.all (gI sp.length) = true) := by
    rintro ⟨g, _⟩; exact h1 ⟨(of_decide_eq_true g).1, (of_decide_eq_true g).2.1⟩
   rw [if_neg h1, if_neg hn]; rfl
theorem dl2 {ch : List ScopeChan} {ru : List ScopeRule} (suf : List ScopeSpot) : ∀ (pre : List ScopeSpot) (k : Nat), suf.length < k → pre.length + suf.length ≤ 3000000 →
  pE ⟨ch, pre ++ suf, ru⟩ k pre.length = some (if lG pre.length suf = true then .inl () else .inr (.inr flaw)) := by
 induction suf with
 | nil =>
  intro pre k hk _
  obtain _ | k := k
  ·omega
  rw [pE, if_neg (by simp), if_pos (by rfl)]
 | cons e suf ih =>
  intro pre k hk hB
  obtain _ | k := k
  ·omega
  simp only [List.length_cons] at hk hB
  rw [pE, if_pos (cJ _ _ _)]
  dsimp only
  rw [cL, bsm]
  simp only [lG, Bool.and_eq_true, decide_eq_true_eq]
  by_cases h2 : 0 ≤ e.In
  ·rw [if_pos h2]
   by_cases h3 : e.In ≤ (pre.length : Int)
   ·rw [decide_eq_true h3, eU, bsm, bsm]
    dsimp only
    rw [aV (by omega), bsm, cN pre suf e, bZ pre e, ih (pre ++ [e]) k (by omega) (by simp; omega)]
    simp [h2, h3]
   ·rw [decide_eq_false h3, dJ, if_neg (fun g => h3 g.1.2)]; rfl
  ·rw [if_neg h2, dJ, if_neg (fun g => h2 g.1.1)]; rfl
def Like (g : aU Int Bool) (u : List Bool) : Prop := (∀ i : Nat, g.get i = if u[i]? = some true then some true else none) ∧ g.size = u.countP id
theorem like_upd {g : aU Int Bool} {u : List Bool} {c : Int} (h : Like g u) (h0 : 0 ≤ c) (h1 : c < u.length) : Like (aU.upd g c true) (u.set c.toNat true) := by
 obtain ⟨n, rfl⟩ : ∃ n : Nat, c = n := ⟨c.toNat, by omega⟩
 have hn : n < u.length := by omega
 simp only [Int.toNat_natCast]
 refine ⟨fun i => ?_, ?_⟩
 ·simp only [aU.upd]
  by_cases hi : (i : Int) = n
  ·have : i = n := by omega
   subst this
   rw [if_pos rfl]; simp [hn]
  ·rw [if_neg hi, h.1 i]
   have : n ≠ i := by omega
   simp [this]
 ·simp only [aU.upd]
  rw [h.1 n, List.countP_set (h := hn), h.2]
  have hge : u[n]? = some u[n] := by simp [hn]
  rw [hge]
  cases hu : u[n] with
  | false => simp
  | true =>
   have hpos : 0 < u.countP id := List.countP_pos_iff.2 ⟨u[n], List.getElem_mem hn, by simpa using hu⟩
   simp; omega
theorem dl4 {ch : List ScopeChan} {sp : List ScopeSpot} {ru : List ScopeRule} {a nd : Int} (suf : List Int) {fuel : Nat} : ∀ (pre : List Int) (k : Nat) (g : aU Int Bool) (u : List Bool), suf.length < k → pre.length + suf.length < fuel → pre.length + suf.length ≤ 3000000 → u.length = ch.length → Like g u →
  (∃ u' g', oI ch a pre suf u = some u' ∧ u'.length = ch.length ∧ Like g' u' ∧ kG fuel ⟨ch, sp, ru⟩ ⟨a, pre ++ suf, nd⟩ k pre.length g = some (.inl g')) ∨
  (oI ch a pre suf u = none ∧ kG fuel ⟨ch, sp, ru⟩ ⟨a, pre ++ suf, nd⟩ k pre.length g = some (.inr (.inr (.inr flaw)))) := by
 induction suf with
 | nil =>
  intro pre k g u hk _ _ hl hg
  obtain _ | k := k
  ·omega
  exact .inl ⟨u, g, rfl, hl, hg, by rw [kG, if_neg (by simp)]⟩
 | cons e suf ih =>
  intro pre k g u hk hf hB hl hg
  obtain _ | k := k
  ·omega
  simp only [List.length_cons] at hk hB hf
  rw [kG, if_pos (cJ _ _ _)]
  dsimp only
  rw [cL, bsm]
  simp only [oI]
  by_cases h1 : 0 ≤ e ∧ e < (ch.length : Int)
  ·obtain ⟨y, hy⟩ := dH h1.1 h1.2
   rw [if_pos h1.1, if_pos h1.2, hy, bsm]
   dsimp only
   by_cases h2 : y.At = a
   ·rw [if_pos h2]
    have hs : slc (pre ++ e :: suf) 0 pre.length = some pre := by
     unfold slc; rw [if_pos ⟨by omega, by omega, by simp; omega⟩]; simp
    rw [hs, bsm, aHY (by omega) (by omega), bsm]
    by_cases h3 : e ∈ pre
    ·rw [decide_eq_true h3, if_neg (fun q => q.2 h3)]
     exact .inr ⟨rfl, by rw [show (!true) = false from rfl, dJ]; rfl⟩
    ·rw [decide_eq_false h3, if_pos ⟨h2, h3⟩, show (!false) = true from rfl, eU, bsm, bsm]
     dsimp only
     rw [aV (by omega), bsm, cN pre suf e, bZ pre e]
     exact ih (pre ++ [e]) k _ _ (by omega) (by simp; omega) (by simp; omega) (by simpa using hl) (like_upd hg h1.1 (by omega))
   ·rw [if_neg h2, dJ, if_neg (fun q => h2 q.1)]
    exact .inr ⟨rfl, rfl⟩
  ·rw [jX h1]
   refine .inr ⟨rfl, ?_⟩
   by_cases h0 : 0 ≤ e
   ·rw [if_pos h0, if_neg (fun q => h1 ⟨h0, q⟩), dJ]; rfl
   ·rw [if_neg h0, dJ]; rfl
theorem dl3 {ch : List ScopeChan} {sp : List ScopeSpot} {fuel : Nat} (suf : List ScopeRule) : ∀ (pre : List ScopeRule) (k : Nat) (g : aU Int Bool) (u : List Bool), suf.length < k → pre.length + suf.length ≤ 3000000 → 2000000 < fuel → (∀ r ∈ suf, r.Joins.length ≤ 2000000) → u.length = ch.length → Like g u →
  (∃ u' g', jF ch sp.length suf u = some u' ∧ u'.length = ch.length ∧ Like g' u' ∧ mX fuel ⟨ch, sp, pre ++ suf⟩ k pre.length g = some (.inl g')) ∨
  (jF ch sp.length suf u = none ∧ mX fuel ⟨ch, sp, pre ++ suf⟩ k pre.length g = some (.inr (.inr flaw))) := by
 induction suf with
 | nil =>
  intro pre k g u hk _ _ _ hl hg
  obtain _ | k := k
  ·omega
  exact .inl ⟨u, g, rfl, hl, hg, by rw [mX, if_neg (by simp)]⟩
 | cons e suf ih =>
  intro pre k g u hk hB hf hJ hl hg
  obtain _ | k := k
  ·omega
  simp only [List.length_cons] at hk hB
  have hj := hJ e (.head _)
  rw [mX, if_pos (cJ _ _ _)]
  dsimp only
  rw [cL, bsm, aCl, bsm]
  simp only [jF]
  by_cases h1 : 0 ≤ e.At ∧ e.At ≤ (sp.length : Int)
  ·rw [if_pos h1]
   dsimp only
   by_cases h2 : 0 < (e.Joins.length : Int)
   ·rw [if_pos h2]
    by_cases h3 : (e.Joins.length : Int) ≤ 3
    ·rw [decide_eq_true h3, eU, bsm, if_pos (show okR sp.length e from ⟨h1.1, h1.2, by omega, by omega⟩)]
     have h4 := dl4 (ch := ch) (sp := sp) (ru := pre ++ e :: suf) (a := e.At) (nd := e.Node) e.Joins (fuel := fuel) [] fuel g u (by omega) (by simp; omega) (by simp; omega) hl hg
     simp only [List.nil_append, List.length_nil, Int.natCast_zero] at h4
     rcases h4 with ⟨u', g', a1, a2, a3, a4⟩ | ⟨a1, a4⟩
     ·rw [a1, bsm]
      have : ((kG fuel ⟨ch, sp, pre ++ e :: suf⟩ e fuel 0 g) = some (.inl g')) := a4
      dsimp only
      rw [bsm]; dsimp only
      rw [this, bsm]; dsimp only
      rw [aV (by omega), bsm, cN pre suf e, bZ pre e]
      exact ih (pre ++ [e]) k g' u' (by omega) (by simp; omega) hf (fun r hr => hJ r (.tail _ hr)) a2 a3
     ·rw [a1]
      have : ((kG fuel ⟨ch, sp, pre ++ e :: suf⟩ e fuel 0 g) = some (.inr (.inr (.inr flaw)))) := a4
      refine .inr ⟨rfl, ?_⟩
      dsimp only
      rw [bsm]; dsimp only
      rw [this]; rfl
    ·rw [decide_eq_false h3, dJ, if_neg (show ¬ okR sp.length e from fun q => h3 (by have := q.2.2.2; omega))]
     exact .inr ⟨rfl, rfl⟩
   ·rw [if_neg h2, dJ, if_neg (show ¬ okR sp.length e from fun q => h2 (by have := q.2.2.1; omega))]
    exact .inr ⟨rfl, rfl⟩
  ·rw [if_neg h1, if_neg (show ¬ okR sp.length e from fun q => h1 ⟨q.1, q.2.1⟩)]
   exact .inr ⟨rfl, rfl⟩
theorem def_eq {fuel : Nat} {d : ScopeDef} (hf : 3000000 ≤ fuel) (hs : smD d) : tL fuel d = some (if okD d = true then .inl () else .inr flaw) := by
 obtain ⟨ch, sp, ru⟩ := d
 obtain ⟨s1, s2, s3, s4⟩ := hs
 dsimp only at s1 s2 s3 s4
 rw [tL]
 dsimp only
 have e1 := dl1 (sp := sp) (ru := ru) ch [] fuel (by omega) (by simp; omega)
 have e2 := dl2 (ch := ch) (ru := ru) sp [] fuel (by omega) (by simp; omega)
 have e3 := dl3 (ch := ch) (sp := sp) (fuel := fuel) ru [] fuel aU.none (List.replicate ch.length false) (by omega) (by simp; omega) (by omega) s4 (by simp) ⟨fun i => by simp [aU.none, List.getElem?_replicate], by simp [aU.none, List.countP_replicate]⟩
 simp only [List.nil_append, List.length_nil, Int.natCast_zero] at e1 e2 e3
 by_cases l1 : ch.length ≤ 30
 ·rw [if_pos (by omega)]
  by_cases l2 : sp.length ≤ 30
  ·rw [if_pos (by omega)]
   by_cases l3 : ru.length ≤ 30
   ·rw [decide_eq_true (by omega), eU, bsm, bsm]
    dsimp only
    rw [e1, bsm]
    have hok : okD ⟨ch, sp, ru⟩ = (ch.all (gI sp.length) && lG 0 sp && okU (jF ch sp.length ru (List.replicate ch.length false))) := by
     simp only [okD]; rw [decide_eq_true ⟨l1, l2, l3⟩]; simp
    rw [hok]
    cases h1 : ch.all (gI sp.length) with
    | false => simp
    | true =>
     simp only [if_true, Bool.true_and]
     rw [e2, bsm]
     cases h2 : lG 0 sp with
     | false => simp
     | true =>
      simp only [if_true, Bool.true_and]
      rcases e3 with ⟨u, g, a1, a2, a3, a4⟩ | ⟨a1, a4⟩
      ·rw [a4, bsm]
       dsimp only
       rw [a1]
       have hc : ((g.size : Int) = (ch.length : Int)) ↔ okU (some u) = true := by
        show _ ↔ u.all id = true
        rw [a3.2, ← a2, List.all_eq_true]
        constructor
        ·intro h; exact List.countP_eq_length.1 (by omega)
        ·intro h; have := List.countP_eq_length.2 h; omega
       by_cases hh : (g.size : Int) = (ch.length : Int)
       ·rw [decide_eq_true hh, eU, if_pos (hc.1 hh)]; rfl
       ·rw [decide_eq_false hh, dJ, if_neg (fun q => hh (hc.2 q))]; rfl
      ·rw [a4, bsm, a1]; simp [okU]
   ·rw [decide_eq_false (by omega), dJ, if_neg]; rfl
    intro g; simp only [okD, Bool.and_eq_true, decide_eq_true_eq] at g; exact l3 g.1.1.1.2.2
  ·rw [if_neg (by omega), dJ, if_neg]; rfl
   intro g; simp only [okD, Bool.and_eq_true, decide_eq_true_eq] at g; exact l2 g.1.1.1.2.1
 ·rw [if_neg (by omega), dJ, if_neg]; rfl
  intro g; simp only [okD, Bool.and_eq_true, decide_eq_true_eq] at g; exact l1 g.1.1.1.1
theorem rl1 {sp : List ScopeSpot} {ru : List ScopeRule} (suf : List ScopeChan) : ∀ (pre : List ScopeChan) (k : Nat), suf.length < k → pre.length + suf.length ≤ 3000000 →
  oR ⟨pre ++ suf, sp, ru⟩ k pre.length = some (if suf.all (gI sp.length) = true then .inl () else .inr false) := by
 induction suf with
 | nil =>
  intro pre k hk _
  obtain _ | k := k
  ·omega
  rw [oR, if_neg (by simp), if_pos (by rfl)]
 | cons e suf ih =>
  intro pre k hk hB
  obtain _ | k := k
  ·omega
  simp only [List.length_cons] at hk hB
  have hall : (e :: suf).all (gI sp.length) = (gI sp.length e && suf.all (gI sp.length)) := rfl
  rw [oR, if_pos (cJ _ _ _), hall]
  dsimp only
  rw [cL, bsm]
  by_cases hc : gI sp.length e = true
  ·obtain ⟨c1, c2, c3, c4⟩ := of_decide_eq_true hc
   rw [if_neg (by omega), bsm, if_neg (by omega), bsm, if_neg (by omega), bsm, if_neg (by omega), aV (by omega), bsm, cN pre suf e, bZ pre e, ih (pre ++ [e]) k (by omega) (by simp; omega), hc, Bool.true_and]
  ·have hf : gI sp.length e = false := by simpa using hc
   rw [hf, Bool.false_and, if_neg (show ¬ (false = true) from Bool.false_ne_true)]
   have hd : ¬ (0 ≤ e.At ∧ e.At ≤ (sp.length : Int) ∧ 0 ≤ e.Many ∧ e.Many ≤ 3) := of_decide_eq_false hf
   by_cases c1 : e.At < 0
   ·rw [if_pos c1]; rfl
   ·rw [if_neg c1, bsm]
    by_cases c2 : (sp.length : Int) < e.At
    ·rw [if_pos c2]; rfl
    ·rw [if_neg c2, bsm]
     by_cases c3 : e.Many < 0
     ·rw [if_pos c3]; rfl
     ·rw [if_neg c3, bsm, if_pos (by omega)]; rfl
theorem rl2 {ch : List ScopeChan} {ru : List ScopeRule} (suf : List ScopeSpot) : ∀ (pre : List ScopeSpot) (k : Nat), suf.length < k → pre.length + suf.length ≤ 3000000 →
  oY ⟨ch, pre ++ suf, ru⟩ k pre.length = some (if lG pre.length suf = true then .inl () else .inr false) := by
 induction suf with
 | nil =>
  intro pre k hk _
  obtain _ | k := k
  ·omega
  rw [oY, if_neg (by simp), if_pos (by rfl)]
 | cons e suf ih =>
  intro pre k hk hB
  obtain _ | k := k
  ·omega
  simp only [List.length_cons] at hk hB
  have hall : lG pre.length (e :: suf) = (decide (0 ≤ e.In ∧ e.In ≤ (pre.length : Int)) && lG (pre.length + 1) suf) := rfl
  rw [oY, if_pos (cJ _ _ _), hall]
  dsimp only
  rw [cL, bsm]
  by_cases hc : 0 ≤ e.In ∧ e.In ≤ (pre.length : Int)
  ·have hp : (pre ++ [e]).length = pre.length + 1 := by simp
   rw [if_neg (by omega), bsm, if_neg (by omega), aV (by omega), bsm, cN pre suf e, bZ pre e, ih (pre ++ [e]) k (by omega) (by simp; omega), decide_eq_true hc, Bool.true_and, hp]
  ·rw [decide_eq_false hc, Bool.false_and, if_neg (show ¬ (false = true) from Bool.false_ne_true)]
   by_cases c1 : e.In < 0
   ·rw [if_pos c1]; rfl
   ·rw [if_neg c1, bsm, if_pos (by omega)]; rfl
theorem rl5 {a nd c : Int} {js : List Int} (suf : List Int) : ∀ (pre : List Int) (k : Nat) (post : List Int), js = pre ++ suf ++ post → suf.length < k → pre.length + suf.length ≤ 3000000 →
  pL ⟨a, js, nd⟩ (pre.length + suf.length : Nat) c k pre.length = some (if c ∈ suf then .inr (.inr (.inr (.inr false))) else .inl ()) := by
 induction suf with
 | nil =>
  intro pre k post _ hk _
  obtain _ | k := k
  ·omega
  rw [pL, if_neg (by simp), if_neg (by simp)]
 | cons e suf ih =>
  intro pre k post hj hk hB
  obtain _ | k := k
  ·omega
  simp only [List.length_cons] at hk hB
  have hi : idx js (pre.length : Int) = some e := by rw [hj]; exact cZ (by simp)
  rw [pL, if_pos (by simp; omega)]
  dsimp only
  rw [hi, bsm]
  by_cases hc : e = c
  ·rw [if_pos hc, if_pos (by simp [hc])]; rfl
  ·have h := ih (pre ++ [e]) k post (by simp [hj]) (by omega) (by simp; omega)
   have hl : (pre ++ [e]).length + suf.length = pre.length + (e :: suf).length := by simp; omega
   rw [hl] at h
   have hm : (c ∈ e :: suf) ↔ c ∈ suf := by simp [Ne.symm hc]
   rw [if_neg hc, aV (by omega), bsm, bZ pre e, h]
   by_cases hs : c ∈ suf
   ·rw [if_pos hs, if_pos (hm.2 hs)]
   ·rw [if_neg hs, if_neg (fun q => hs (hm.1 q))]
theorem rl4 {ch : List ScopeChan} {sp : List ScopeSpot} {ru : List ScopeRule} {a nd : Int} (suf : List Int) {fuel : Nat} : ∀ (pre : List Int) (k : Nat) (u : List Bool), suf.length < k → pre.length + suf.length < fuel → pre.length + suf.length ≤ 3000000 → u.length = ch.length →
  (∃ u', oI ch a pre suf u = some u' ∧ u'.length = ch.length ∧ jV fuel ⟨ch, sp, ru⟩ ⟨a, pre ++ suf, nd⟩ k u pre.length = some (.inl u')) ∨
  (oI ch a pre suf u = none ∧ jV fuel ⟨ch, sp, ru⟩ ⟨a, pre ++ suf, nd⟩ k u pre.length = some (.inr (.inr false))) := by
 induction suf with
 | nil =>
  intro pre k u hk _ _ hl
  obtain _ | k := k
  ·omega
  exact .inl ⟨u, rfl, hl, by rw [jV, if_neg (by simp)]⟩
 | cons e suf ih =>
  intro pre k u hk hf hB hl
  obtain _ | k := k
  ·omega
  simp only [List.length_cons] at hk hB hf
  rw [jV, if_pos (cJ _ _ _)]
  dsimp only
  rw [cL, bsm]
  simp only [oI]
  by_cases h1 : 0 ≤ e ∧ e < (ch.length : Int)
  ·obtain ⟨y, hy⟩ := dH h1.1 h1.2
   obtain ⟨b, hb⟩ := dH (xs := u) h1.1 (by omega)
   rw [hy, if_neg (show ¬ e < 0 by omega), if_neg (show ¬ (ch.length : Int) ≤ e by omega), bsm]
   dsimp only
   by_cases h2 : y.At = a
   ·have h5 := rl5 (a := a) (nd := nd) (c := e) (js := pre ++ e :: suf) pre [] fuel (e :: suf) (by simp) (by omega) (by simp; omega)
    simp only [List.length_nil, Nat.zero_add, Int.natCast_zero] at h5
    rw [if_neg (show ¬ (y.At ≠ a) from fun q => q h2), h5, bsm]
    by_cases h3 : e ∈ pre
    ·rw [if_pos h3, if_neg (show ¬ (y.At = a ∧ e ∉ pre) from fun q => q.2 h3)]
     exact .inr ⟨rfl, rfl⟩
    ·rw [if_neg h3, if_pos (show y.At = a ∧ e ∉ pre from ⟨h2, h3⟩)]
     dsimp only
     rw [hb, bsm, bsm]
     dsimp only
     rw [aV (by omega), bsm, cN pre suf e, bZ pre e]
     exact ih (pre ++ [e]) k _ (by omega) (by simp; omega) (by simp; omega) (by simpa using hl)
   ·rw [if_pos (show y.At ≠ a from h2), if_neg (show ¬ (y.At = a ∧ e ∉ pre) from fun q => h2 q.1)]
    exact .inr ⟨rfl, rfl⟩
  ·rw [jX h1]
   refine .inr ⟨rfl, ?_⟩
   by_cases h0 : e < 0
   ·rw [if_pos h0]; rfl
   ·rw [if_neg h0, if_pos (by omega)]; rfl
theorem rl3 {ch : List ScopeChan} {sp : List ScopeSpot} {fuel : Nat} (suf : List ScopeRule) : ∀ (pre : List ScopeRule) (k : Nat) (u : List Bool), suf.length < k → pre.length + suf.length ≤ 3000000 → 2000000 < fuel → (∀ r ∈ suf, r.Joins.length ≤ 2000000) → u.length = ch.length →
  (∃ u', jF ch sp.length suf u = some u' ∧ u'.length = ch.length ∧ nY fuel ⟨ch, sp, pre ++ suf⟩ k u pre.length = some (.inl u')) ∨
  (jF ch sp.length suf u = none ∧ nY fuel ⟨ch, sp, pre ++ suf⟩ k u pre.length = some (.inr false)) := by
 induction suf with
 | nil =>
  intro pre k u hk _ _ _ hl
  obtain _ | k := k
  ·omega
  exact .inl ⟨u, rfl, hl, by rw [nY, if_neg (by simp)]⟩
 | cons e suf ih =>
  intro pre k u hk hB hf hJ hl
  obtain _ | k := k
  ·omega
  simp only [List.length_cons] at hk hB
  have hj := hJ e (.head _)
  rw [nY, if_pos (cJ _ _ _)]
  dsimp only
  rw [cL, bsm]
  simp only [jF]
  by_cases h1 : okR sp.length e
  ·obtain ⟨c1, c2, c3, c4⟩ := h1
   rw [if_pos (show okR sp.length e from ⟨c1, c2, c3, c4⟩), if_neg (show ¬ e.At < 0 by omega), if_neg (show ¬ (sp.length : Int) < e.At by omega), if_neg (show ¬ (e.Joins.length : Int) < 1 by omega), if_neg (show ¬ 3 < (e.Joins.length : Int) by omega)]
   have h4 := rl4 (ch := ch) (sp := sp) (ru := pre ++ e :: suf) (a := e.At) (nd := e.Node) e.Joins (fuel := fuel) [] fuel u (by omega) (by simp; omega) (by simp; omega) hl
   simp only [List.nil_append, List.length_nil, Int.natCast_zero] at h4
   rcases h4 with ⟨u', a1, a2, a4⟩ | ⟨a1, a4⟩
   ·have : ((jV fuel ⟨ch, sp, pre ++ e :: suf⟩ e fuel u 0) = some (.inl u')) := a4
    rw [a1, bsm, this, bsm]
    dsimp only
    rw [aV (by omega), bsm, cN pre suf e, bZ pre e]
    exact ih (pre ++ [e]) k u' (by omega) (by simp; omega) hf (fun r hr => hJ r (.tail _ hr)) a2
   ·have : ((jV fuel ⟨ch, sp, pre ++ e :: suf⟩ e fuel u 0) = some (.inr (.inr false))) := a4
    rw [a1, this]
    exact .inr ⟨rfl, rfl⟩
  ·rw [if_neg h1]
   refine .inr ⟨rfl, ?_⟩
   unfold okR at h1
   by_cases c1 : e.At < 0
   ·rw [if_pos c1]; rfl
   ·rw [if_neg c1]
    by_cases c2 : (sp.length : Int) < e.At
    ·rw [if_pos c2]; rfl
    ·rw [if_neg c2]
     by_cases c3 : (e.Joins.length : Int) < 1
     ·rw [if_pos c3]; rfl
     ·rw [if_neg c3, if_pos (by omega)]; rfl
theorem rl6 (suf : List Bool) : ∀ (pre : List Bool) (k : Nat), suf.length < k → pre.length + suf.length ≤ 3000000 → pJ (pre ++ suf) k pre.length = some (if suf.all id = true then .inl () else .inr false) := by
 induction suf with
 | nil =>
  intro pre k hk _
  obtain _ | k := k
  ·omega
  rw [pJ, if_neg (by simp), if_pos (by rfl)]
 | cons e suf ih =>
  intro pre k hk hB
  obtain _ | k := k
  ·omega
  simp only [List.length_cons] at hk hB
  rw [pJ, if_pos (cJ _ _ _), cL, bsm]
  cases e with
  | false =>
   rw [cond_false, show (false :: suf).all id = false from rfl, if_neg Bool.false_ne_true]; rfl
  | true =>
   rw [cond_true, aV (by omega), bsm, cN pre suf true, bZ pre true, ih (pre ++ [true]) k (by omega) (by simp; omega), show (true :: suf).all id = suf.all id from by simp]
theorem rdef_eq {fuel : Nat} {d : ScopeDef} (hf : 3000000 ≤ fuel) (hs : smD d) : vV fuel d = some (okD d) := by
 obtain ⟨ch, sp, ru⟩ := d
 obtain ⟨s1, s2, s3, s4⟩ := hs
 dsimp only at s1 s2 s3 s4
 rw [vV]
 dsimp only
 have e1 := rl1 (sp := sp) (ru := ru) ch [] fuel (by omega) (by simp; omega)
 have e2 := rl2 (ch := ch) (ru := ru) sp [] fuel (by omega) (by simp; omega)
 have e3 := rl3 (ch := ch) (sp := sp) (fuel := fuel) ru [] fuel (List.replicate ch.length false) (by omega) (by simp; omega) (by omega) s4 (by simp)
 simp only [List.nil_append, List.length_nil, Int.natCast_zero] at e1 e2 e3
 have hmk : mk false (ch.length : Int) = some (List.replicate ch.length false) := by unfold mk; rw [if_pos (by omega)]; simp
 have hok : okD ⟨ch, sp, ru⟩ = (decide (ch.length ≤ 30 ∧ sp.length ≤ 30 ∧ ru.length ≤ 30) && ch.all (gI sp.length) && lG 0 sp && okU (jF ch sp.length ru (List.replicate ch.length false))) := rfl
 by_cases l1 : 30 < ch.length
 ·rw [if_pos (by omega), hok, decide_eq_false (by omega)]; simp
 ·rw [if_neg (by omega)]
  by_cases l2 : 30 < sp.length
  ·rw [if_pos (by omega), hok, decide_eq_false (by omega)]; simp
  ·rw [if_neg (by omega)]
   by_cases l3 : 30 < ru.length
   ·rw [if_pos (by omega), hok, decide_eq_false (by omega)]; simp
   ·rw [if_neg (by omega), e1, bsm, hok, decide_eq_true (by omega)]
    cases h1 : ch.all (gI sp.length) with
    | false => simp
    | true =>
     simp only [if_true, Bool.true_and]
     rw [e2, bsm]
     cases h2 : lG 0 sp with
     | false => simp
     | true =>
      simp only [if_true, Bool.true_and]
      rw [hmk, bsm]
      rcases e3 with ⟨u, a1, a2, a4⟩ | ⟨a1, a4⟩
      ·have h6 := rl6 u [] fuel (by omega) (by simp; omega)
       simp only [List.nil_append, List.length_nil, Int.natCast_zero] at h6
       rw [a4, bsm, a1]
       dsimp only
       rw [h6, bsm]
       have : okU (some u) = u.all id := rfl
       rw [this]
       cases u.all id <;> simp
      ·rw [a4, bsm, a1]; simp [okU]
end Go.Proofs.YtmnbfgeljmhekaaGreat
set_option maxRecDepth 100000
namespace Go.Proofs.YtmnbfgeljmhekaaGreat
open Go.SX Go.SW Go.Dt
structure VS where
 sz : List Int
 met : List Bool
 dfs : List Bool
def shp (op : Int) : Option (Nat × Nat) :=
 if op = 1 ∨ op = 7 then some (0, 0) else if op = 3 then some (2, 0) else if op = 2 then some (0, 1) else if op = 5 then some (2, 2) else if op = 6 ∨ op = 8 then some (1, 3) else if op = 4 then some (1, 4) else none
def okM (p : ScopeProg) (s : VS) (x : ScopeNode) (size : Int) : Nat → Prop
 | 0 => x.N = 0 ∧ x.Args.length = 0
 | 1 => (0 ≤ x.N ∧ x.N < size) ∧ x.Args.length ≤ 3
 | 2 => x.N = 0 ∧ x.Args.length = 1
 | 3 => (0 ≤ x.N ∧ x.N < size) ∧ x.Args.length = 0
 | _ => (0 ≤ x.N ∧ x.N < (p.Defs.length : Int) ∧ idx s.dfs x.N = some false) ∧ x.Args.length = 0
def okN (p : ScopeProg) (s : VS) (x : ScopeNode) (size : Int) : Prop := (∃ k c, shp x.Op = some (k, c) ∧ x.Kids.length = k ∧ okM p s x size c) ∧ x.Args.all (okE size) = true
def own (d : ScopeDef) : Int := (d.Chans.length : Int) + (d.Spots.length : Int)
def brs (ch : List ScopeChan) : List Int → Int
 | [] => 0
 | c :: js => (match idx ch c with | some y => y.Many | none => 0) + brs ch js
def dF (g : VS → Int → Int → Option VS) : VS → List (Int × Int) → Option VS
 | s, [] => some s
 | s, x :: l => (g s x.1 x.2).bind fun s => dF g s l
open Classical in
noncomputable def vis (p : ScopeProg) : Nat → VS → Int → Int → Option VS
 | 0, _, _, _ => none
 | f + 1, s, n, size =>
  if 0 ≤ n ∧ n < (p.Nodes.length : Int) ∧ idx s.met n = some false then
   (idx p.Nodes n).bind fun x =>
   if okN p s x size then
    if x.Op = 4 then
     (idx p.Defs x.N).bind fun d =>
     if okD d = true then
      (dF (vis p f) ⟨s.sz.set n.toNat size, s.met.set n.toNat true, s.dfs.set x.N.toNat true⟩ (d.Rules.map fun r => (r.Node, size + own d + brs d.Chans r.Joins))).bind fun s1 =>
      (dF (vis p f) s1 (d.Spots.map fun y => (y.Node, size + own d))).bind fun s2 =>
      dF (vis p f) s2 (x.Kids.map fun k => (k, size + own d))
     else none
    else dF (vis p f) ⟨s.sz.set n.toNat size, s.met.set n.toNat true, s.dfs⟩ (x.Kids.map fun k => (k, size))
   else none
  else none
def unm (s : VS) : Nat := s.met.countP (fun b => !b)
structure WS (p : ScopeProg) (s : VS) : Prop where
 sz : s.sz.length = p.Nodes.length
 met : s.met.length = p.Nodes.length
 dfs : s.dfs.length = p.Defs.length
structure SmP (p : ScopeProg) : Prop where
 nodes : p.Nodes.length ≤ 2000000
 defs : p.Defs.length ≤ 2000000
 free : p.Free.length ≤ 2000000
 names : ∀ x ∈ p.Free, x.size ≤ 2000000
 args : ∀ x ∈ p.Nodes, x.Args.length ≤ 2000000 ∧ x.Kids.length ≤ 2000000 ∧ ∀ e ∈ x.Args, nE e ≤ 2000000
 dfs : ∀ d ∈ p.Defs, smD d
theorem eD {α : Type} {xs : List α} {i : Int} {y : α} (h : idx xs i = some y) : y ∈ xs := List.mem_of_getElem? (bW h)
theorem aFn {ch : List ScopeChan} {a : Int} : ∀ (js pre : List Int) (u u' : List Bool), oI ch a pre js u = some u' → ∀ c ∈ js, ∃ y, idx ch c = some y
 | [], _, _, _, _, c, h => by cases h
 | e :: js, pre, u, u', h, c, hc => by
  simp only [oI] at h
  cases he : idx ch e with
  | none => rw [he] at h; cases h
  | some y =>
   rw [he] at h
   dsimp only at h
   split at h
   ·cases hc with
    | head => exact ⟨y, he⟩
    | tail _ hc => exact aFn js _ _ _ h c hc
   ·cases h
theorem aEz {ch : List ScopeChan} {n : Nat} : ∀ (rs : List ScopeRule) (u u' : List Bool), jF ch n rs u = some u' → ∀ r ∈ rs, okR n r ∧ ∀ c ∈ r.Joins, ∃ y, idx ch c = some y
 | [], _, _, _, r, h => by cases h
 | e :: rs, u, u', h, r, hr => by
  simp only [jF] at h
  split at h
  ·rename_i h1
   obtain ⟨u1, h2, h3⟩ := bind_some h
   cases hr with
   | head => exact ⟨h1, aFn _ _ _ _ h2⟩
   | tail _ hr => exact aEz rs _ _ h3 r hr
  ·cases h
theorem dV {d : ScopeDef} (h : okD d = true) : d.Chans.length ≤ 30 ∧ d.Spots.length ≤ 30 ∧ d.Rules.length ≤ 30 ∧ (∀ c ∈ d.Chans, 0 ≤ c.Many ∧ c.Many ≤ 3) ∧ ∀ r ∈ d.Rules, r.Joins.length ≤ 3 ∧ ∀ c ∈ r.Joins, ∃ y, idx d.Chans c = some y ∧ 0 ≤ y.Many ∧ y.Many ≤ 3 := by
 simp only [okD, Bool.and_eq_true, decide_eq_true_eq] at h
 obtain ⟨⟨⟨h1, h2⟩, h3⟩, h4⟩ := h
 have hm : ∀ c ∈ d.Chans, 0 ≤ c.Many ∧ c.Many ≤ 3 := fun c hc => by
  have := of_decide_eq_true (List.all_eq_true.1 h2 c hc); exact ⟨this.2.2.1, this.2.2.2⟩
 refine ⟨h1.1, h1.2.1, h1.2.2, hm, fun r hr => ?_⟩
 cases hu : jF d.Chans d.Spots.length d.Rules (List.replicate d.Chans.length false) with
 | none => rw [hu] at h4; cases h4
 | some u =>
  obtain ⟨g1, g2⟩ := aEz _ _ _ hu r hr
  exact ⟨g1.2.2.2, fun c hc => let ⟨y, hy⟩ := g2 c hc; ⟨y, hy, hm y (eD hy)⟩⟩
theorem sY {ch : List ScopeChan} : ∀ {js : List Int}, (∀ c ∈ js, ∃ y, idx ch c = some y ∧ 0 ≤ y.Many ∧ y.Many ≤ 3) → 0 ≤ brs ch js ∧ brs ch js ≤ 3 * js.length
 | [], _ => by simp [brs]
 | c :: js, h => by
  obtain ⟨y, h1, h2, h3⟩ := h c (.head _)
  have := sY (js := js) fun c hc => h c (.tail _ hc)
  simp only [brs, h1, List.length_cons]; omega
theorem aHu {ch : List ScopeChan} {sp : List ScopeSpot} {ru : List ScopeRule} {a nd : Int} (suf : List Int) : ∀ (pre : List Int) (k : Nat) (w : Int), suf.length < k → pre.length + suf.length ≤ 1000 → 0 ≤ w → w ≤ 100000 → (∀ c ∈ suf, ∃ y, idx ch c = some y ∧ 0 ≤ y.Many ∧ y.Many ≤ 3) → w + 3 * suf.length ≤ 100000 →
  oW ⟨ch, sp, ru⟩ ⟨a, pre ++ suf, nd⟩ k w pre.length = some (w + brs ch suf) := by
 induction suf with
 | nil =>
  intro pre k w hk _ _ _ _ _
  obtain _ | k := k
  ·omega
  rw [oW, if_neg (by simp)]; simp [brs]
 | cons e suf ih =>
  intro pre k w hk hB h0 h1 hm hw
  obtain _ | k := k
  ·omega
  simp only [List.length_cons] at hk hB hw
  obtain ⟨y, g1, g2, g3⟩ := hm e (.head _)
  rw [oW, if_pos (cJ _ _ _)]
  dsimp only
  rw [cL, bsm, g1, bsm, aV (by omega), bsm, aV (by omega), bsm, cN pre suf e, bZ pre e, ih (pre ++ [e]) k _ (by omega) (by simp; omega) (by omega) (by omega) (fun c hc => hm c (.tail _ hc)) (by omega)]
  simp only [brs, g1]; congr 1; omega
theorem aHN {fuel : Nat} {d : ScopeDef} {r : ScopeRule} (hf : 3000 ≤ fuel) (h : okD d = true) (hr : r ∈ d.Rules) : wP fuel d r = some (brs d.Chans r.Joins) := by
 obtain ⟨_, _, _, _, h5⟩ := dV h
 obtain ⟨g1, g2⟩ := h5 r hr
 have := aHu (ch := d.Chans) (sp := d.Spots) (ru := d.Rules) (a := r.At) (nd := r.Node) r.Joins [] fuel 0 (by omega) (by simp; omega) (by omega) (by omega) g2 (by omega)
 simp only [List.nil_append, List.length_nil, Int.natCast_zero] at this
 rw [wP, this, bsm]; congr 1; omega
def kM (p : ScopeProg) (o : Option VS) : Scope_looker ⊕ Value := match o with
 | some s => .inl ⟨p, s.sz, s.met, s.dfs⟩
 | none => .inr flaw
structure Vis (p : ScopeProg) (f : Nat) (rec : Scope_looker → Int → Int → Option (Scope_looker ⊕ Value)) : Prop where
 run : ∀ (s : VS) (n z : Int), WS p s → unm s ≤ f → 0 ≤ z → z + 80 * f ≤ 100000 → rec ⟨p, s.sz, s.met, s.dfs⟩ n z = some (kM p (vis p f s n z))
structure VisO (p : ScopeProg) (f : Nat) : Prop where
 out : ∀ (s : VS) (n z : Int) (s' : VS), WS p s → unm s ≤ f → vis p f s n z = some s' → WS p s' ∧ unm s' + 1 ≤ unm s
theorem nX {p : ScopeProg} {f : Nat} (h : VisO p f) : ∀ (l : List (Int × Int)) (s s' : VS), WS p s → unm s ≤ f → dF (vis p f) s l = some s' → WS p s' ∧ unm s' ≤ unm s
 | [], s, s', hs, _, e => by cases e; exact ⟨hs, Nat.le_refl _⟩
 | x :: l, s, s', hs, hu, e => by
  obtain ⟨s1, e1, e2⟩ := bind_some e
  obtain ⟨h1, h2⟩ := h.out _ _ _ _ hs hu e1
  obtain ⟨h3, h4⟩ := nX h l s1 s' h1 (by omega) e2
  exact ⟨h3, by omega⟩
section
variable {p : ScopeProg} {f : Nat} {rec : Scope_looker → Int → Int → Option (Scope_looker ⊕ Value)}
theorem ln4 (hv : Vis p f rec) (ho : VisO p f) {op nn : Int} {ar : List ScopeExp} {z : Int} (hz : 0 ≤ z ∧ z + 80 * f ≤ 100000) (suf : List Int) : ∀ (pre : List Int) (k : Nat) (s : VS), suf.length < k → pre.length + suf.length ≤ 3000000 → WS p s → unm s ≤ f →
  oE rec ⟨op, nn, ar, pre ++ suf⟩ z k pre.length p.Free p.Nodes p.Defs p.Main s.sz s.met s.dfs = some (kM p (dF (vis p f) s (suf.map fun k => (k, z)))) := by
 induction suf with
 | nil =>
  intro pre k s hk _ hs hu
  obtain _ | k := k
  ·omega
  rw [oE, if_neg (by simp)]; rfl
 | cons e suf ih =>
  intro pre k s hk hB hs hu
  obtain _ | k := k
  ·omega
  simp only [List.length_cons] at hk hB
  rw [oE, if_pos (cJ _ _ _)]
  dsimp only
  rw [cL, bsm]
  have h1 := hv.run s e z hs hu hz.1 hz.2
  rw [show (⟨⟨p.Free, p.Nodes, p.Defs, p.Main⟩, s.sz, s.met, s.dfs⟩ : Scope_looker) = ⟨p, s.sz, s.met, s.dfs⟩ from rfl, h1, bsm]
  simp only [List.map_cons, dF]
  cases hc : vis p f s e z with
  | none => rfl
  | some s1 =>
   obtain ⟨h2, h3⟩ := ho.out _ _ _ _ hs hu hc
   simp only [kM]
   rw [aV (by omega), bsm, cN pre suf e, bZ pre e, bsm]
   exact ih (pre ++ [e]) k s1 (by omega) (by simp; omega) h2 (by omega)
theorem ln3 (hv : Vis p f rec) (ho : VisO p f) {ch : List ScopeChan} {ru : List ScopeRule} {z : Int} (hz : 0 ≤ z ∧ z + 80 * f ≤ 100000) (suf : List ScopeSpot) : ∀ (pre : List ScopeSpot) (k : Nat) (s : VS), suf.length < k → pre.length + suf.length ≤ 3000000 → WS p s → unm s ≤ f →
  mN rec ⟨ch, pre ++ suf, ru⟩ z k pre.length p.Free p.Nodes p.Defs p.Main s.sz s.met s.dfs = some (match dF (vis p f) s (suf.map fun y => (y.Node, z)) with
   | some s' => .inl (z, p.Free, p.Nodes, p.Defs, p.Main, s'.sz, s'.met, s'.dfs)
   | none => .inr (.inr flaw)) := by
 induction suf with
 | nil =>
  intro pre k s hk _ hs hu
  obtain _ | k := k
  ·omega
  rw [mN, if_neg (by simp)]; rfl
 | cons e suf ih =>
  intro pre k s hk hB hs hu
  obtain _ | k := k
  ·omega
  simp only [List.length_cons] at hk hB
  rw [mN, if_pos (cJ _ _ _)]
  dsimp only
  rw [cL, bsm]
  have h1 := hv.run s e.Node z hs hu hz.1 hz.2
  rw [show (⟨⟨p.Free, p.Nodes, p.Defs, p.Main⟩, s.sz, s.met, s.dfs⟩ : Scope_looker) = ⟨p, s.sz, s.met, s.dfs⟩ from rfl, h1, bsm]
  simp only [List.map_cons, dF]
  cases hc : vis p f s e.Node z with
  | none => rfl
  | some s1 =>
   obtain ⟨h2, h3⟩ := ho.out _ _ _ _ hs hu hc
   simp only [kM]
   rw [aV (by omega), bsm, cN pre suf e, bZ pre e, bsm]
   exact ih (pre ++ [e]) k s1 (by omega) (by simp; omega) h2 (by omega)
theorem ln2 (hv : Vis p f rec) (ho : VisO p f) {fuel : Nat} {d : ScopeDef} (hd : okD d = true) (hf : 3000 ≤ fuel) {z : Int} (hz : 0 ≤ z ∧ z + 9 + 80 * f ≤ 100000) (suf : List ScopeRule) : ∀ (pre : List ScopeRule) (k : Nat) (s : VS), d.Rules = pre ++ suf → suf.length < k → pre.length + suf.length ≤ 3000000 → WS p s → unm s ≤ f →
  mR fuel rec d z k pre.length p.Free p.Nodes p.Defs p.Main s.sz s.met s.dfs = some (match dF (vis p f) s (suf.map fun r => (r.Node, z + brs d.Chans r.Joins)) with
   | some s' => .inl (p.Free, p.Nodes, p.Defs, p.Main, s'.sz, s'.met, s'.dfs)
   | none => .inr (.inr (.inr flaw))) := by
 induction suf with
 | nil =>
  intro pre k s he hk _ hs hu
  obtain _ | k := k
  ·omega
  rw [mR, he, if_neg (by simp)]; rfl
 | cons e suf ih =>
  intro pre k s he hk hB hs hu
  obtain _ | k := k
  ·omega
  simp only [List.length_cons] at hk hB
  have hmem : e ∈ d.Rules := by rw [he]; simp
  obtain ⟨_, _, _, _, h5⟩ := dV hd
  obtain ⟨g1, g2⟩ := h5 e hmem
  have hb := sY g2
  rw [mR, he, if_pos (cJ _ _ _), ← he, show idx d.Rules (pre.length : Int) = some e from by rw [he]; exact cL _ _ _, bsm,
   show (⟨e.At, e.Joins, e.Node⟩ : ScopeRule) = e from rfl, show (⟨d.Chans, d.Spots, d.Rules⟩ : ScopeDef) = d from rfl, aHN hf hd hmem, bsm, aV (by omega), bsm]
  have h1 := hv.run s e.Node (z + brs d.Chans e.Joins) hs hu (by omega) (by omega)
  rw [show (⟨⟨p.Free, p.Nodes, p.Defs, p.Main⟩, s.sz, s.met, s.dfs⟩ : Scope_looker) = ⟨p, s.sz, s.met, s.dfs⟩ from rfl, h1, bsm]
  simp only [List.map_cons, dF]
  cases hc : vis p f s e.Node (z + brs d.Chans e.Joins) with
  | none => rfl
  | some s1 =>
   obtain ⟨h2, h3⟩ := ho.out _ _ _ _ hs hu hc
   simp only [kM]
   rw [aV (by omega), bsm, bZ pre e, bsm]
   exact ih (pre ++ [e]) k s1 (by rw [he]; simp) (by omega) (by simp; omega) h2 (by omega)
end
theorem ln1 {fuel : Nat} (hf : 3000000 ≤ fuel) {op nn : Int} {ks : List Int} {z : Int} (suf : List ScopeExp) : ∀ (pre : List ScopeExp) (k : Nat), suf.length < k → pre.length + suf.length ≤ 3000000 → (∀ e ∈ suf, nE e ≤ 2000000) →
  mI fuel z ⟨op, nn, pre ++ suf, ks⟩ k pre.length = some (if suf.all (okE z) = true then .inl () else .inr (.inr flaw)) := by
 induction suf with
 | nil =>
  intro pre k hk _ _
  obtain _ | k := k
  ·omega
  rw [mI, if_neg (by simp), if_pos (by rfl)]
 | cons e suf ih =>
  intro pre k hk hB he
  obtain _ | k := k
  ·omega
  simp only [List.length_cons] at hk hB
  have hn := he e (.head _)
  rw [mI, if_pos (cJ _ _ _), show (e :: suf).all (okE z) = (okE z e && suf.all (okE z)) from rfl]
  dsimp only
  rw [cL, bsm, yD, exp_eq (by omega) (by omega), bsm]
  cases h1 : okE z e with
  | false => rfl
  | true =>
   rw [Bool.true_and, if_pos rfl]
   dsimp only
   rw [aV (by omega), bsm, cN pre suf e, bZ pre e]
   exact ih (pre ++ [e]) k (by omega) (by simp; omega) (fun x hx => he x (.tail _ hx))
end Go.Proofs.YtmnbfgeljmhekaaGreat
set_option maxRecDepth 100000
namespace Go.Proofs.YtmnbfgeljmhekaaGreat
open Go.SX Go.SW Go.Dt
theorem aBe {s : VS} {p : ScopeProg} {n : Int} {z : Int} {dfs : List Bool} (h0 : 0 ≤ n) (hm : idx s.met n = some false) : unm ⟨s.sz.set n.toNat z, s.met.set n.toNat true, dfs⟩ + 1 = unm s := by
 obtain ⟨j, rfl, hj, hlt⟩ := uM hm
 simp only [unm, Int.toNat_natCast]
 rw [List.countP_set (h := hlt)]
 have hv : s.met[j] = false := by
  have := List.getElem?_eq_getElem hlt; rw [hj] at this; exact (Option.some.inj this).symm
 have hpos : 0 < s.met.countP (fun b => !b) := List.countP_pos_iff.2 ⟨s.met[j], List.getElem_mem hlt, by rw [hv]; rfl⟩
 rw [hv]; simp; omega
theorem sZ {p : ScopeProg} {s : VS} (h : WS p s) {i j : Nat} {z : Int} : WS p ⟨s.sz.set i z, s.met.set i true, s.dfs⟩ ∧ WS p ⟨s.sz.set i z, s.met.set i true, s.dfs.set j true⟩ :=
 ⟨⟨by simp [h.sz], by simp [h.met], h.dfs⟩, ⟨by simp [h.sz], by simp [h.met], by simp [h.dfs]⟩⟩
theorem visO (p : ScopeProg) (f : Nat) : VisO p f := by
 induction f with
 | zero => exact ⟨fun s n z s' _ _ h => by simp [vis] at h⟩
 | succ f ih =>
  refine ⟨fun s n z s' hs hu h => ?_⟩
  simp only [vis] at h
  split at h
  ·rename_i hc
   obtain ⟨x, _, h⟩ := bind_some h
   have hun := fun dfs => aBe (p := p) (z := z) (dfs := dfs) hc.1 hc.2.2
   split at h
   ·split at h
    ·obtain ⟨d, _, h⟩ := bind_some h
     split at h
     ·obtain ⟨s1, e1, h⟩ := bind_some h
      obtain ⟨s2, e2, e3⟩ := bind_some h
      have := hun (s.dfs.set x.N.toNat true)
      obtain ⟨a1, a2⟩ := nX ih _ _ _ (sZ hs).2 (by omega) e1
      obtain ⟨b1, b2⟩ := nX ih _ _ _ a1 (by omega) e2
      obtain ⟨c1, c2⟩ := nX ih _ _ _ b1 (by omega) e3
      exact ⟨c1, by omega⟩
     ·cases h
    ·have := hun s.dfs
     obtain ⟨a1, a2⟩ := nX ih _ _ _ (sZ hs (j := 0)).1 (by omega) h
     exact ⟨a1, by omega⟩
   ·cases h
  ·cases h
def lP (fuel : Nat) (a0 : Scope_looker) (a1 a2 : Int) (y7 : ScopeNode) (x2 : Int) : Option (Scope_looker ⊕ Value) :=
 (bX (decide ((y7.Args.length : Int) = x2))).bind fun y26 =>
 match y26 with
 | Sum.inr pv15 => some (Sum.inr pv15)
 | Sum.inl _ =>
 (mI fuel a2 y7 fuel 0).bind fun o => match o with
 | Sum.inr r => some r
 | Sum.inl _ =>
 (if y7.Op = 4 then
  (idx a0.defs y7.N).bind fun _ =>
  (idx a0.p.Defs y7.N).bind fun y30 =>
  (tL fuel (⟨y30.Chans, y30.Spots, y30.Rules⟩ : ScopeDef)).bind fun y31 =>
  match y31 with
  | Sum.inr pv17 => (some (Sum.inr pv17)).bind fun r => some (Sum.inr r)
  | Sum.inl _ =>
  (uP (⟨y30.Chans, y30.Spots, y30.Rules⟩ : ScopeDef)).bind fun y32 =>
  (chk (a2 + y32)).bind fun z2 =>
  (mR fuel (fF fuel) y30 z2 fuel 0 a0.p.Free a0.p.Nodes a0.p.Defs a0.p.Main (a0.sizes.set a1.toNat a2) (a0.met.set a1.toNat true) (a0.defs.set y7.N.toNat true)).bind fun o => match o with
  | Sum.inr r => some r
  | Sum.inl (x17, x18, x19, x20, x21, x22, x23) =>
  mN (fF fuel) y30 z2 fuel 0 x17 x18 x19 x20 x21 x22 x23
 else
  some (Sum.inl (a2, a0.p.Free, a0.p.Nodes, a0.p.Defs, a0.p.Main, a0.sizes.set a1.toNat a2, a0.met.set a1.toNat true, a0.defs))).bind fun o => match o with
 | Sum.inr r => some r
 | Sum.inl (x9, x10, x11, x12, x13, x14, x15, x16) =>
 oE (fF fuel) y7 x9 fuel 0 x10 x11 x12 x13 x14 x15 x16
theorem own_eq {d : ScopeDef} (h : d.Chans.length ≤ 2000000) (h2 : d.Spots.length ≤ 2000000) : uP d = some (own d) := by
 rw [uP, aV (by omega), bsm]; rfl
section
variable {p : ScopeProg} {f m : Nat}
noncomputable def aZ (p : ScopeProg) (f : Nat) (s : VS) (n z : Int) (x : ScopeNode) : Option VS :=
 if x.Op = 4 then
  (idx p.Defs x.N).bind fun d =>
  if okD d = true then
   (dF (vis p f) ⟨s.sz.set n.toNat z, s.met.set n.toNat true, s.dfs.set x.N.toNat true⟩ (d.Rules.map fun r => (r.Node, z + own d + brs d.Chans r.Joins))).bind fun s1 =>
   (dF (vis p f) s1 (d.Spots.map fun y => (y.Node, z + own d))).bind fun s2 =>
   dF (vis p f) s2 (x.Kids.map fun k => (k, z + own d))
  else none
 else dF (vis p f) ⟨s.sz.set n.toNat z, s.met.set n.toNat true, s.dfs⟩ (x.Kids.map fun k => (k, z))
theorem tail_bad {a0 : Scope_looker} {n z : Int} {x : ScopeNode} {x2 : Int} (h : ¬ (x.Args.length : Int) = x2) : lP m a0 n z x x2 = some (.inr flaw) := by
 rw [lP, decide_eq_false h, dJ]; rfl
theorem tail_eq (hp : SmP p) (hm : 3000000 ≤ m) (hv : Vis p f (fF m)) {s : VS} (hs : WS p s) {n z : Int} {x : ScopeNode} (hx : x ∈ p.Nodes) (hun : ∀ dfs, unm ⟨s.sz.set n.toNat z, s.met.set n.toNat true, dfs⟩ ≤ f) (hz : 0 ≤ z ∧ z + 69 + 80 * f ≤ 100000)
  (hN : x.Op = 4 → 0 ≤ x.N ∧ x.N < (p.Defs.length : Int)) {x2 : Int} (h2 : (x.Args.length : Int) = x2) :
  lP m ⟨p, s.sz, s.met, s.dfs⟩ n z x x2 = some (kM p (if x.Args.all (okE z) = true then aZ p f s n z x else none)) := by
 obtain ⟨op, nn, ar, ks⟩ := x
 obtain ⟨g1, g2, g3⟩ := hp.args _ hx
 dsimp only at g1 g2 g3 h2 hN
 have ho := visO p f
 rw [lP, decide_eq_true h2, eU, bsm]
 dsimp only
 have e1 := ln1 (fuel := m) hm (op := op) (nn := nn) (ks := ks) (z := z) ar [] m (by omega) (by simp; omega) g3
 simp only [List.nil_append, List.length_nil, Int.natCast_zero] at e1
 rw [e1, bsm]
 cases hall : ar.all (okE z) with
 | false => rfl
 | true =>
  rw [if_pos rfl, if_pos rfl]
  dsimp only
  by_cases h4 : op = 4
  ·subst h4
   obtain ⟨n0, n1⟩ := hN rfl
   obtain ⟨d, hd⟩ := dH n0 n1
   obtain ⟨b, hb⟩ := dH (xs := s.dfs) n0 (by rw [hs.dfs]; exact n1)
   have hsm := hp.dfs d (eD hd)
   have hres : aZ p f s n z ⟨4, nn, ar, ks⟩ = if okD d = true then
     (dF (vis p f) ⟨s.sz.set n.toNat z, s.met.set n.toNat true, s.dfs.set nn.toNat true⟩ (d.Rules.map fun r => (r.Node, z + own d + brs d.Chans r.Joins))).bind fun s1 =>
     (dF (vis p f) s1 (d.Spots.map fun y => (y.Node, z + own d))).bind fun s2 => dF (vis p f) s2 (ks.map fun k => (k, z + own d))
     else none := by
    rw [aZ, if_pos rfl]; dsimp only; rw [hd, bsm]
   rw [hres, if_pos rfl, hb, bsm, hd, bsm, show (⟨d.Chans, d.Spots, d.Rules⟩ : ScopeDef) = d from rfl, def_eq hm hsm, bsm]
   cases hok : okD d with
   | false => rfl
   | true =>
    rw [if_pos rfl, if_pos rfl]
    dsimp only
    obtain ⟨k1, k2, k3, _, _⟩ := dV hok
    have hown : 0 ≤ own d ∧ own d ≤ 60 := by unfold own; omega
    rw [own_eq (by omega) (by omega), bsm, aV (by omega), bsm]
    have e2 := ln2 hv ho (fuel := m) hok (by omega) (z := z + own d) ⟨by omega, by omega⟩ d.Rules [] m ⟨s.sz.set n.toNat z, s.met.set n.toNat true, s.dfs.set nn.toNat true⟩ rfl (by omega) (by simp; omega) (sZ hs).2 (hun _)
    simp only [List.length_nil, Int.natCast_zero] at e2
    rw [e2, bsm]
    cases c2 : dF (vis p f) ⟨s.sz.set n.toNat z, s.met.set n.toNat true, s.dfs.set nn.toNat true⟩ (d.Rules.map fun r => (r.Node, z + own d + brs d.Chans r.Joins)) with
    | none => rfl
    | some s1 =>
     obtain ⟨w1, u1⟩ := nX ho _ _ _ (sZ hs).2 (hun _) c2
     have hu1 := hun (s.dfs.set nn.toNat true)
     dsimp only
     rw [bsm]
     have e3 := ln3 hv ho (ch := d.Chans) (ru := d.Rules) (z := z + own d) ⟨by omega, by omega⟩ d.Spots [] m s1 (by omega) (by simp; omega) w1 (by omega)
     simp only [List.nil_append, List.length_nil, Int.natCast_zero] at e3
     rw [show (⟨d.Chans, d.Spots, d.Rules⟩ : ScopeDef) = d from rfl] at e3
     rw [e3, bsm]
     cases c3 : dF (vis p f) s1 (d.Spots.map fun y => (y.Node, z + own d)) with
     | none => rfl
     | some s2 =>
      obtain ⟨w2, u2⟩ := nX ho _ _ _ w1 (by omega) c3
      dsimp only
      rw [bsm]
      have e4 := ln4 hv ho (op := 4) (nn := nn) (ar := ar) (z := z + own d) ⟨by omega, by omega⟩ ks [] m s2 (by omega) (by simp; omega) w2 (by omega)
      simp only [List.nil_append, List.length_nil, Int.natCast_zero] at e4
      exact e4
  ·rw [if_neg h4, bsm]
   dsimp only
   have hres : aZ p f s n z ⟨op, nn, ar, ks⟩ = dF (vis p f) ⟨s.sz.set n.toNat z, s.met.set n.toNat true, s.dfs⟩ (ks.map fun k => (k, z)) := by
    rw [aZ, if_neg h4]
   rw [hres]
   have e4 := ln4 hv ho (op := op) (nn := nn) (ar := ar) (z := z) ⟨by omega, by omega⟩ ks [] m ⟨s.sz.set n.toNat z, s.met.set n.toNat true, s.dfs⟩ (by omega) (by simp; omega) (sZ hs (j := 0)).1 (hun _)
   simp only [List.nil_append, List.length_nil, Int.natCast_zero] at e4
   exact e4
theorem aDJ {s : VS} (hs : WS p s) {n z : Int} (h : ¬ (0 ≤ n ∧ n < (p.Nodes.length : Int) ∧ idx s.met n = some false)) : fF (m + 1) ⟨p, s.sz, s.met, s.dfs⟩ n z = some (.inr flaw) := by
 rw [fF]
 by_cases h0 : 0 ≤ n
 ·rw [if_pos h0]
  by_cases h1 : n < (p.Nodes.length : Int)
  ·obtain ⟨b, hb⟩ := dH (xs := s.met) h0 (by rw [hs.met]; exact h1)
   dsimp only
   rw [if_pos h1, hb, bsm]
   cases b with
   | false => exact absurd ⟨h0, h1, hb⟩ h
   | true => rfl
  ·dsimp only
   rw [if_neg h1, dJ]; rfl
 ·rw [if_neg h0, dJ]; rfl
end
end Go.Proofs.YtmnbfgeljmhekaaGreat
set_option maxRecDepth 100000
namespace Go.Proofs.YtmnbfgeljmhekaaGreat
open Go.SX Go.SW Go.Dt
theorem aFK {op : Int} (h : op = 1 ∨ op = 7) : kB op = some (.iface 197 (.int .i64 0)) := by
 rcases h with rfl | rfl <;> rfl
theorem aHT : kB 3 = some (.iface 197 (.int .i64 2)) := rfl
theorem aGN : kB 2 = some (.iface 190 (.agg ⟨[]⟩)) := rfl
theorem aGe : kB 5 = some (.iface 193 (.agg ⟨[]⟩)) := rfl
theorem aHL {op : Int} (h : op = 6 ∨ op = 8) : kB op = some (.iface 191 (.agg ⟨[]⟩)) := by
 rcases h with rfl | rfl <;> rfl
theorem aFD : kB 4 = some (.iface 192 (.agg ⟨[]⟩)) := rfl
theorem aGR {op : Int} (h : shp op = none) : kB op = some .nilIface := by
 unfold shp at h
 rw [kB]
 split at h; · cases h
 split at h; · cases h
 split at h; · cases h
 split at h; · cases h
 split at h; · cases h
 split at h; · cases h
 rename_i h1 h2 h3 h4 h5 h6
 rw [if_neg (by omega), bsm, decide_eq_false (by omega), cond_false, if_neg h2, if_neg h3, if_neg h4, if_neg (by omega), bsm, decide_eq_false (by omega), cond_false, if_neg h6]
def iQ (m : Nat) (a0 : Scope_looker) (a1 a2 : Int) (y7 : ScopeNode) (y8 : Value) : Option (Scope_looker ⊕ Value) :=
 ((iO y8).bind fun x1 =>
 bif !x1 then
  (mW y8).bind fun y9 =>
  (bX (decide ((y7.Kids.length : Int) = y9))).bind fun y10 =>
  match y10 with
  | Sum.inr pv4 => (some (Sum.inr pv4)).bind fun r => some (Sum.inr r)
  | Sum.inl _ =>
  some (Sum.inl ())
 else
  (bX false).bind fun y11 =>
  match y11 with
  | Sum.inr pv5 => (some (Sum.inr pv5)).bind fun r => some (Sum.inr r)
  | Sum.inl _ =>
  some (Sum.inl ())).bind fun o => match o with
 | Sum.inr r => some r
 | Sum.inl _ =>
 ((eQ 190 (.agg #[]) y8).bind fun y12 =>
 match y12 with
 | (_, x3) =>
 bif x3 then
  if 0 ≤ y7.N then
   (bX (decide (y7.N < a2))).bind fun y13 =>
   match y13 with
   | Sum.inr pv6 => (some (Sum.inr pv6)).bind fun r => some (Sum.inr r)
   | Sum.inl _ =>
   some (Sum.inl (min (y7.Args.length : Int) 3))
  else
   (bX false).bind fun y14 =>
   match y14 with
   | Sum.inr pv7 => (some (Sum.inr pv7)).bind fun r => some (Sum.inr r)
   | Sum.inl _ =>
   some (Sum.inl (min (y7.Args.length : Int) 3))
 else
  (eQ 191 (.agg #[]) y8).bind fun y15 =>
  match y15 with
  | (_, x4) =>
  bif x4 then
   if 0 ≤ y7.N then
    (bX (decide (y7.N < a2))).bind fun y16 =>
    match y16 with
    | Sum.inr pv8 => (some (Sum.inr pv8)).bind fun r => some (Sum.inr r)
    | Sum.inl _ =>
    some (Sum.inl 0)
   else
    (bX false).bind fun y17 =>
    match y17 with
    | Sum.inr pv9 => (some (Sum.inr pv9)).bind fun r => some (Sum.inr r)
    | Sum.inl _ =>
    some (Sum.inl 0)
  else
   (eQ 192 (.agg #[]) y8).bind fun y18 =>
   match y18 with
   | (_, x5) =>
   bif x5 then
    if 0 ≤ y7.N then
     if y7.N < (a0.p.Defs.length : Int) then
      (idx a0.defs y7.N).bind fun y19 =>
      (bX (!y19)).bind fun y20 =>
      match y20 with
      | Sum.inr pv10 => (some (Sum.inr pv10)).bind fun r => some (Sum.inr r)
      | Sum.inl _ =>
      some (Sum.inl 0)
     else
      (bX false).bind fun y21 =>
      match y21 with
      | Sum.inr pv11 => (some (Sum.inr pv11)).bind fun r => some (Sum.inr r)
      | Sum.inl _ =>
      some (Sum.inl 0)
    else
     (bX false).bind fun y22 =>
     match y22 with
     | Sum.inr pv12 => (some (Sum.inr pv12)).bind fun r => some (Sum.inr r)
     | Sum.inl _ =>
     some (Sum.inl 0)
   else
    (eQ 193 (.agg #[]) y8).bind fun y23 =>
    match y23 with
    | (_, x6) =>
    bif x6 then
     (bX (decide (y7.N = 0))).bind fun y24 =>
     match y24 with
     | Sum.inr pv13 => (some (Sum.inr pv13)).bind fun r => some (Sum.inr r)
     | Sum.inl _ =>
     some (Sum.inl 1)
    else
     (bX (decide (y7.N = 0))).bind fun y25 =>
     match y25 with
     | Sum.inr pv14 => (some (Sum.inr pv14)).bind fun r => some (Sum.inr r)
     | Sum.inl _ =>
     some (Sum.inl 0)).bind fun o => match o with
 | Sum.inr r => some r
 | Sum.inl x2 => lP m a0 a1 a2 y7 x2
section
variable {p : ScopeProg} {f m : Nat}
theorem rM {s : VS} (hs : WS p s) {n z : Int} {x : ScopeNode} (h : 0 ≤ n ∧ n < (p.Nodes.length : Int) ∧ idx s.met n = some false) (hx : idx p.Nodes n = some x) {v : Value} (hv : kB x.Op = some v) :
  fF (m + 1) ⟨p, s.sz, s.met, s.dfs⟩ n z = iQ m ⟨p, s.sz, s.met, s.dfs⟩ n z x v := by
 obtain ⟨h0, h1, h2⟩ := h
 obtain ⟨b, hb⟩ := dH (xs := s.sz) h0 (by rw [hs.sz]; exact h1)
 rw [fF, if_pos h0]
 dsimp only
 rw [if_pos h1, h2, bsm, show (!false) = true from rfl, eU, bsm, bsm]
 dsimp only
 rw [bsm, hb, bsm, hx, bsm, hv, bsm]
 rfl
theorem mid_nil {a0 : Scope_looker} {n z : Int} {x : ScopeNode} : iQ m a0 n z x .nilIface = some (.inr flaw) := rfl
theorem uT {a0 : Scope_looker} {n z : Int} {x : ScopeNode} {v : Value} {k : Int} (hn : iO v = some false) (hk : mW v = some k) (h : ¬ (x.Kids.length : Int) = k) : iQ m a0 n z x v = some (.inr flaw) := by
 rw [iQ, hn, bsm, show (!false) = true from rfl, cond_true, hk, bsm, decide_eq_false h, dJ]; rfl
theorem aDh {a0 : Scope_looker} {n z : Int} {x : ScopeNode} {k : Int} (h : (x.Kids.length : Int) = k) : iQ m a0 n z x (.iface 197 (.int .i64 k)) = if x.N = 0 then lP m a0 n z x 0 else some (.inr flaw) := by
 rw [iQ, show iO (.iface 197 (.int .i64 k)) = some false from rfl, bsm, show (!false) = true from rfl, cond_true, show mW (.iface 197 (.int .i64 k)) = some k from rfl, bsm, decide_eq_true h, eU, bsm, bsm]
 dsimp only
 rw [show eQ 190 (.agg #[]) (.iface 197 (.int .i64 k)) = some (.agg #[], false) from rfl, bsm]
 dsimp only
 rw [cond_false, show eQ 191 (.agg #[]) (.iface 197 (.int .i64 k)) = some (.agg #[], false) from rfl, bsm]
 dsimp only
 rw [cond_false, show eQ 192 (.agg #[]) (.iface 197 (.int .i64 k)) = some (.agg #[], false) from rfl, bsm]
 dsimp only
 rw [cond_false, show eQ 193 (.agg #[]) (.iface 197 (.int .i64 k)) = some (.agg #[], false) from rfl, bsm]
 dsimp only
 rw [cond_false]
 by_cases h0 : x.N = 0
 ·rw [decide_eq_true h0, eU, if_pos h0]; rfl
 ·rw [decide_eq_false h0, dJ, if_neg h0]; rfl
theorem aF0 {a0 : Scope_looker} {n z : Int} {x : ScopeNode} (h : (x.Kids.length : Int) = 0) : iQ m a0 n z x (.iface 190 (.agg ⟨[]⟩)) = if 0 ≤ x.N ∧ x.N < z then lP m a0 n z x (min (x.Args.length : Int) 3) else some (.inr flaw) := by
 rw [iQ, show iO (.iface 190 (.agg ⟨[]⟩)) = some false from rfl, bsm, show (!false) = true from rfl, cond_true, show mW (.iface 190 (.agg ⟨[]⟩)) = some 0 from rfl, bsm, decide_eq_true h, eU, bsm, bsm]
 dsimp only
 rw [show eQ 190 (.agg #[]) (.iface 190 (.agg ⟨[]⟩)) = some (.agg #[], true) from rfl, bsm]
 dsimp only
 rw [cond_true]
 by_cases h0 : 0 ≤ x.N
 ·rw [if_pos h0]
  by_cases h1 : x.N < z
  ·rw [decide_eq_true h1, eU, if_pos ⟨h0, h1⟩]; rfl
  ·rw [decide_eq_false h1, dJ, if_neg (fun q => h1 q.2)]; rfl
 ·rw [if_neg h0, dJ, if_neg (fun q => h0 q.1)]; rfl
theorem aFs {a0 : Scope_looker} {n z : Int} {x : ScopeNode} (h : (x.Kids.length : Int) = 1) : iQ m a0 n z x (.iface 191 (.agg ⟨[]⟩)) = if 0 ≤ x.N ∧ x.N < z then lP m a0 n z x 0 else some (.inr flaw) := by
 rw [iQ, show iO (.iface 191 (.agg ⟨[]⟩)) = some false from rfl, bsm, show (!false) = true from rfl, cond_true, show mW (.iface 191 (.agg ⟨[]⟩)) = some 1 from rfl, bsm, decide_eq_true h, eU, bsm, bsm]
 dsimp only
 rw [show eQ 190 (.agg #[]) (.iface 191 (.agg ⟨[]⟩)) = some (.agg #[], false) from rfl, bsm]
 dsimp only
 rw [cond_false, show eQ 191 (.agg #[]) (.iface 191 (.agg ⟨[]⟩)) = some (.agg #[], true) from rfl, bsm]
 dsimp only
 rw [cond_true]
 by_cases h0 : 0 ≤ x.N
 ·rw [if_pos h0]
  by_cases h1 : x.N < z
  ·rw [decide_eq_true h1, eU, if_pos ⟨h0, h1⟩]; rfl
  ·rw [decide_eq_false h1, dJ, if_neg (fun q => h1 q.2)]; rfl
 ·rw [if_neg h0, dJ, if_neg (fun q => h0 q.1)]; rfl
theorem aFY {a0 : Scope_looker} {n z : Int} {x : ScopeNode} (h : (x.Kids.length : Int) = 2) : iQ m a0 n z x (.iface 193 (.agg ⟨[]⟩)) = if x.N = 0 then lP m a0 n z x 1 else some (.inr flaw) := by
 rw [iQ, show iO (.iface 193 (.agg ⟨[]⟩)) = some false from rfl, bsm, show (!false) = true from rfl, cond_true, show mW (.iface 193 (.agg ⟨[]⟩)) = some 2 from rfl, bsm, decide_eq_true h, eU, bsm, bsm]
 dsimp only
 rw [show eQ 190 (.agg #[]) (.iface 193 (.agg ⟨[]⟩)) = some (.agg #[], false) from rfl, bsm]
 dsimp only
 rw [cond_false, show eQ 191 (.agg #[]) (.iface 193 (.agg ⟨[]⟩)) = some (.agg #[], false) from rfl, bsm]
 dsimp only
 rw [cond_false, show eQ 192 (.agg #[]) (.iface 193 (.agg ⟨[]⟩)) = some (.agg #[], false) from rfl, bsm]
 dsimp only
 rw [cond_false, show eQ 193 (.agg #[]) (.iface 193 (.agg ⟨[]⟩)) = some (.agg #[], true) from rfl, bsm]
 dsimp only
 rw [cond_true]
 by_cases h0 : x.N = 0
 ·rw [decide_eq_true h0, eU, if_pos h0]; rfl
 ·rw [decide_eq_false h0, dJ, if_neg h0]; rfl
theorem aFw {s : VS} (hs : WS p s) {n z : Int} {x : ScopeNode} (h : (x.Kids.length : Int) = 1) : iQ m ⟨p, s.sz, s.met, s.dfs⟩ n z x (.iface 192 (.agg ⟨[]⟩)) = if 0 ≤ x.N ∧ x.N < (p.Defs.length : Int) ∧ idx s.dfs x.N = some false then lP m ⟨p, s.sz, s.met, s.dfs⟩ n z x 0 else some (.inr flaw) := by
 rw [iQ, show iO (.iface 192 (.agg ⟨[]⟩)) = some false from rfl, bsm, show (!false) = true from rfl, cond_true, show mW (.iface 192 (.agg ⟨[]⟩)) = some 1 from rfl, bsm, decide_eq_true h, eU, bsm, bsm]
 dsimp only
 rw [show eQ 190 (.agg #[]) (.iface 192 (.agg ⟨[]⟩)) = some (.agg #[], false) from rfl, bsm]
 dsimp only
 rw [cond_false, show eQ 191 (.agg #[]) (.iface 192 (.agg ⟨[]⟩)) = some (.agg #[], false) from rfl, bsm]
 dsimp only
 rw [cond_false, show eQ 192 (.agg #[]) (.iface 192 (.agg ⟨[]⟩)) = some (.agg #[], true) from rfl, bsm]
 dsimp only
 rw [cond_true]
 by_cases h0 : 0 ≤ x.N
 ·rw [if_pos h0]
  by_cases h1 : x.N < (p.Defs.length : Int)
  ·obtain ⟨b, hb⟩ := dH (xs := s.dfs) h0 (by rw [hs.dfs]; exact h1)
   rw [if_pos h1, hb, bsm]
   cases b with
   | false => rw [if_pos ⟨h0, h1, rfl⟩]; rfl
   | true => rw [if_neg (fun q => by cases q.2.2)]; rfl
  ·rw [if_neg h1, dJ, if_neg (fun q => h1 q.2.1)]; rfl
 ·rw [if_neg h0, dJ, if_neg (fun q => h0 q.1)]; rfl
theorem vis_go {s : VS} {n z : Int} {x : ScopeNode} (h : 0 ≤ n ∧ n < (p.Nodes.length : Int) ∧ idx s.met n = some false) (hx : idx p.Nodes n = some x) : (okN p s x z → vis p (f + 1) s n z = aZ p f s n z x) ∧ (¬ okN p s x z → vis p (f + 1) s n z = none) := by
 constructor
 ·intro ho
  simp only [vis]
  rw [if_pos h, hx, bsm, if_pos ho]; rfl
 ·intro ho
  simp only [vis]
  rw [if_pos h, hx, bsm, if_neg ho]
theorem node_go (hp : SmP p) (hm : 3000000 ≤ m) (hv : Vis p f (fF m)) {s : VS} (hs : WS p s) {n z : Int} (hu : unm s ≤ f + 1) (hz : 0 ≤ z ∧ z + 69 + 80 * f ≤ 100000) (h : 0 ≤ n ∧ n < (p.Nodes.length : Int) ∧ idx s.met n = some false) :
  fF (m + 1) ⟨p, s.sz, s.met, s.dfs⟩ n z = some (kM p (vis p (f + 1) s n z)) := by
 obtain ⟨x, hx⟩ := dH h.1 h.2.1
 obtain ⟨v1, v2⟩ := vis_go (f := f) (z := z) h hx
 have hun : ∀ dfs, unm ⟨s.sz.set n.toNat z, s.met.set n.toNat true, dfs⟩ ≤ f := fun dfs => by
  have := aBe (p := p) (z := z) (dfs := dfs) h.1 h.2.2; omega
 have hN : ∀ {c k : Nat}, shp x.Op = some (k, c) → okM p s x z c → x.Op = 4 → 0 ≤ x.N ∧ x.N < (p.Defs.length : Int) := fun {c k} h1 h2 h4 => by
  rw [h4] at h1
  have : (1, 4) = (k, c) := Option.some.inj h1
  cases this; exact ⟨h2.1.1, h2.1.2.1⟩
 have fin : ∀ {k c : Nat} (x2 : Int), shp x.Op = some (k, c) → (x.Kids.length : Int) = k → ((x.Args.length : Int) = x2 → okM p s x z c) → (okM p s x z c → (x.Args.length : Int) = x2) → lP m ⟨p, s.sz, s.met, s.dfs⟩ n z x x2 = some (kM p (vis p (f + 1) s n z)) := fun {k c} x2 h1 h2 h3 h4 => by
  by_cases ha : (x.Args.length : Int) = x2
  ·rw [tail_eq hp hm hv hs (eD hx) hun hz (hN h1 (h3 ha)) ha]
   congr 2
   by_cases hall : x.Args.all (okE z) = true
   ·rw [if_pos hall, v1 ⟨⟨k, c, h1, by omega, h3 ha⟩, hall⟩]
   ·rw [if_neg hall, v2 (fun q => hall q.2)]
  ·rw [tail_bad ha, v2]; rfl
   rintro ⟨⟨k', c', g1, _, g3⟩, _⟩
   rw [h1] at g1; cases g1
   exact ha (h4 g3)
 have bad : ∀ {k c : Nat}, shp x.Op = some (k, c) → ¬ ((x.Kids.length : Int) = k ∧ okM p s x z c) → some (kM p (vis p (f + 1) s n z)) = some (.inr flaw) := fun {k c} h1 h2 => by
  rw [v2]; rfl
  rintro ⟨⟨k', c', g1, g2, g3⟩, _⟩
  rw [h1] at g1; cases g1
  exact h2 ⟨by omega, g3⟩
 by_cases o1 : x.Op = 1 ∨ x.Op = 7
 ·have hsh : shp x.Op = some (0, 0) := by unfold shp; rw [if_pos o1]
  rw [rM hs h hx (aFK o1)]
  by_cases hk : (x.Kids.length : Int) = 0
  ·rw [aDh hk]
   by_cases hn : x.N = 0
   ·rw [if_pos hn]; exact fin 0 hsh hk (fun q => ⟨hn, by omega⟩) (fun q => by have := q.2; omega)
   ·rw [if_neg hn, bad hsh (fun q => hn q.2.1)]
  ·rw [uT rfl rfl hk, bad hsh (fun q => hk q.1)]
 ·by_cases o3 : x.Op = 3
  ·have hsh : shp x.Op = some (2, 0) := by unfold shp; rw [if_neg o1, if_pos o3]
   rw [rM hs h hx (by rw [o3]; exact aHT)]
   by_cases hk : (x.Kids.length : Int) = 2
   ·rw [aDh hk]
    by_cases hn : x.N = 0
    ·rw [if_pos hn]; exact fin 0 hsh hk (fun q => ⟨hn, by omega⟩) (fun q => by have := q.2; omega)
    ·rw [if_neg hn, bad hsh (fun q => hn q.2.1)]
   ·rw [uT rfl rfl hk, bad hsh (fun q => hk q.1)]
  ·by_cases o2 : x.Op = 2
   ·have hsh : shp x.Op = some (0, 1) := by unfold shp; rw [if_neg o1, if_neg o3, if_pos o2]
    rw [rM hs h hx (by rw [o2]; exact aGN)]
    by_cases hk : (x.Kids.length : Int) = 0
    ·rw [aF0 hk]
     by_cases hn : 0 ≤ x.N ∧ x.N < z
     ·rw [if_pos hn]; exact fin _ hsh hk (fun q => ⟨hn, by omega⟩) (fun q => by have := q.2; omega)
     ·rw [if_neg hn, bad hsh (fun q => hn q.2.1)]
    ·rw [uT rfl rfl hk, bad hsh (fun q => hk q.1)]
   ·by_cases o5 : x.Op = 5
    ·have hsh : shp x.Op = some (2, 2) := by unfold shp; rw [if_neg o1, if_neg o3, if_neg o2, if_pos o5]
     rw [rM hs h hx (by rw [o5]; exact aGe)]
     by_cases hk : (x.Kids.length : Int) = 2
     ·rw [aFY hk]
      by_cases hn : x.N = 0
      ·rw [if_pos hn]; exact fin 1 hsh hk (fun q => ⟨hn, by omega⟩) (fun q => by have := q.2; omega)
      ·rw [if_neg hn, bad hsh (fun q => hn q.2.1)]
     ·rw [uT rfl rfl hk, bad hsh (fun q => hk q.1)]
    ·by_cases o6 : x.Op = 6 ∨ x.Op = 8
     ·have hsh : shp x.Op = some (1, 3) := by unfold shp; rw [if_neg o1, if_neg o3, if_neg o2, if_neg o5, if_pos o6]
      rw [rM hs h hx (aHL o6)]
      by_cases hk : (x.Kids.length : Int) = 1
      ·rw [aFs hk]
       by_cases hn : 0 ≤ x.N ∧ x.N < z
       ·rw [if_pos hn]; exact fin 0 hsh hk (fun q => ⟨hn, by omega⟩) (fun q => by have := q.2; omega)
       ·rw [if_neg hn, bad hsh (fun q => hn q.2.1)]
      ·rw [uT rfl rfl hk, bad hsh (fun q => hk q.1)]
     ·by_cases o4 : x.Op = 4
      ·have hsh : shp x.Op = some (1, 4) := by unfold shp; rw [if_neg o1, if_neg o3, if_neg o2, if_neg o5, if_neg o6, if_pos o4]
       rw [rM hs h hx (by rw [o4]; exact aFD)]
       by_cases hk : (x.Kids.length : Int) = 1
       ·rw [aFw hs hk]
        by_cases hn : 0 ≤ x.N ∧ x.N < (p.Defs.length : Int) ∧ idx s.dfs x.N = some false
        ·rw [if_pos hn]; exact fin 0 hsh hk (fun q => ⟨hn, by omega⟩) (fun q => by have := q.2; omega)
        ·rw [if_neg hn, bad hsh (fun q => hn q.2.1)]
       ·rw [uT rfl rfl hk, bad hsh (fun q => hk q.1)]
      ·have hsh : shp x.Op = none := by unfold shp; rw [if_neg o1, if_neg o3, if_neg o2, if_neg o5, if_neg o6, if_neg o4]
       rw [rM hs h hx (aGR hsh), mid_nil, v2]; rfl
       rintro ⟨⟨k', c', g1, _⟩, _⟩
       rw [hsh] at g1; cases g1
end
theorem yA {p : ScopeProg} {f : Nat} {s : VS} {n z : Int} (h : ¬ (0 ≤ n ∧ n < (p.Nodes.length : Int) ∧ idx s.met n = some false)) : vis p f s n z = none := by
 cases f with
 | zero => rfl
 | succ f => simp only [vis]; rw [if_neg h]
theorem aE6 {s : VS} {n : Int} (h : idx s.met n = some false) : 0 < unm s := List.countP_pos_iff.2 ⟨false, eD h, rfl⟩
theorem pvis {p : ScopeProg} (hp : SmP p) {b : Nat} (hb : 3000000 ≤ b) (f : Nat) : Vis p f (fF (b + f + 1)) := by
 induction f with
 | zero =>
  refine ⟨fun s n z hs hu h0 h1 => ?_⟩
  have h : ¬ (0 ≤ n ∧ n < (p.Nodes.length : Int) ∧ idx s.met n = some false) := fun q => by have := aE6 q.2.2; omega
  rw [aDJ hs h, yA h]; rfl
 | succ f ih =>
  refine ⟨fun s n z hs hu h0 h1 => ?_⟩
  by_cases h : 0 ≤ n ∧ n < (p.Nodes.length : Int) ∧ idx s.met n = some false
  ·exact node_go hp (m := b + f + 1) (by omega) ih hs hu ⟨h0, by omega⟩ h
  ·rw [aDJ hs h, yA h]; rfl
end Go.Proofs.YtmnbfgeljmhekaaGreat
set_option maxRecDepth 100000
namespace Go.Proofs.YtmnbfgeljmhekaaGreat
open Go.SX Go.SW Go.Dt
def ob (l : List Bool) : List Int := l.map fun b => if b = true then 1 else 0
theorem iY {l : List Bool} : (ob l).length = l.length := by simp [ob]
theorem aBl {l : List Bool} {i : Int} {b : Bool} (h : idx l i = some b) : idx (ob l) i = some (if b = true then 1 else 0) := by
 obtain ⟨j, rfl, hj, _⟩ := uM h
 exact cZ (by simp [ob, hj])
theorem ob_set {l : List Bool} {i : Nat} : ob (l.set i true) = (ob l).set i 1 := by simp [ob, List.map_set]
theorem ob_rep {n : Nat} : ob (List.replicate n false) = List.replicate n 0 := by simp [ob]
def ROut (p : ScopeProg) (o : Option VS) (L : Ref03_look) : Prop := match o with
 | some s => L = ⟨p, s.sz, ob s.met, ob s.dfs, false⟩
 | none => L.bad = true ∧ L.owner.length = p.Nodes.length ∧ L.users.length = p.Defs.length
structure RVis (p : ScopeProg) (f : Nat) (rec : Ref03_look → Int → Int → Option Ref03_look) : Prop where
 run : ∀ (s : VS) (n z : Int), WS p s → unm s ≤ f → 0 ≤ z → z + 80 * f ≤ 100000 → ∃ L, rec ⟨p, s.sz, ob s.met, ob s.dfs, false⟩ n z = some L ∧ ROut p (vis p f s n z) L
theorem aFF {ch : List ScopeChan} {sp : List ScopeSpot} {ru : List ScopeRule} {a nd : Int} (suf : List Int) : ∀ (pre : List Int) (k : Nat) (w : Int), suf.length < k → pre.length + suf.length ≤ 1000 → 0 ≤ w → w ≤ 100000 → (∀ c ∈ suf, ∃ y, idx ch c = some y ∧ 0 ≤ y.Many ∧ y.Many ≤ 3) → w + 3 * suf.length ≤ 100000 →
  oQ ⟨ch, sp, ru⟩ ⟨a, pre ++ suf, nd⟩ k w pre.length = some (w + brs ch suf) := by
 induction suf with
 | nil =>
  intro pre k w hk _ _ _ _ _
  obtain _ | k := k
  ·omega
  rw [oQ, if_neg (by simp)]; simp [brs]
 | cons e suf ih =>
  intro pre k w hk hB h0 h1 hm hw
  obtain _ | k := k
  ·omega
  simp only [List.length_cons] at hk hB hw
  obtain ⟨y, g1, g2, g3⟩ := hm e (.head _)
  rw [oQ, if_pos (cJ _ _ _)]
  dsimp only
  rw [cL, bsm, g1, bsm, aV (by omega), bsm, aV (by omega), bsm, cN pre suf e, bZ pre e, ih (pre ++ [e]) k _ (by omega) (by simp; omega) (by omega) (by omega) (fun c hc => hm c (.tail _ hc)) (by omega)]
  simp only [brs, g1]; congr 1; omega
theorem more_eq {fuel : Nat} {d : ScopeDef} {r : ScopeRule} (hf : 3000 ≤ fuel) (h : okD d = true) (hr : r ∈ d.Rules) : xJ fuel d r = some (brs d.Chans r.Joins) := by
 obtain ⟨_, _, _, _, h5⟩ := dV h
 obtain ⟨g1, g2⟩ := h5 r hr
 have := aFF (ch := d.Chans) (sp := d.Spots) (ru := d.Rules) (a := r.At) (nd := r.Node) r.Joins [] fuel 0 (by omega) (by simp; omega) (by omega) (by omega) g2 (by omega)
 simp only [List.nil_append, List.length_nil, Int.natCast_zero] at this
 rw [xJ, this, bsm]; congr 1; omega
theorem rA {rec : Ref03_look → Int → Int → Option Ref03_look} {y : ScopeNode} {z i : Int} {k : Nat} {a : List ByteArray} {b : List ScopeNode} {c : List ScopeDef} {d : Int} {sz ow us : List Int} :
  jG rec y z (k + 1) i a b c d sz ow us true = some ⟨⟨a, b, c, d⟩, sz, ow, us, true⟩ := by
 rw [jG]; split
 ·rw [cond_true]
 ·rfl
theorem d1_bad {fuel : Nat} {rec : Ref03_look → Int → Int → Option Ref03_look} {y : ScopeDef} {z i : Int} {k : Nat} {a : List ByteArray} {b : List ScopeNode} {c : List ScopeDef} {d : Int} {sz ow us : List Int} :
  lB fuel rec y z (k + 1) i a b c d sz ow us true = some (a, b, c, d, sz, ow, us, true) := by
 rw [lB]; split
 ·rw [cond_true]
 ·rfl
theorem aBk {rec : Ref03_look → Int → Int → Option Ref03_look} {y : ScopeDef} {z i : Int} {k : Nat} {a : List ByteArray} {b : List ScopeNode} {c : List ScopeDef} {d : Int} {sz ow us : List Int} :
  lK rec y z (k + 1) i a b c d sz ow us true = some ⟨⟨a, b, c, d⟩, sz, ow, us, true⟩ := by
 rw [lK]; split
 ·rw [cond_true]
 ·rfl
section
variable {p : ScopeProg} {f : Nat} {rec : Ref03_look → Int → Int → Option Ref03_look}
theorem rk2 (hv : RVis p f rec) {op nn : Int} {ar : List ScopeExp} {z : Int} (hz : 0 ≤ z ∧ z + 80 * f ≤ 100000) (suf : List Int) : ∀ (pre : List Int) (k : Nat) (s : VS), suf.length < k → pre.length + suf.length ≤ 3000000 → WS p s → unm s ≤ f →
  ∃ L, jG rec ⟨op, nn, ar, pre ++ suf⟩ z k pre.length p.Free p.Nodes p.Defs p.Main s.sz (ob s.met) (ob s.dfs) false = some L ∧ ROut p (dF (vis p f) s (suf.map fun k => (k, z))) L := by
 induction suf with
 | nil =>
  intro pre k s hk _ hs hu
  obtain _ | k := k
  ·omega
  exact ⟨_, by rw [jG, if_neg (by simp)], rfl⟩
 | cons e suf ih =>
  intro pre k s hk hB hs hu
  obtain _ | k := k
  ·omega
  simp only [List.length_cons] at hk hB
  obtain ⟨L, h1, h2⟩ := hv.run s e z hs hu hz.1 hz.2
  rw [jG, if_pos (cJ _ _ _), cond_false]
  dsimp only
  rw [cL, bsm, show (⟨⟨p.Free, p.Nodes, p.Defs, p.Main⟩, s.sz, ob s.met, ob s.dfs, false⟩ : Ref03_look) = ⟨p, s.sz, ob s.met, ob s.dfs, false⟩ from rfl, h1, bsm, aV (by omega), bsm, cN pre suf e, bZ pre e]
  simp only [List.map_cons, dF]
  cases hc : vis p f s e z with
  | none =>
   rw [hc] at h2
   obtain ⟨g1, g2, g3⟩ := h2
   obtain _ | k := k
   ·omega
   rw [g1, rA]
   exact ⟨_, rfl, rfl, g2, g3⟩
  | some s1 =>
   rw [hc] at h2
   have h2 : L = _ := h2
   subst h2
   obtain ⟨w1, u1⟩ := (visO p f).out _ _ _ _ hs hu hc
   rw [bsm]
   exact ih (pre ++ [e]) k s1 (by omega) (by simp; omega) w1 (by omega)
theorem rd2 (hv : RVis p f rec) {ch : List ScopeChan} {ru : List ScopeRule} {z : Int} (hz : 0 ≤ z ∧ z + 80 * f ≤ 100000) (suf : List ScopeSpot) : ∀ (pre : List ScopeSpot) (k : Nat) (s : VS), suf.length < k → pre.length + suf.length ≤ 3000000 → WS p s → unm s ≤ f →
  ∃ L, lK rec ⟨ch, pre ++ suf, ru⟩ z k pre.length p.Free p.Nodes p.Defs p.Main s.sz (ob s.met) (ob s.dfs) false = some L ∧ ROut p (dF (vis p f) s (suf.map fun y => (y.Node, z))) L := by
 induction suf with
 | nil =>
  intro pre k s hk _ hs hu
  obtain _ | k := k
  ·omega
  exact ⟨_, by rw [lK, if_neg (by simp)], rfl⟩
 | cons e suf ih =>
  intro pre k s hk hB hs hu
  obtain _ | k := k
  ·omega
  simp only [List.length_cons] at hk hB
  obtain ⟨L, h1, h2⟩ := hv.run s e.Node z hs hu hz.1 hz.2
  rw [lK, if_pos (cJ _ _ _), cond_false]
  dsimp only
  rw [cL, bsm, show (⟨⟨p.Free, p.Nodes, p.Defs, p.Main⟩, s.sz, ob s.met, ob s.dfs, false⟩ : Ref03_look) = ⟨p, s.sz, ob s.met, ob s.dfs, false⟩ from rfl, h1, bsm, aV (by omega), bsm, cN pre suf e, bZ pre e]
  simp only [List.map_cons, dF]
  cases hc : vis p f s e.Node z with
  | none =>
   rw [hc] at h2
   obtain ⟨g1, g2, g3⟩ := h2
   obtain _ | k := k
   ·omega
   rw [g1, aBk]
   exact ⟨_, rfl, rfl, g2, g3⟩
  | some s1 =>
   rw [hc] at h2
   have h2 : L = _ := h2
   subst h2
   obtain ⟨w1, u1⟩ := (visO p f).out _ _ _ _ hs hu hc
   rw [bsm]
   exact ih (pre ++ [e]) k s1 (by omega) (by simp; omega) w1 (by omega)
abbrev T8 := List ByteArray × List ScopeNode × List ScopeDef × Int × List Int × List Int × List Int × Bool
def ROut8 (p : ScopeProg) (o : Option VS) (t : T8) : Prop := match o with
 | some s => t = (p.Free, p.Nodes, p.Defs, p.Main, s.sz, ob s.met, ob s.dfs, false)
 | none => t.2.2.2.2.2.2.2 = true ∧ t.2.2.2.2.2.1.length = p.Nodes.length ∧ t.2.2.2.2.2.2.1.length = p.Defs.length
theorem rd1 (hv : RVis p f rec) {fuel : Nat} {d : ScopeDef} (hd : okD d = true) (hf : 3000 ≤ fuel) {z : Int} (hz : 0 ≤ z ∧ z + 9 + 80 * f ≤ 100000) (suf : List ScopeRule) : ∀ (pre : List ScopeRule) (k : Nat) (s : VS), d.Rules = pre ++ suf → suf.length < k → pre.length + suf.length ≤ 3000000 → WS p s → unm s ≤ f →
  ∃ t, lB fuel rec d z k pre.length p.Free p.Nodes p.Defs p.Main s.sz (ob s.met) (ob s.dfs) false = some t ∧ ROut8 p (dF (vis p f) s (suf.map fun r => (r.Node, z + brs d.Chans r.Joins))) t := by
 induction suf with
 | nil =>
  intro pre k s he hk _ hs hu
  obtain _ | k := k
  ·omega
  exact ⟨_, by rw [lB, he, if_neg (by simp)], rfl⟩
 | cons e suf ih =>
  intro pre k s he hk hB hs hu
  obtain _ | k := k
  ·omega
  simp only [List.length_cons] at hk hB
  have hmem : e ∈ d.Rules := by rw [he]; simp
  obtain ⟨_, _, _, _, h5⟩ := dV hd
  obtain ⟨g1, g2⟩ := h5 e hmem
  have hb := sY g2
  obtain ⟨L, h1, h2⟩ := hv.run s e.Node (z + brs d.Chans e.Joins) hs hu (by omega) (by omega)
  rw [lB, he, if_pos (cJ _ _ _), ← he, cond_false, show idx d.Rules (pre.length : Int) = some e from by rw [he]; exact cL _ _ _, bsm, bsm,
   show (⟨d.Chans, d.Spots, d.Rules⟩ : ScopeDef) = d from rfl, more_eq hf hd hmem, bsm, aV (by omega), bsm,
   show (⟨⟨p.Free, p.Nodes, p.Defs, p.Main⟩, s.sz, ob s.met, ob s.dfs, false⟩ : Ref03_look) = ⟨p, s.sz, ob s.met, ob s.dfs, false⟩ from rfl, h1, bsm, aV (by omega), bsm, bZ pre e]
  simp only [List.map_cons, dF]
  cases hc : vis p f s e.Node (z + brs d.Chans e.Joins) with
  | none =>
   rw [hc] at h2
   obtain ⟨g1, g2, g3⟩ := h2
   obtain _ | k := k
   ·omega
   rw [g1, d1_bad]
   exact ⟨_, rfl, rfl, g2, g3⟩
  | some s1 =>
   rw [hc] at h2
   have h2 : L = _ := h2
   subst h2
   obtain ⟨w1, u1⟩ := (visO p f).out _ _ _ _ hs hu hc
   rw [bsm]
   exact ih (pre ++ [e]) k s1 (by rw [he]; simp) (by omega) (by simp; omega) w1 (by omega)
theorem rdef {m : Nat} (hv : RVis p f (eS m)) {d : ScopeDef} (hd : okD d = true) (hsm : smD d) (hm : 3000000 ≤ m) {z : Int} (hz : 0 ≤ z ∧ z + 9 + 80 * f ≤ 100000) {s : VS} (hs : WS p s) (hu : unm s ≤ f) :
  ∃ L, pX (m + 1) ⟨p, s.sz, ob s.met, ob s.dfs, false⟩ d z = some L ∧ ROut p ((dF (vis p f) s (d.Rules.map fun r => (r.Node, z + brs d.Chans r.Joins))).bind fun s1 => dF (vis p f) s1 (d.Spots.map fun y => (y.Node, z))) L := by
 obtain ⟨c1, c2, c3, _⟩ := hsm
 obtain ⟨t, h1, h2⟩ := rd1 hv hd (fuel := m) (by omega) hz d.Rules [] m s rfl (by omega) (by simp; omega) hs hu
 simp only [List.length_nil, Int.natCast_zero] at h1
 rw [pX, h1, bsm]
 cases hc : dF (vis p f) s (d.Rules.map fun r => (r.Node, z + brs d.Chans r.Joins)) with
 | none =>
  rw [hc] at h2
  obtain ⟨a, b, c, e, sz, ow, us, bd⟩ := t
  obtain ⟨g1, g2, g3⟩ := h2
  dsimp only at g1 g2 g3
  subst g1
  obtain ⟨m, rfl⟩ : ∃ k, m = k + 1 := ⟨m - 1, by omega⟩
  dsimp only
  rw [aBk]
  exact ⟨_, rfl, rfl, g2, g3⟩
 | some s1 =>
  rw [hc] at h2
  have h2 : t = _ := h2
  subst h2
  obtain ⟨w1, u1⟩ := nX (visO p f) _ _ _ hs hu hc
  obtain ⟨L, h3, h4⟩ := rd2 hv (ch := d.Chans) (ru := d.Rules) (z := z) ⟨by omega, by omega⟩ d.Spots [] m s1 (by omega) (by simp; omega) w1 (by omega)
  simp only [List.nil_append, List.length_nil, Int.natCast_zero] at h3
  exact ⟨L, h3, h4⟩
theorem rdef_bad {m : Nat} (hm : 0 < m) {L : Ref03_look} (hb : L.bad = true) {d : ScopeDef} {z : Int} : pX (m + 1) L d z = some L := by
 obtain ⟨k, rfl⟩ : ∃ k, m = k + 1 := ⟨m - 1, by omega⟩
 obtain ⟨q, sz, ow, us, bd⟩ := L
 dsimp only at hb
 subst hb
 rw [pX]
 dsimp only
 rw [d1_bad, bsm]
 dsimp only
 rw [aBk]
end
theorem rn1_bad {fuel : Nat} {op nn : Int} {ks : List Int} {z : Int} (suf : List ScopeExp) : ∀ (pre : List ScopeExp) (k : Nat), suf.length < k → pre.length + suf.length ≤ 3000000 →
  jO fuel z ⟨op, nn, pre ++ suf, ks⟩ k pre.length true = some true := by
 induction suf with
 | nil =>
  intro pre k hk _
  obtain _ | k := k
  ·omega
  rw [jO, if_neg (by simp)]
 | cons e suf ih =>
  intro pre k hk hB
  obtain _ | k := k
  ·omega
  simp only [List.length_cons] at hk hB
  rw [jO, if_pos (cJ _ _ _), cond_true, bsm, aV (by omega), bsm, cN pre suf e, bZ pre e]
  exact ih (pre ++ [e]) k (by omega) (by simp; omega)
theorem rn1 {fuel : Nat} (hf : 3000000 ≤ fuel) {op nn : Int} {ks : List Int} {z : Int} (suf : List ScopeExp) : ∀ (pre : List ScopeExp) (k : Nat), suf.length < k → pre.length + suf.length ≤ 3000000 → (∀ e ∈ suf, nE e ≤ 2000000) →
  jO fuel z ⟨op, nn, pre ++ suf, ks⟩ k pre.length false = some (!suf.all (okE z)) := by
 induction suf with
 | nil =>
  intro pre k hk _ _
  obtain _ | k := k
  ·omega
  rw [jO, if_neg (by simp)]; rfl
 | cons e suf ih =>
  intro pre k hk hB he
  obtain _ | k := k
  ·omega
  simp only [List.length_cons] at hk hB
  have hn := he e (.head _)
  rw [jO, if_pos (cJ _ _ _), cond_false, show (e :: suf).all (okE z) = (okE z e && suf.all (okE z)) from rfl]
  dsimp only
  rw [cL, bsm, aId (by omega) (by omega), bsm, bsm, aV (by omega), bsm, cN pre suf e, bZ pre e]
  cases h1 : okE z e with
  | false => exact rn1_bad suf (pre ++ [e]) k (by omega) (by simp; omega)
  | true =>
   rw [Bool.true_and]
   exact ih (pre ++ [e]) k (by omega) (by simp; omega) (fun x hx => he x (.tail _ hx))
end Go.Proofs.YtmnbfgeljmhekaaGreat
set_option maxRecDepth 100000
namespace Go.Proofs.YtmnbfgeljmhekaaGreat
open Go.SX Go.SW Go.Dt
def tailR (fuel : Nat) (a0 : Ref03_look) (a1 a2 z1 : Int) (y5 : ScopeNode) : Option Ref03_look :=
 (jO fuel a2 y5 fuel 0 a0.bad).bind fun x1 =>
 ((if y5.Op = 2 then
  some (decide (y5.Op = 2))
 else
  if y5.Op = 6 then
   some (decide (y5.Op = 6))
  else
   some (decide (y5.Op = 8))).bind fun x16 =>
 bif x16 then
  bif x1 then
   some (Sum.inl (a2, a0.p.Free, a0.p.Nodes, a0.p.Defs, a0.p.Main, a0.sizes.set a1.toNat a2, a0.owner.set a1.toNat z1, a0.users, true))
  else
   if y5.N < 0 then
    some (Sum.inl (a2, a0.p.Free, a0.p.Nodes, a0.p.Defs, a0.p.Main, a0.sizes.set a1.toNat a2, a0.owner.set a1.toNat z1, a0.users, true))
   else
    some (Sum.inl (a2, a0.p.Free, a0.p.Nodes, a0.p.Defs, a0.p.Main, a0.sizes.set a1.toNat a2, a0.owner.set a1.toNat z1, a0.users, decide (a2 ≤ y5.N)))
 else
  if y5.Op = 4 then
   if y5.N < 0 then
    (some (⟨(⟨a0.p.Free, a0.p.Nodes, a0.p.Defs, a0.p.Main⟩ : ScopeProg), a0.sizes.set a1.toNat a2, a0.owner.set a1.toNat z1, a0.users, true⟩ : Ref03_look)).bind fun r => some (Sum.inr r)
   else
    if (a0.p.Defs.length : Int) ≤ y5.N then
     (some (⟨(⟨a0.p.Free, a0.p.Nodes, a0.p.Defs, a0.p.Main⟩ : ScopeProg), a0.sizes.set a1.toNat a2, a0.owner.set a1.toNat z1, a0.users, true⟩ : Ref03_look)).bind fun r => some (Sum.inr r)
    else
     (idx a0.users y5.N).bind fun y9 =>
     if 0 < y9 then
      (some (⟨(⟨a0.p.Free, a0.p.Nodes, a0.p.Defs, a0.p.Main⟩ : ScopeProg), a0.sizes.set a1.toNat a2, a0.owner.set a1.toNat z1, a0.users, true⟩ : Ref03_look)).bind fun r => some (Sum.inr r)
     else
      (idx a0.users y5.N).bind fun y10 =>
      (chk (y10 + 1)).bind fun z3 =>
      (idx a0.users y5.N).bind fun _ =>
      (idx a0.p.Defs y5.N).bind fun y12 =>
      (tK y12).bind fun y13 =>
      (chk (a2 + y13)).bind fun z4 =>
      (idx a0.p.Defs y5.N).bind fun y14 =>
      ((pX fuel) (⟨(⟨a0.p.Free, a0.p.Nodes, a0.p.Defs, a0.p.Main⟩ : ScopeProg), a0.sizes.set a1.toNat a2, a0.owner.set a1.toNat z1, a0.users.set y5.N.toNat z3, x1⟩ : Ref03_look) y14 z4).bind fun y15 =>
      some (Sum.inl (z4, y15.p.Free, y15.p.Nodes, y15.p.Defs, y15.p.Main, y15.sizes, y15.owner, y15.users, y15.bad))
  else
   bif x1 then
    some (Sum.inl (a2, a0.p.Free, a0.p.Nodes, a0.p.Defs, a0.p.Main, a0.sizes.set a1.toNat a2, a0.owner.set a1.toNat z1, a0.users, true))
   else
    some (Sum.inl (a2, a0.p.Free, a0.p.Nodes, a0.p.Defs, a0.p.Main, a0.sizes.set a1.toNat a2, a0.owner.set a1.toNat z1, a0.users, decide (y5.N ≠ 0)))).bind fun o => match o with
 | Sum.inr r => some r
 | Sum.inl (x7, x8, x9, x10, x11, x12, x13, x14, x15) =>
 jG (eS fuel) y5 x7 fuel 0 x8 x9 x10 x11 x12 x13 x14 x15
theorem rown_eq {d : ScopeDef} (h : d.Chans.length ≤ 2000000) (h2 : d.Spots.length ≤ 2000000) : tK d = some (own d) := by
 rw [tK, aV (by omega), bsm]; rfl
def kN (p : ScopeProg) (s : VS) (x : ScopeNode) (z : Int) : Prop :=
 if x.Op = 2 ∨ x.Op = 6 ∨ x.Op = 8 then 0 ≤ x.N ∧ x.N < z else if x.Op = 4 then 0 ≤ x.N ∧ x.N < (p.Defs.length : Int) ∧ idx s.dfs x.N = some false else x.N = 0
section
variable {p : ScopeProg} {f m : Nat}
theorem jM {q : ScopeProg} {sz ow us : List Int} (h1 : ow.length = p.Nodes.length) (h2 : us.length = p.Defs.length) : ROut p none ⟨q, sz, ow, us, true⟩ := ⟨rfl, h1, h2⟩
open Classical in
theorem tailR_eq (hp : SmP p) (hall : ∀ d ∈ p.Defs, okD d = true) (hm : 3000001 ≤ m) (hv : RVis p f (eS m)) (hv' : RVis p f (eS (m - 1))) {s : VS} (hs : WS p s) {n z : Int} {x : ScopeNode} (hx : x ∈ p.Nodes)
  (hun : ∀ dfs, unm ⟨s.sz.set n.toNat z, s.met.set n.toNat true, dfs⟩ ≤ f) (hz : 0 ≤ z ∧ z + 69 + 80 * f ≤ 100000) :
  ∃ L, tailR m ⟨p, s.sz, ob s.met, ob s.dfs, false⟩ n z 1 x = some L ∧ ROut p (if x.Args.all (okE z) = true ∧ kN p s x z then aZ p f s n z x else none) L := by
 obtain ⟨op, nn, ar, ks⟩ := x
 obtain ⟨g1, g2, g3⟩ := hp.args _ hx
 dsimp only at g1 g2 g3
 obtain ⟨m', rfl⟩ : ∃ k, m = k + 1 := ⟨m - 1, by omega⟩
 simp only [Nat.add_sub_cancel] at hv'
 have e1 := rn1 (fuel := m' + 1) (by omega) (op := op) (nn := nn) (ks := ks) (z := z) ar [] (m' + 1) (by omega) (by simp; omega) g3
 simp only [List.nil_append, List.length_nil, Int.natCast_zero] at e1
 have hsets : (ob s.met).set n.toNat 1 = ob (s.met.set n.toNat true) := ob_set.symm
 have hl1 : ((ob s.met).set n.toNat 1).length = p.Nodes.length := by simp [iY, hs.met]
 have hl2 : (ob s.dfs).length = p.Defs.length := by rw [iY, hs.dfs]
 rw [tailR]
 dsimp only
 rw [e1, bsm]
 have good : ∀ (zz : Int) (s1 : VS), 0 ≤ zz → zz + 80 * f ≤ 100000 → WS p s1 → unm s1 ≤ f → ∃ L, jG (eS (m' + 1)) ⟨op, nn, ar, ks⟩ zz (m' + 1) 0 p.Free p.Nodes p.Defs p.Main s1.sz (ob s1.met) (ob s1.dfs) false = some L ∧ ROut p (dF (vis p f) s1 (ks.map fun k => (k, zz))) L := fun zz s1 a b c d => by
  have := rk2 hv (op := op) (nn := nn) (ar := ar) (z := zz) ⟨a, b⟩ ks [] (m' + 1) s1 (by omega) (by simp; omega) c d
  simpa only [List.nil_append, List.length_nil, Int.natCast_zero] using this
 have w1 := (sZ hs (p := p) (i := n.toNat) (j := 0) (z := z)).1
 have hne4 : op ≠ 4 → aZ p f s n z ⟨op, nn, ar, ks⟩ = dF (vis p f) ⟨s.sz.set n.toNat z, s.met.set n.toNat true, s.dfs⟩ (ks.map fun k => (k, z)) := fun h => by rw [aZ, if_neg h]
 by_cases o2 : op = 2 ∨ op = 6 ∨ op = 8
 ·have hb : ((if op = 2 then some (decide (op = 2)) else if op = 6 then some (decide (op = 6)) else some (decide (op = 8))) : Option Bool) = some true := by
   rcases o2 with rfl | rfl | rfl <;> rfl
  have hk : kN p s ⟨op, nn, ar, ks⟩ z ↔ (0 ≤ nn ∧ nn < z) := by unfold kN; rw [if_pos o2]
  rw [hb, bsm, cond_true]
  cases hall2 : ar.all (okE z) with
  | false =>
   rw [Bool.not_false, cond_true, bsm]
   dsimp only
   rw [rA, if_neg (fun q => by cases q.1)]
   exact ⟨_, rfl, jM hl1 hl2⟩
  | true =>
   rw [Bool.not_true, cond_false]
   by_cases n0 : nn < 0
   ·rw [if_pos n0, bsm]
    dsimp only
    rw [rA, if_neg (fun q => by have := hk.1 q.2; omega)]
    exact ⟨_, rfl, jM hl1 hl2⟩
   ·rw [if_neg n0, bsm]
    dsimp only
    by_cases n1 : z ≤ nn
    ·rw [decide_eq_true n1, rA, if_neg (fun q => by have := hk.1 q.2; omega)]
     exact ⟨_, rfl, jM hl1 hl2⟩
    ·rw [decide_eq_false n1, if_pos ⟨rfl, hk.2 ⟨by omega, by omega⟩⟩, hne4 (by omega), hsets]
     exact good z ⟨s.sz.set n.toNat z, s.met.set n.toNat true, s.dfs⟩ hz.1 (by omega) w1 (hun _)
 ·have hb : ((if op = 2 then some (decide (op = 2)) else if op = 6 then some (decide (op = 6)) else some (decide (op = 8))) : Option Bool) = some false := by
   rw [if_neg (by omega), if_neg (by omega), decide_eq_false (by omega)]
  rw [hb, bsm, cond_false]
  by_cases o4 : op = 4
  ·subst o4
   have hk : kN p s ⟨4, nn, ar, ks⟩ z ↔ (0 ≤ nn ∧ nn < (p.Defs.length : Int) ∧ idx s.dfs nn = some false) := by unfold kN; rw [if_neg o2, if_pos rfl]
   rw [if_pos rfl]
   by_cases n0 : nn < 0
   ·rw [if_pos n0, bsm, bsm]
    dsimp only
    rw [if_neg (fun q => by have := hk.1 q.2; omega)]
    exact ⟨_, rfl, jM hl1 hl2⟩
   ·rw [if_neg n0]
    by_cases n1 : (p.Defs.length : Int) ≤ nn
    ·rw [if_pos n1, bsm, bsm]
     dsimp only
     rw [if_neg (fun q => by have := hk.1 q.2; omega)]
     exact ⟨_, rfl, jM hl1 hl2⟩
    ·rw [if_neg n1]
     obtain ⟨b, hbb⟩ := dH (xs := s.dfs) (show 0 ≤ nn by omega) (by rw [hs.dfs]; omega)
     obtain ⟨d, hd⟩ := dH (xs := p.Defs) (show 0 ≤ nn by omega) (by omega)
     have hok := hall d (eD hd)
     have hsm := hp.dfs d (eD hd)
     obtain ⟨k1, k2, k3, _, _⟩ := dV hok
     have hown : 0 ≤ own d ∧ own d ≤ 60 := by unfold own; omega
     rw [aBl hbb, bsm]
     cases b with
     | true =>
      rw [if_pos rfl, if_pos (by omega), bsm, bsm]
      dsimp only
      rw [if_neg (fun q => by have := (hk.1 q.2).2.2; rw [hbb] at this; cases this)]
      exact ⟨_, rfl, jM hl1 hl2⟩
     | false =>
      have hkk : kN p s ⟨4, nn, ar, ks⟩ z := hk.2 ⟨by omega, by omega, hbb⟩
      rw [if_neg Bool.false_ne_true, if_neg (by omega), bsm, aV (by omega), bsm, bsm, hd, bsm, rown_eq (by omega) (by omega), bsm, aV (by omega), bsm, bsm]
      have hsetd : (ob s.dfs).set nn.toNat (0 + 1) = ob (s.dfs.set nn.toNat true) := ob_set.symm
      have w2 := (sZ hs (p := p) (i := n.toNat) (j := nn.toNat) (z := z)).2
      rw [hsets, hsetd]
      cases hall2 : ar.all (okE z) with
      | false =>
       rw [Bool.not_false, rdef_bad (by omega) rfl, bsm, bsm]
       dsimp only
       rw [rA, if_neg (fun q => by cases q.1)]
       exact ⟨_, rfl, jM (by rw [← hsets]; exact hl1) (by rw [iY]; simp [hs.dfs])⟩
      | true =>
       rw [Bool.not_true, if_pos ⟨rfl, hkk⟩]
       obtain ⟨L, h1, h2⟩ := rdef hv' hok hsm (by omega) (z := z + own d) ⟨by omega, by omega⟩ w2 (hun (s.dfs.set nn.toNat true))
       rw [show (⟨⟨p.Free, p.Nodes, p.Defs, p.Main⟩, s.sz.set n.toNat z, ob (s.met.set n.toNat true), ob (s.dfs.set nn.toNat true), false⟩ : Ref03_look) = ⟨p, s.sz.set n.toNat z, ob (s.met.set n.toNat true), ob (s.dfs.set nn.toNat true), false⟩ from rfl, h1, bsm, bsm]
       dsimp only
       have hres : aZ p f s n z ⟨4, nn, ar, ks⟩ = ((dF (vis p f) ⟨s.sz.set n.toNat z, s.met.set n.toNat true, s.dfs.set nn.toNat true⟩ (d.Rules.map fun r => (r.Node, z + own d + brs d.Chans r.Joins))).bind fun s1 => dF (vis p f) s1 (d.Spots.map fun y => (y.Node, z + own d))).bind fun s2 => dF (vis p f) s2 (ks.map fun k => (k, z + own d)) := by
        rw [aZ, if_pos rfl]; dsimp only; rw [hd, bsm, if_pos hok, Option.bind_assoc]
       rw [hres]
       cases hc : (dF (vis p f) ⟨s.sz.set n.toNat z, s.met.set n.toNat true, s.dfs.set nn.toNat true⟩ (d.Rules.map fun r => (r.Node, z + own d + brs d.Chans r.Joins))).bind fun s1 => dF (vis p f) s1 (d.Spots.map fun y => (y.Node, z + own d)) with
       | none =>
        rw [hc] at h2
        obtain ⟨q1, q2, q3⟩ := h2
        rw [q1, rA]
        exact ⟨_, rfl, rfl, q2, q3⟩
       | some s2 =>
        rw [hc] at h2
        have h2 : L = _ := h2
        subst h2
        obtain ⟨s1, a1, a2⟩ := bind_some hc
        obtain ⟨b1, b2⟩ := nX (visO p f) _ _ _ w2 (hun _) a1
        have := hun (s.dfs.set nn.toNat true)
        obtain ⟨c1, c2⟩ := nX (visO p f) _ _ _ b1 (by omega) a2
        rw [bsm]
        exact good (z + own d) s2 (by omega) (by omega) c1 (by omega)
  ·have hk : kN p s ⟨op, nn, ar, ks⟩ z ↔ nn = 0 := by unfold kN; rw [if_neg o2, if_neg o4]
   rw [if_neg o4]
   cases hall2 : ar.all (okE z) with
   | false =>
    rw [Bool.not_false, cond_true, bsm]
    dsimp only
    rw [rA, if_neg (fun q => by cases q.1)]
    exact ⟨_, rfl, jM hl1 hl2⟩
   | true =>
    rw [Bool.not_true, cond_false, bsm]
    dsimp only
    by_cases n1 : nn ≠ 0
    ·rw [decide_eq_true n1, rA, if_neg (fun q => n1 (hk.1 q.2))]
     exact ⟨_, rfl, jM hl1 hl2⟩
    ·rw [decide_eq_false n1, if_pos ⟨rfl, hk.2 (by omega)⟩, hne4 o4, hsets]
     exact good z ⟨s.sz.set n.toNat z, s.met.set n.toNat true, s.dfs⟩ hz.1 (by omega) w1 (hun _)
theorem aF2 {op : Int} {k c : Nat} (h : shp op = some (k, c)) : vE op = some (if c = 1 then -1 else if c = 2 then 1 else 0, (k : Int), true) := by
 unfold shp at h
 split at h
 ·rename_i h1; cases h; rcases h1 with rfl | rfl <;> rfl
 split at h
 ·rename_i h1; cases h; subst h1; rfl
 split at h
 ·rename_i h1; cases h; subst h1; rfl
 split at h
 ·rename_i h1; cases h; subst h1; rfl
 split at h
 ·rename_i h1; cases h; rcases h1 with rfl | rfl <;> rfl
 split at h
 ·rename_i h1; cases h; subst h1; rfl
 ·cases h
theorem aGD {op : Int} (h : shp op = none) : vE op = some (0, 0, false) := by
 unfold shp at h
 rw [vE]
 split at h; · cases h
 split at h; · cases h
 split at h; · cases h
 split at h; · cases h
 split at h; · cases h
 split at h; · cases h
 rename_i h1 h2 h3 h4 h5 h6
 rw [if_neg (by omega), bsm, decide_eq_false (by omega), cond_false, if_neg h3, if_neg h2, if_neg h4, if_neg h6, if_neg (by omega), bsm, decide_eq_false (by omega), cond_false]
def rE (c : Nat) (l : Nat) : Prop := if c = 1 then l ≤ 3 else if c = 2 then l = 1 else l = 0
theorem aBw {s : VS} {x : ScopeNode} {z : Int} {k c : Nat} (h : shp x.Op = some (k, c)) : okM p s x z c ↔ kN p s x z ∧ rE c x.Args.length := by
 have h0 := h
 unfold shp at h
 unfold kN rE
 split at h
 ·rename_i h1; cases h; rw [if_neg (by omega), if_neg (by omega)]; simp [okM]
 split at h
 ·rename_i h1; cases h; rw [if_neg (by omega), if_neg (by omega)]; simp [okM]
 split at h
 ·rename_i h1; cases h; rw [if_pos (.inl h1)]; simp [okM]
 split at h
 ·rename_i h1; cases h; rw [if_neg (by omega), if_neg (by omega)]; simp [okM]
 split at h
 ·rename_i h1; cases h; rw [if_pos (.inr h1)]; simp [okM]
 split at h
 ·rename_i h1; cases h; rw [if_neg (by omega), if_pos h1]; simp [okM]
 ·cases h
open Classical in
theorem rnode_go (hp : SmP p) (hall : ∀ d ∈ p.Defs, okD d = true) (hm : 3000001 ≤ m) (hv : RVis p f (eS m)) (hv' : RVis p f (eS (m - 1))) {s : VS} (hs : WS p s) {n z : Int} (hu : unm s ≤ f + 1) (hz : 0 ≤ z ∧ z + 69 + 80 * f ≤ 100000) (h : 0 ≤ n ∧ n < (p.Nodes.length : Int) ∧ idx s.met n = some false) :
  ∃ L, eS (m + 1) ⟨p, s.sz, ob s.met, ob s.dfs, false⟩ n z = some L ∧ ROut p (vis p (f + 1) s n z) L := by
 obtain ⟨x, hx⟩ := dH h.1 h.2.1
 obtain ⟨v1, v2⟩ := vis_go (f := f) (z := z) h hx
 have hun : ∀ dfs, unm ⟨s.sz.set n.toNat z, s.met.set n.toNat true, dfs⟩ ≤ f := fun dfs => by
  have := aBe (p := p) (z := z) (dfs := dfs) h.1 h.2.2; omega
 obtain ⟨b, hb⟩ := dH (xs := s.sz) h.1 (by rw [hs.sz]; exact h.2.1)
 have hl1 : ((ob s.met).set n.toNat 1).length = p.Nodes.length := by simp [iY, hs.met]
 have hl2 : (ob s.dfs).length = p.Defs.length := by rw [iY, hs.dfs]
 have hgo := tailR_eq hp hall hm hv hv' hs (n := n) (z := z) (eD hx) hun hz
 rw [eS]
 dsimp only
 rw [if_neg (by omega), if_neg (by omega), aBl h.2.2, bsm, if_neg Bool.false_ne_true, if_neg (by omega), bsm, aV (by omega), bsm, bsm, hb, bsm, hx, bsm]
 cases hsh : shp x.Op with
 | none =>
  rw [aGD hsh, bsm]
  dsimp only
  rw [Bool.not_false, cond_true, bsm, bsm, v2 (by rintro ⟨⟨k, c, g, _⟩, _⟩; rw [hsh] at g; cases g)]
  exact ⟨_, rfl, jM hl1 hl2⟩
 | some kc =>
  obtain ⟨k, c⟩ := kc
  rw [aF2 hsh, bsm]
  dsimp only
  rw [Bool.not_true, cond_false]
  by_cases hk : (x.Kids.length : Int) ≠ (k : Int)
  ·rw [if_pos hk, bsm, bsm, v2 (by rintro ⟨⟨k', c', g, g2, _⟩, _⟩; rw [hsh] at g; cases g; omega)]
   exact ⟨_, rfl, jM hl1 hl2⟩
  ·rw [if_neg hk]
   have hfin : (if x.Args.all (okE z) = true ∧ kN p s x z then aZ p f s n z x else none) = vis p (f + 1) s n z ∨ ¬ rE c x.Args.length := by
    by_cases ha : rE c x.Args.length
    ·left
     by_cases hq : x.Args.all (okE z) = true ∧ kN p s x z
     ·rw [if_pos hq, v1 ⟨⟨k, c, hsh, by omega, (aBw hsh).2 ⟨hq.2, ha⟩⟩, hq.1⟩]
     ·rw [if_neg hq, v2]
      rintro ⟨⟨k', c', g, _, g3⟩, g4⟩
      rw [hsh] at g; cases g
      exact hq ⟨g4, ((aBw hsh).1 g3).1⟩
    ·exact .inr ha
   have hbad : ¬ rE c x.Args.length → vis p (f + 1) s n z = none := fun ha => v2 (by
    rintro ⟨⟨k', c', g, _, g3⟩, _⟩
    rw [hsh] at g; cases g
    exact ha ((aBw hsh).1 g3).2)
   obtain ⟨L, e1, e2⟩ := hgo
   by_cases ha : rE c x.Args.length
   ·rw [hfin.resolve_right (fun q => q ha)] at e2
    refine ⟨L, ?_, e2⟩
    rw [← e1]
    unfold rE at ha
    by_cases c1 : c = 1
    ·rw [if_pos c1] at ha ⊢
     rw [if_pos (by omega), if_neg (by omega), if_neg (by omega), bsm]; rfl
    ·rw [if_neg c1] at ha ⊢
     by_cases c2 : c = 2
     ·rw [if_pos c2] at ha ⊢
      rw [if_neg (by omega), if_pos (by omega), if_neg (by omega), bsm]; rfl
     ·rw [if_neg c2] at ha ⊢
      rw [if_neg (by omega), if_pos (by omega), if_neg (by omega), bsm]; rfl
   ·rw [hbad ha]
    refine ⟨⟨p, s.sz.set n.toNat z, (ob s.met).set n.toNat 1, ob s.dfs, true⟩, ?_, jM hl1 hl2⟩
    unfold rE at ha
    by_cases c1 : c = 1
    ·rw [if_pos c1] at ha ⊢
     rw [if_pos (by omega), if_pos (by omega), bsm, bsm]; rfl
    ·rw [if_neg c1] at ha ⊢
     by_cases c2 : c = 2
     ·rw [if_pos c2] at ha ⊢
      rw [if_neg (by omega), if_pos (by omega), if_pos (by omega), bsm, bsm]; rfl
     ·rw [if_neg c2] at ha ⊢
      rw [if_neg (by omega), if_pos (by omega), if_pos (by omega), bsm, bsm]; rfl
theorem aEe {s : VS} (hs : WS p s) {n z : Int} (h : ¬ (0 ≤ n ∧ n < (p.Nodes.length : Int) ∧ idx s.met n = some false)) : ∃ L, eS (m + 1) ⟨p, s.sz, ob s.met, ob s.dfs, false⟩ n z = some L ∧ ROut p none L := by
 have hl1 : (ob s.met).length = p.Nodes.length := by rw [iY, hs.met]
 have hl2 : (ob s.dfs).length = p.Defs.length := by rw [iY, hs.dfs]
 refine ⟨⟨p, s.sz, ob s.met, ob s.dfs, true⟩, ?_, jM hl1 hl2⟩
 rw [eS]
 dsimp only
 by_cases h0 : n < 0
 ·rw [if_pos h0]
 ·rw [if_neg h0]
  by_cases h1 : (p.Nodes.length : Int) ≤ n
  ·rw [if_pos h1]
  ·rw [if_neg h1]
   obtain ⟨b, hb⟩ := dH (xs := s.met) (show 0 ≤ n by omega) (by rw [hs.met]; omega)
   cases b with
   | false => exact absurd ⟨by omega, by omega, hb⟩ h
   | true => rw [aBl hb, bsm, if_pos rfl, if_pos (by omega)]
end
theorem rvis {p : ScopeProg} (hp : SmP p) (hall : ∀ d ∈ p.Defs, okD d = true) (f : Nat) : ∀ g, 3000003 + 2 * f ≤ g → RVis p f (eS g) := by
 induction f with
 | zero =>
  intro g hg
  obtain ⟨g, rfl⟩ : ∃ k, g = k + 1 := ⟨g - 1, by omega⟩
  refine ⟨fun s n z hs hu h0 h1 => ?_⟩
  have h : ¬ (0 ≤ n ∧ n < (p.Nodes.length : Int) ∧ idx s.met n = some false) := fun q => by have := aE6 q.2.2; omega
  rw [yA h]; exact aEe hs h
 | succ f ih =>
  intro g hg
  obtain ⟨g, rfl⟩ : ∃ k, g = k + 1 := ⟨g - 1, by omega⟩
  refine ⟨fun s n z hs hu h0 h1 => ?_⟩
  by_cases h : 0 ≤ n ∧ n < (p.Nodes.length : Int) ∧ idx s.met n = some false
  ·exact rnode_go hp hall (m := g) (by omega) (ih g (by omega)) (ih (g - 1) (by omega)) hs hu ⟨h0, by omega⟩ h
  ·rw [yA h]; exact aEe hs h
end Go.Proofs.YtmnbfgeljmhekaaGreat
set_option maxRecDepth 100000
namespace Go.Proofs.YtmnbfgeljmhekaaGreat
open Go.SX Go.SW Go.Dt
abbrev F : Nat := 4000000
theorem aCO : ∀ x y : List UInt8, Op.bytesLess x y = (!(Op.bytesLess y x || decide (y = x)))
 | [], [] => rfl
 | [], b :: y => by simp [Op.bytesLess]
 | a :: x, [] => by simp [Op.bytesLess]
 | a :: x, b :: y => by
  have ih := aCO x y
  simp only [Op.bytesLess, ih]
  by_cases h1 : a < b
  ·have h2 : ¬ b < a := fun h => by have := UInt8.lt_trans h1 h; exact absurd this (by simp)
   have h3 : b ≠ a := fun h => by subst h; exact absurd h1 (by simp)
   simp [h1, h2, h3]
  ·by_cases h2 : b < a
   ·have h3 : a ≠ b := fun h => by subst h; exact absurd h2 (by simp)
    simp [h1, h2, h3]
   ·have h3 : a = b := by
     have a1 := UInt8.not_lt.1 h1; have a2 := UInt8.not_lt.1 h2
     exact UInt8.le_antisymm a2 a1
    subst h3
    simp
theorem slt_sle (a b : ByteArray) : slt a b = !sle b a := by
 have he : decide (b = a) = decide (b.toList = a.toList) := by
  rw [decide_eq_decide]
  exact ⟨fun h => by rw [h], fun h => (by have := (aBh (i := b) (j := a)); rw [beq_iff_eq.2 h] at this; exact of_decide_eq_true this.symm)⟩
 unfold sle slt
 rw [he]; exact aCO _ _
theorem aCH (s : ByteArray) : ∀ (k : Nat) (i : Int), qH s k i = kX s k i
 | 0, _ => rfl
 | k + 1, i => by
  rw [qH, kX]
  simp only [aCH s k]
theorem aEy {s : ByteArray} (hs : s.size ≤ 2000000) : ∀ (k i : Nat), s.size < k + i → i ≤ s.size → kX s k (i : Int) = some (.inr false) ∨ kX s k (i : Int) = some (.inl ())
 | 0, i, h, h2 => by omega
 | k + 1, i, h, h2 => by
  rw [kX]
  by_cases hi : i < s.size
  ·have hx : sidx s (i : Int) = some ((s[i]'hi).toNat : Int) := by
    unfold sidx; rw [if_pos (by omega)]; simp [hi]
   rw [if_pos (by omega), hx, bsm]
   by_cases c1 : ((s[i]'hi).toNat : Int) < 97
   ·rw [if_pos c1]; exact .inl rfl
   ·rw [if_neg c1, bsm]
    by_cases c2 : 122 < ((s[i]'hi).toNat : Int)
    ·rw [if_pos c2]; exact .inl rfl
    ·rw [if_neg c2, aV (by omega), bsm]
     exact aEy hs k (i + 1) (by omega) (by omega)
  ·rw [if_neg (by omega)]; exact .inr rfl
open Classical in
theorem has_loop {a : ByteArray} (suf : List ByteArray) : ∀ (pre : List ByteArray) (k : Nat), suf.length < k → pre.length + suf.length ≤ 3000000 → pW (pre ++ suf) a k pre.length = some (if a ∈ suf then .inr true else .inl ()) := by
 induction suf with
 | nil =>
  intro pre k hk _
  obtain _ | k := k
  ·omega
  rw [pW, if_neg (by simp), if_neg (by simp)]
 | cons e suf ih =>
  intro pre k hk hB
  obtain _ | k := k
  ·omega
  simp only [List.length_cons] at hk hB
  rw [pW, if_pos (cJ _ _ _), cL, bsm]
  by_cases he : e = a
  ·rw [if_pos he, if_pos (by simp [he])]; rfl
  ·have hm : (a ∈ e :: suf) ↔ a ∈ suf := by simp [Ne.symm he]
   rw [if_neg he, aV (by omega), bsm, cN pre suf e, bZ pre e, ih (pre ++ [e]) k (by omega) (by simp; omega)]
   by_cases hs : a ∈ suf
   ·rw [if_pos hs, if_pos (hm.2 hs)]
   ·rw [if_neg hs, if_neg (fun q => hs (hm.1 q))]
open Classical in
theorem has_eq {l : List ByteArray} {a : ByteArray} (h : l.length ≤ 3000000) : vU F l a = some (decide (a ∈ l)) := by
 have := has_loop (a := a) l [] F (by show l.length < 4000000; omega) (by simp; omega)
 simp only [List.nil_append, List.length_nil, Int.natCast_zero] at this
 rw [vU, this, bsm]
 by_cases hs : a ∈ l
 ·rw [if_pos hs]; simp [hs]
 ·rw [if_neg hs]; simp [hs]
theorem upd_get {g : aU ByteArray Bool} {k s : ByteArray} : (aU.upd g k true).get s = if s = k then some true else g.get s := rfl
theorem aCL {s : ByteArray} (hs : s.size ≤ 2000000) : ∃ b, sV F s = some b ∧ tT F s = some b := by
 have hl := aEy hs F 0 (by show s.size < 4000000 + 0; omega) (by omega)
 simp only [Int.natCast_zero] at hl
 rw [sV, tT, aCH]
 by_cases c1 : (s.size : Int) < 1
 ·rw [if_pos c1]
  refine ⟨false, ?_, rfl⟩
  rcases hl with h | h <;> rw [h, bsm]
  dsimp only
  rw [if_neg (by omega)]; rfl
 ·rw [if_neg c1]
  by_cases c2 : 8 < (s.size : Int)
  ·rw [if_pos c2]
   refine ⟨false, ?_, rfl⟩
   rcases hl with h | h <;> rw [h, bsm]
   dsimp only
   rw [if_pos (by omega), if_neg (by omega)]; rfl
  ·rw [if_neg c2]
   rcases hl with h | h
   ·rw [h]; exact ⟨false, rfl, rfl⟩
   ·rw [h, bsm, bsm]
    dsimp only
    rw [if_pos (by omega), if_pos (by omega), has_eq (by simp), bsm]
    refine ⟨_, ?_, rfl⟩
    rw [aAa, bsm, bsm]
    congr 2
    simp only [upd_get, aU.none, List.mem_cons, List.not_mem_nil, or_false]
    repeat' split
    all_goals simp_all
def nm (s : ByteArray) : Bool := (sV F s).getD false
theorem nm_p {s : ByteArray} (hs : s.size ≤ 2000000) : sV F s = some (nm s) := by
 obtain ⟨b, h, _⟩ := aCL hs; unfold nm; rw [h]; rfl
theorem nm_r {s : ByteArray} (hs : s.size ≤ 2000000) : tT F s = some (nm s) := by
 obtain ⟨b, h, h2⟩ := aCL hs; unfold nm; rw [h, h2]; rfl
def okF : Option ByteArray → List ByteArray → Bool
 | _, [] => true
 | q, s :: l => nm s && (match q with | none => true | some q => slt q s) && okF (some s) l
theorem aCu {α : Type} {pre suf : List α} {y : α} (h : 0 < pre.length) : ∃ q, pre.getLast? = some q ∧ idx (pre ++ y :: suf) ((pre.length : Int) - 1) = some q := by
 have hne : pre ≠ [] := fun e => by rw [e] at h; simp at h
 have hd := List.dropLast_concat_getLast hne
 generalize pre.dropLast = d, pre.getLast hne = q at hd
 subst hd
 refine ⟨q, by simp, ?_⟩
 rw [show (((d ++ [q]).length : Int) - 1) = (d.length : Int) from by simp]
 exact cZ (by simp)
theorem fl1 {nodes : List ScopeNode} {defs : List ScopeDef} {mn : Int} (suf : List ByteArray) : ∀ (pre : List ByteArray) (k : Nat), suf.length < k → pre.length + suf.length ≤ 3000000 → (∀ x ∈ suf, x.size ≤ 2000000) →
  oA F ⟨pre ++ suf, nodes, defs, mn⟩ k pre.length = some (if okF pre.getLast? suf = true then .inl () else .inr (.inr flaw)) := by
 induction suf with
 | nil =>
  intro pre k hk _ _
  obtain _ | k := k
  ·omega
  rw [oA, if_neg (by simp), if_pos (by rfl)]
 | cons e suf ih =>
  intro pre k hk hB hx
  obtain _ | k := k
  ·omega
  simp only [List.length_cons] at hk hB
  have hgl : (pre ++ [e]).getLast? = some e := by simp
  rw [oA, if_pos (cJ _ _ _)]
  dsimp only
  rw [cL, bsm, nm_p (hx e (.head _)), bsm]
  have hst : okF pre.getLast? (e :: suf) = (nm e && (match pre.getLast? with | none => true | some q => slt q e) && okF (some e) suf) := by
   cases pre.getLast? <;> rfl
  cases hn : nm e with
  | false => rw [hst, hn, Bool.false_and, Bool.false_and]; rfl
  | true =>
   rw [cond_true]
   rw [hn, Bool.true_and] at hst
   have hnext := ih (pre ++ [e]) k (by omega) (by simp; omega) (fun x h => hx x (.tail _ h))
   rw [hgl] at hnext
   by_cases h0 : (pre.length : Int) = 0
   ·have : pre = [] := List.eq_nil_of_length_eq_zero (by omega)
    subst this
    have hst : okF ([] : List ByteArray).getLast? (e :: suf) = okF (some e) suf := by rw [hst]; rfl
    rw [if_pos h0, eU, bsm, hst]
    dsimp only
    rw [bsm]; dsimp only
    rw [aV (by simp), bsm, cN [] suf e, bZ [] e, hnext]
   ·obtain ⟨q, h1, h2⟩ := aCu (pre := pre) (suf := suf) (y := e) (by omega)
    have hst : okF pre.getLast? (e :: suf) = (slt q e && okF (some e) suf) := by rw [hst, h1]
    rw [if_neg h0, aV (by omega), bsm, h2, bsm, hst]
    cases hl : slt q e with
    | false => rfl
    | true =>
     rw [eU, bsm, Bool.true_and]
     dsimp only
     rw [bsm]; dsimp only
     rw [aV (by omega), bsm, cN pre suf e, bZ pre e, hnext]
theorem fr_bad {p : ScopeProg} (suf : List ByteArray) : ∀ (pre : List ByteArray) (k : Nat), p.Free = pre ++ suf → suf.length < k → pre.length + suf.length ≤ 3000000 → jI F p k pre.length true = some true := by
 induction suf with
 | nil =>
  intro pre k he hk _
  obtain _ | k := k
  ·omega
  rw [jI, he, if_neg (by simp)]
 | cons e suf ih =>
  intro pre k he hk hB
  obtain _ | k := k
  ·omega
  simp only [List.length_cons] at hk hB
  rw [jI, he, if_pos (cJ _ _ _), cond_true, bsm, aV (by omega), bsm, bZ pre e]
  exact ih (pre ++ [e]) k (by rw [he]; simp) (by omega) (by simp; omega)
theorem fr1 {p : ScopeProg} (suf : List ByteArray) : ∀ (pre : List ByteArray) (k : Nat), p.Free = pre ++ suf → suf.length < k → pre.length + suf.length ≤ 3000000 → (∀ x ∈ suf, x.size ≤ 2000000) →
  jI F p k pre.length false = some (!okF pre.getLast? suf) := by
 induction suf with
 | nil =>
  intro pre k he hk _ _
  obtain _ | k := k
  ·omega
  rw [jI, he, if_neg (by simp)]; rfl
 | cons e suf ih =>
  intro pre k he hk hB hx
  obtain _ | k := k
  ·omega
  simp only [List.length_cons] at hk hB
  have hgl : (pre ++ [e]).getLast? = some e := by simp
  have hst : okF pre.getLast? (e :: suf) = (nm e && (match pre.getLast? with | none => true | some q => slt q e) && okF (some e) suf) := by
   cases pre.getLast? <;> rfl
  have hnext := ih (pre ++ [e]) k (by rw [he]; simp) (by omega) (by simp; omega) (fun x h => hx x (.tail _ h))
  have hbadn := fr_bad (p := p) suf (pre ++ [e]) k (by rw [he]; simp) (by omega) (by simp; omega)
  rw [hgl] at hnext
  rw [jI, he, if_pos (cJ _ _ _), cond_false, cL, bsm, nm_r (hx e (.head _)), bsm, hst]
  cases hn : nm e with
  | false =>
   rw [Bool.not_false, cond_true, bsm, aV (by omega), bsm, bZ pre e, hbadn]; rfl
  | true =>
   rw [Bool.not_true, cond_false, Bool.true_and]
   by_cases h0 : 0 < (pre.length : Int)
   ·obtain ⟨q, h1, h2⟩ := aCu (pre := pre) (suf := suf) (y := e) (by omega)
    have hst2 : (match pre.getLast? with | none => true | some q => slt q e) = !sle e q := by rw [h1]; exact slt_sle q e
    rw [hst2, if_pos h0, bsm, aV (by omega), bsm, h2, bsm, bsm, aV (by omega), bsm, bZ pre e]
    cases hl : sle e q with
    | true => rw [hbadn]; rfl
    | false => rw [hnext]; rfl
   ·have : pre = [] := List.eq_nil_of_length_eq_zero (by omega)
    subst this
    rw [if_neg h0, bsm, aV (by simp), bsm, bZ [] e, hnext]; simp
end Go.Proofs.YtmnbfgeljmhekaaGreat
set_option maxRecDepth 100000
namespace Go.Proofs.YtmnbfgeljmhekaaGreat
open Go.SX Go.SW Go.Dt
def start (p : ScopeProg) : VS := ⟨List.replicate p.Nodes.length 0, List.replicate p.Nodes.length false, List.replicate p.Defs.length false⟩
open Classical in
noncomputable def eY (p : ScopeProg) : Option VS :=
 if p.Free.length ≤ 12 ∧ p.Nodes.length ≤ 60 ∧ p.Defs.length ≤ 12 ∧ okF none p.Free = true then
  (vis p p.Nodes.length (start p) p.Main p.Free.length).bind fun s => if s.met.all id = true ∧ s.dfs.all id = true then some s else none
 else none
theorem xC {p : ScopeProg} : WS p (start p) := ⟨by simp [start], by simp [start], by simp [start]⟩
theorem xM {p : ScopeProg} : unm (start p) = p.Nodes.length := by simp [unm, start, List.countP_replicate]
def GD (p : ScopeProg) (s : VS) : Prop := ∀ i : Nat, s.dfs[i]? = some true → ∃ d, p.Defs[i]? = some d ∧ okD d = true
theorem wY {p : ScopeProg} {g : VS → Int → Int → Option VS} (h : ∀ s n z s', g s n z = some s' → GD p s → GD p s') : ∀ (l : List (Int × Int)) (s s' : VS), dF g s l = some s' → GD p s → GD p s'
 | [], s, s', e, h0 => by cases e; exact h0
 | x :: l, s, s', e, h0 => by
  obtain ⟨s1, e1, e2⟩ := bind_some e
  exact wY h l s1 s' e2 (h _ _ _ _ e1 h0)
theorem vis_gd {p : ScopeProg} (f : Nat) : ∀ (s : VS) (n z : Int) (s' : VS), vis p f s n z = some s' → GD p s → GD p s' := by
 induction f with
 | zero => intro s n z s' h; simp [vis] at h
 | succ f ih =>
  intro s n z s' h h0
  simp only [vis] at h
  split at h
  ·obtain ⟨x, _, h⟩ := bind_some h
   split at h
   ·split at h
    ·obtain ⟨d, hd, h⟩ := bind_some h
     split at h
     ·rename_i hok
      obtain ⟨s1, e1, h⟩ := bind_some h
      obtain ⟨s2, e2, e3⟩ := bind_some h
      refine wY ih _ _ _ e3 (wY ih _ _ _ e2 (wY ih _ _ _ e1 ?_))
      intro i hi
      by_cases hn : x.N.toNat = i
      ·obtain ⟨j, hj, hj2, _⟩ := uM hd
       rw [← hn, hj]; simp only [Int.toNat_natCast]
       exact ⟨d, hj2, hok⟩
      ·simp only [List.getElem?_set_ne hn] at hi
       exact h0 i hi
     ·cases h
    ·exact wY ih _ _ _ h h0
   ·cases h
  ·cases h
theorem chk_defs {p : ScopeProg} {s : VS} (h : eY p = some s) : ∀ d ∈ p.Defs, okD d = true := by
 unfold eY at h
 split at h
 ·obtain ⟨s1, h1, h2⟩ := bind_some h
  split at h2
  ·rename_i hc
   cases h2
   have hg := vis_gd _ _ _ _ _ h1 (fun i hi => by simp [start, List.getElem?_replicate] at hi)
   have hw := ((visO p p.Nodes.length).out _ _ _ _ xC (by rw [xM]; exact Nat.le_refl _) h1).1
   intro d hd
   obtain ⟨i, hi⟩ := List.mem_iff_getElem?.1 hd
   have hlt := (List.getElem?_eq_some_iff.1 hi).1
   have hlt2 : i < s.dfs.length := by rw [hw.dfs]; exact hlt
   have ht : s.dfs[i] = true := List.all_eq_true.1 hc.2 _ (List.getElem_mem hlt2)
   obtain ⟨d', h3, h4⟩ := hg i (by rw [List.getElem?_eq_getElem hlt2, ht])
   rw [hi] at h3; cases h3; exact h4
  ·cases h2
 ·cases h
theorem aFr (suf : List Bool) : ∀ (pre : List Bool) (k : Nat), suf.length < k → pre.length + suf.length ≤ 3000000 → ∃ r, pT (pre ++ suf) false k pre.length = some r ∧ ((suf.all id = false ∧ ∃ i : Int, r = .inr i ∧ 0 ≤ i) ∨ (suf.all id = true ∧ r = .inl ())) := by
 induction suf with
 | nil =>
  intro pre k hk _
  obtain _ | k := k
  ·omega
  exact ⟨_, by rw [pT, if_neg (by simp)], .inr ⟨rfl, rfl⟩⟩
 | cons e suf ih =>
  intro pre k hk hB
  obtain _ | k := k
  ·omega
  simp only [List.length_cons] at hk hB
  rw [pT, if_pos (cJ _ _ _), cL, bsm]
  cases e with
  | false => exact ⟨_, rfl, .inl ⟨rfl, _, rfl, by omega⟩⟩
  | true =>
   rw [show (false == true) = false from rfl, cond_false, aV (by omega), bsm, cN pre suf true, bZ pre true]
   obtain ⟨r, h1, h2⟩ := ih (pre ++ [true]) k (by omega) (by simp; omega)
   exact ⟨r, h1, by simpa using h2⟩
theorem aE5 {l : List Bool} (h : l.length ≤ 3000000) : uG F l false = some (!l.all id) := by
 obtain ⟨r, h1, h2⟩ := aFr l [] F (by show l.length < 4000000; omega) (by simp; omega)
 simp only [List.nil_append, List.length_nil, Int.natCast_zero] at h1
 rw [uG, aAt, h1]
 rcases h2 with ⟨h2, i, rfl, h3⟩ | ⟨h2, rfl⟩
 ·rw [h2]; simp [h3]
 ·rw [h2]; rfl
theorem aEa {p : ScopeProg} (hp : SmP p) : uJ F p = some (kM p (eY p)) := by
 obtain ⟨fr, nodes, defs, mn⟩ := p
 have hf := hp.free; have hn := hp.nodes; have hd := hp.defs
 dsimp only at hf hn hd
 rw [uJ]
 dsimp only
 unfold eY
 dsimp only
 by_cases l1 : fr.length ≤ 12
 ·rw [if_pos (by omega)]
  by_cases l2 : nodes.length ≤ 60
  ·rw [if_pos (by omega)]
   by_cases l3 : defs.length ≤ 12
   ·rw [decide_eq_true (by omega), eU, bsm, bsm]
    dsimp only
    have e1 : oA F ⟨fr, nodes, defs, mn⟩ F 0 = some (if okF none fr = true then .inl () else .inr (.inr flaw)) := fl1 (nodes := nodes) (defs := defs) (mn := mn) fr [] F (by show fr.length < 4000000; omega) (by simp; omega) hp.names
    rw [e1, bsm]
    by_cases hok : okF none fr = true
    ·rw [if_pos hok, if_pos ⟨l1, l2, l3, hok⟩]
     dsimp only
     have hmk : ∀ {α : Type} (a : α) (k : Nat), k ≤ 60 → mk a (k : Int) = some (List.replicate k a) := fun a k hk => by unfold mk; rw [if_pos (by omega)]; simp
     rw [hmk 0 _ l2, bsm, hmk false _ l2, bsm, hmk false _ (by omega), bsm]
     have hv := pvis hp (b := 4000000 - nodes.length - 1) (by omega) nodes.length
     rw [show 4000000 - nodes.length - 1 + nodes.length + 1 = F from by show _ = 4000000; omega] at hv
     have hrun := hv.run (start ⟨fr, nodes, defs, mn⟩) mn fr.length xC (by rw [xM]; exact Nat.le_refl _) (by omega) (by omega)
     rw [show (⟨⟨fr, nodes, defs, mn⟩, List.replicate nodes.length 0, List.replicate nodes.length false, List.replicate defs.length false⟩ : Scope_looker) = ⟨⟨fr, nodes, defs, mn⟩, (start ⟨fr, nodes, defs, mn⟩).sz, (start ⟨fr, nodes, defs, mn⟩).met, (start ⟨fr, nodes, defs, mn⟩).dfs⟩ from rfl, hrun, bsm]
     cases hc : vis ⟨fr, nodes, defs, mn⟩ nodes.length (start ⟨fr, nodes, defs, mn⟩) mn fr.length with
     | none => rfl
     | some s =>
      obtain ⟨w, _⟩ := (visO _ _).out _ _ _ _ xC (by rw [xM]; exact Nat.le_refl _) hc
      have wm : s.met.length = nodes.length := w.met
      have wd : s.dfs.length = defs.length := w.dfs
      simp only [kM]
      rw [bsm, aE5 (by omega), bsm]
      cases hm : s.met.all id with
      | false => rw [if_neg (fun q => by cases q.1)]; rfl
      | true =>
       rw [Bool.not_true, Bool.not_false, cond_true, aE5 (by omega), bsm]
       cases hm2 : s.dfs.all id with
       | false => rw [if_neg (fun q => by cases q.2)]; rfl
       | true => rw [if_pos ⟨rfl, rfl⟩]; rfl
    ·rw [if_neg hok, if_neg (fun q => hok q.2.2.2)]; rfl
   ·rw [decide_eq_false (by omega), dJ, if_neg (fun q => l3 q.2.2.1)]; rfl
  ·rw [if_neg (by omega), dJ, if_neg (fun q => l2 q.2.1)]; rfl
 ·rw [if_neg (by omega), dJ, if_neg (fun q => l1 q.1)]; rfl
theorem check_eq {p : ScopeProg} (hp : SmP p) : tB F p = some (if (eY p).isSome = true then 0 else 2) := by
 rw [tB, yO, show (⟨p.Free, p.Nodes, p.Defs, p.Main⟩ : ScopeProg) = p from rfl, aEa hp, bsm]
 cases eY p with
 | none => rfl
 | some s => rfl
theorem aCG {p : ScopeProg} (suf : List ScopeDef) : ∀ (pre : List ScopeDef) (k : Nat), p.Defs = pre ++ suf → suf.length < k → pre.length + suf.length ≤ 3000000 → kP F p k pre.length true = some true := by
 induction suf with
 | nil =>
  intro pre k he hk _
  obtain _ | k := k
  ·omega
  rw [kP, he, if_neg (by simp)]
 | cons e suf ih =>
  intro pre k he hk hB
  obtain _ | k := k
  ·omega
  simp only [List.length_cons] at hk hB
  rw [kP, he, if_pos (cJ _ _ _), cond_true, bsm, aV (by omega), bsm, bZ pre e]
  exact ih (pre ++ [e]) k (by rw [he]; simp) (by omega) (by simp; omega)
theorem al2 {p : ScopeProg} (hp : SmP p) (suf : List ScopeDef) : ∀ (pre : List ScopeDef) (k : Nat), p.Defs = pre ++ suf → suf.length < k → pre.length + suf.length ≤ 3000000 → kP F p k pre.length false = some (!suf.all okD) := by
 induction suf with
 | nil =>
  intro pre k he hk _
  obtain _ | k := k
  ·omega
  rw [kP, he, if_neg (by simp)]; rfl
 | cons e suf ih =>
  intro pre k he hk hB
  obtain _ | k := k
  ·omega
  simp only [List.length_cons] at hk hB
  have hmem : e ∈ p.Defs := by rw [he]; simp
  rw [kP, he, if_pos (cJ _ _ _), cond_false, cL, bsm, rdef_eq (by show 3000000 ≤ 4000000; omega) (hp.dfs e hmem), bsm, bsm, aV (by omega), bsm, bZ pre e]
  cases h : okD e with
  | false => rw [Bool.not_false, aCG suf (pre ++ [e]) k (by rw [he]; simp) (by omega) (by simp; omega), show (e :: suf).all okD = (okD e && suf.all okD) from rfl, h]; rfl
  | true => rw [Bool.not_true, ih (pre ++ [e]) k (by rw [he]; simp) (by omega) (by simp; omega), show (e :: suf).all okD = (okD e && suf.all okD) from rfl, h, Bool.true_and]
theorem aEi {L : Ref03_look} (suf : List Int) : ∀ (pre : List Int) (k : Nat), L.owner = pre ++ suf → suf.length < k → pre.length + suf.length ≤ 3000000 → kD L k pre.length true = some true := by
 induction suf with
 | nil =>
  intro pre k he hk _
  obtain _ | k := k
  ·omega
  rw [kD, he, if_neg (by simp)]
 | cons e suf ih =>
  intro pre k he hk hB
  obtain _ | k := k
  ·omega
  simp only [List.length_cons] at hk hB
  rw [kD, he, if_pos (cJ _ _ _), cond_true, bsm, aV (by omega), bsm, bZ pre e]
  exact ih (pre ++ [e]) k (by rw [he]; simp) (by omega) (by simp; omega)
theorem aBu {L : Ref03_look} (suf : List Int) : ∀ (pre : List Int) (k : Nat), L.users = pre ++ suf → suf.length < k → pre.length + suf.length ≤ 3000000 → kC L k pre.length true = some true := by
 induction suf with
 | nil =>
  intro pre k he hk _
  obtain _ | k := k
  ·omega
  rw [kC, he, if_neg (by simp)]
 | cons e suf ih =>
  intro pre k he hk hB
  obtain _ | k := k
  ·omega
  simp only [List.length_cons] at hk hB
  rw [kC, he, if_pos (cJ _ _ _), cond_true, bsm, aV (by omega), bsm, bZ pre e]
  exact ih (pre ++ [e]) k (by rw [he]; simp) (by omega) (by simp; omega)
theorem al3 {L : Ref03_look} (suf : List Bool) : ∀ (pre : List Int) (k : Nat), L.owner = pre ++ ob suf → suf.length < k → pre.length + suf.length ≤ 3000000 → kD L k pre.length false = some (!suf.all id) := by
 induction suf with
 | nil =>
  intro pre k he hk _
  obtain _ | k := k
  ·omega
  rw [kD, he, if_neg (by simp [ob])]; rfl
 | cons e suf ih =>
  intro pre k he hk hB
  obtain _ | k := k
  ·omega
  simp only [List.length_cons] at hk hB
  have hob : ob (e :: suf) = (if e = true then 1 else 0) :: ob suf := rfl
  rw [hob] at he
  have he2 := he; rw [cN] at he2
  rw [kD, he, if_pos (cJ _ _ _), cond_false, cL, bsm, bsm, aV (by omega), bsm, bZ pre (if e = true then 1 else 0)]
  cases e with
  | false =>
   rw [if_neg Bool.false_ne_true] at he2 ⊢
   rw [decide_eq_true (by omega), aEi (ob suf) (pre ++ [0]) k he2 (by rw [iY]; omega) (by rw [iY]; simp; omega)]; rfl
  | true =>
   rw [if_pos rfl] at he2 ⊢
   rw [decide_eq_false (by omega), ih (pre ++ [1]) k he2 (by omega) (by simp; omega)]; simp
theorem al4 {L : Ref03_look} (suf : List Bool) : ∀ (pre : List Int) (k : Nat), L.users = pre ++ ob suf → suf.length < k → pre.length + suf.length ≤ 3000000 → kC L k pre.length false = some (!suf.all id) := by
 induction suf with
 | nil =>
  intro pre k he hk _
  obtain _ | k := k
  ·omega
  rw [kC, he, if_neg (by simp [ob])]; rfl
 | cons e suf ih =>
  intro pre k he hk hB
  obtain _ | k := k
  ·omega
  simp only [List.length_cons] at hk hB
  have hob : ob (e :: suf) = (if e = true then 1 else 0) :: ob suf := rfl
  rw [hob] at he
  have he2 := he; rw [cN] at he2
  rw [kC, he, if_pos (cJ _ _ _), cond_false, cL, bsm, bsm, aV (by omega), bsm, bZ pre (if e = true then 1 else 0)]
  cases e with
  | false =>
   rw [if_neg Bool.false_ne_true] at he2 ⊢
   rw [decide_eq_true (by omega), aBu (ob suf) (pre ++ [0]) k he2 (by rw [iY]; omega) (by rw [iY]; simp; omega)]; rfl
  | true =>
   rw [if_pos rfl] at he2 ⊢
   rw [decide_eq_false (by omega), ih (pre ++ [1]) k he2 (by omega) (by simp; omega)]; simp
def AOut (p : ScopeProg) (o : Option VS) (L : Ref03_look) : Prop := match o with
 | some s => L = ⟨p, s.sz, ob s.met, ob s.dfs, false⟩
 | none => L.bad = true
theorem iU {p : ScopeProg} (hp : SmP p) : ∃ L, uX F p = some L ∧ AOut p (eY p) L := by
 have hdefs : eY p ≠ none → ∀ d ∈ p.Defs, okD d = true := fun h => by
  cases hc : eY p with
  | none => exact absurd hc h
  | some s => exact chk_defs hc
 obtain ⟨fr, nodes, defs, mn⟩ := p
 have hf := hp.free; have hn := hp.nodes; have hd := hp.defs
 dsimp only at hf hn hd
 rw [uX]
 dsimp only
 have hno : ∀ (q : ¬ (fr.length ≤ 12 ∧ nodes.length ≤ 60 ∧ defs.length ≤ 12 ∧ okF none fr = true)), eY ⟨fr, nodes, defs, mn⟩ = none := fun q => by unfold eY; rw [if_neg q]
 by_cases l1 : 12 < fr.length
 ·rw [if_pos (by omega), hno (fun q => by omega)]; exact ⟨_, rfl, rfl⟩
 ·rw [if_neg (by omega)]
  by_cases l2 : 60 < nodes.length
  ·rw [if_pos (by omega), hno (fun q => by omega)]; exact ⟨_, rfl, rfl⟩
  ·rw [if_neg (by omega)]
   by_cases l3 : 12 < defs.length
   ·rw [if_pos (by omega), hno (fun q => by omega)]; exact ⟨_, rfl, rfl⟩
   ·rw [if_neg (by omega)]
    have e1 : jI F ⟨fr, nodes, defs, mn⟩ F 0 false = some (!okF none fr) := fr1 (p := ⟨fr, nodes, defs, mn⟩) fr [] F rfl (by show fr.length < 4000000; omega) (by simp; omega) hp.names
    have hmk : ∀ (k : Nat), k ≤ 60 → mk (0 : Int) (k : Int) = some (List.replicate k 0) := fun k hk => by unfold mk; rw [if_pos (by omega)]; simp
    rw [e1, bsm]
    cases hok : okF none fr with
    | false =>
     have e2 := aCG (p := ⟨fr, nodes, defs, mn⟩) defs [] F rfl (by show defs.length < 4000000; omega) (by simp; omega)
     simp only [List.length_nil, Int.natCast_zero] at e2
     rw [Bool.not_false, e2, bsm, hmk _ (by omega), bsm, bsm, hmk _ (by omega), bsm, cond_true, hno (fun q => by rw [hok] at q; cases q.2.2.2)]
     exact ⟨_, rfl, rfl⟩
    | true =>
     have e2 := al2 hp (p := ⟨fr, nodes, defs, mn⟩) defs [] F rfl (by show defs.length < 4000000; omega) (by simp; omega)
     simp only [List.length_nil, Int.natCast_zero] at e2
     rw [Bool.not_true, e2, bsm, hmk _ (by omega), bsm, bsm, hmk _ (by omega), bsm]
     cases had : defs.all okD with
     | false =>
      have : eY ⟨fr, nodes, defs, mn⟩ = none := by
       cases hc : eY ⟨fr, nodes, defs, mn⟩ with
       | none => rfl
       | some s =>
        have := List.all_eq_true.2 (hdefs (by rw [hc]; simp))
        dsimp only at this
        rw [had] at this; cases this
      rw [this, Bool.not_false, cond_true]
      exact ⟨_, rfl, rfl⟩
     | true =>
      rw [Bool.not_true, cond_false]
      have hv := rvis hp (List.all_eq_true.1 had) nodes.length F (by show _ ≤ 4000000; omega)
      obtain ⟨L, h1, h2⟩ := hv.run (start ⟨fr, nodes, defs, mn⟩) mn fr.length xC (by rw [xM]; exact Nat.le_refl _) (by omega) (by omega)
      have hst : (⟨⟨fr, nodes, defs, mn⟩, List.replicate nodes.length 0, List.replicate nodes.length 0, List.replicate defs.length 0, false⟩ : Ref03_look) = ⟨⟨fr, nodes, defs, mn⟩, (start ⟨fr, nodes, defs, mn⟩).sz, ob (start ⟨fr, nodes, defs, mn⟩).met, ob (start ⟨fr, nodes, defs, mn⟩).dfs, false⟩ := by
       simp [start, ob_rep]
      rw [hst, h1, bsm]
      have hcv : eY ⟨fr, nodes, defs, mn⟩ = (vis ⟨fr, nodes, defs, mn⟩ nodes.length (start ⟨fr, nodes, defs, mn⟩) mn fr.length).bind fun s => if s.met.all id = true ∧ s.dfs.all id = true then some s else none := by
       unfold eY; rw [if_pos ⟨by show fr.length ≤ 12; omega, by show nodes.length ≤ 60; omega, by show defs.length ≤ 12; omega, hok⟩]
      rw [hcv]
      cases hc : vis ⟨fr, nodes, defs, mn⟩ nodes.length (start ⟨fr, nodes, defs, mn⟩) mn fr.length with
      | none =>
       rw [hc] at h2
       obtain ⟨g1, g2, g3⟩ := h2
       dsimp only at g2 g3
       have e3 := aEi (L := L) L.owner [] F rfl (by rw [g2]; show nodes.length < 4000000; omega) (by simp; omega)
       have e4 := aBu (L := L) L.users [] F rfl (by rw [g3]; show defs.length < 4000000; omega) (by simp; omega)
       simp only [List.length_nil, Int.natCast_zero] at e3 e4
       rw [g1, e3, bsm, e4, bsm]
       exact ⟨_, rfl, rfl⟩
      | some s =>
       rw [hc] at h2
       have h2 : L = _ := h2
       subst h2
       obtain ⟨w, _⟩ := (visO _ _).out _ _ _ _ xC (by rw [xM]; exact Nat.le_refl _) hc
       have wm : s.met.length = nodes.length := w.met
       have wd : s.dfs.length = defs.length := w.dfs
       have e3 := al3 (L := ⟨⟨fr, nodes, defs, mn⟩, s.sz, ob s.met, ob s.dfs, false⟩) s.met [] F rfl (by show s.met.length < 4000000; omega) (by simp; omega)
       simp only [List.length_nil, Int.natCast_zero] at e3
       dsimp only
       rw [e3, bsm, bsm]
       cases hm : s.met.all id with
       | false =>
        have e4 := aBu (L := ⟨⟨fr, nodes, defs, mn⟩, s.sz, ob s.met, ob s.dfs, false⟩) (ob s.dfs) [] F rfl (by rw [iY]; show s.dfs.length < 4000000; omega) (by rw [iY]; simp; omega)
        simp only [List.length_nil, Int.natCast_zero] at e4
        rw [Bool.not_false, e4, bsm, if_neg (fun q => by cases q.1)]
        exact ⟨_, rfl, rfl⟩
       | true =>
        have e4 := al4 (L := ⟨⟨fr, nodes, defs, mn⟩, s.sz, ob s.met, ob s.dfs, false⟩) s.dfs [] F rfl (by show s.dfs.length < 4000000; omega) (by simp; omega)
        simp only [List.length_nil, Int.natCast_zero] at e4
        rw [Bool.not_true, e4, bsm]
        cases hm2 : s.dfs.all id with
        | false => rw [if_neg (fun q => by cases q.2)]; exact ⟨_, rfl, rfl⟩
        | true => rw [if_pos ⟨rfl, rfl⟩]; exact ⟨_, rfl, rfl⟩
theorem aH7 {p : ScopeProg} (hp : SmP p) : xB F p = some (if (eY p).isSome = true then 0 else 2) := by
 obtain ⟨L, h1, h2⟩ := iU hp
 rw [xB, show (⟨p.Free, p.Nodes, p.Defs, p.Main⟩ : ScopeProg) = p from rfl, h1, bsm]
 cases hc : eY p with
 | none => rw [hc] at h2; have h2 : L.bad = true := h2; rw [h2]; rfl
 | some s => rw [hc] at h2; have h2 : L = _ := h2; subst h2; rfl
theorem aHw {p : ScopeProg} (hp : SmP p) {s : VS} (h : eY p = some s) : tY F p = some s.sz := by
 obtain ⟨L, h1, h2⟩ := iU hp
 rw [h] at h2
 have h2 : L = _ := h2
 subst h2
 rw [tY, show (⟨p.Free, p.Nodes, p.Defs, p.Main⟩ : ScopeProg) = p from rfl, h1, bsm]
end Go.Proofs.YtmnbfgeljmhekaaGreat
set_option maxRecDepth 100000
namespace Go.Proofs.YtmnbfgeljmhekaaGreat
open Go.SX Go.SW Go.Dt
theorem aD9 {p : ScopeProg} {sz : List Int} {met dfs : List Bool} (hl : sz.length = p.Nodes.length) (hB : sz.length ≤ 1000) : ∀ (d i k : Nat), i + d = sz.length → d < k → nT ⟨p, sz, met, dfs⟩ p (fun x => sL x.1 x.2) k (sz.take i) i = some sz
 | 0, i, k, h, hk => by
  obtain _ | k := k
  ·omega
  rw [nT, if_neg (by omega), List.take_of_length_le (by omega)]
 | d + 1, i, k, h, hk => by
  obtain _ | k := k
  ·omega
  have hi : i < sz.length := by omega
  rw [nT, if_pos (by omega)]
  dsimp only
  rw [sL, show idx sz (i : Int) = some sz[i] from cZ (List.getElem?_eq_getElem hi), bsm, bsm]
  have hr : eA (sz.take i ++ [sz[i]]) = some (sz.take (i + 1)) := by
   have : sz.take i ++ [sz[i]] = sz.take (i + 1) := by rw [List.take_add_one, List.getElem?_eq_getElem hi]; rfl
   rw [this]; unfold eA; rw [if_pos (by simp; omega)]
  rw [hr, bsm, aV (by omega), bsm]
  exact aD9 hl hB d (i + 1) k (by omega) (by omega)
theorem sizes_eq {p : ScopeProg} (hp : SmP p) {s : VS} (h : eY p = some s) (hl : s.sz.length = p.Nodes.length) (hB : p.Nodes.length ≤ 60) : uU F p = some (s.sz, 0) := by
 have e := aD9 (p := p) (sz := s.sz) (met := s.met) (dfs := s.dfs) hl (by omega) s.sz.length 0 F (by omega) (by rw [hl]; show _ < 4000000; omega)
 rw [List.take_zero] at e
 rw [uU, yC, aAf, show (⟨p.Free, p.Nodes, p.Defs, p.Main⟩ : ScopeProg) = p from rfl, aEa hp, bsm, h]
 simp only [kM]
 rw [wS]
 have e' : nT ⟨p, s.sz, s.met, s.dfs⟩ p (fun x => sL x.1 x.2) F [] 0 = some s.sz := e
 rw [e', bsm, bsm, bsm, bsm]
abbrev E := List (Option (Int × Int))
def chs (m : Int) (d : ScopeDef) : E := (List.range d.Chans.length).map fun c : Nat => some (m, (c : Int))
def inE (e : E) (m : Int) (d : ScopeDef) : E := e ++ chs m d ++ List.replicate d.Spots.length none
def ruE (e : E) (m : Int) (d : ScopeDef) (r : ScopeRule) : E := inE e m d ++ List.replicate (brs d.Chans r.Joins).toNat none
def subs (p : ScopeProg) (x : ScopeNode) (e : E) : List (Int × E) :=
 if x.Op = 4 then match idx p.Defs x.N with
  | some d => d.Rules.map (fun r => (r.Node, ruE e x.N d r)) ++ (d.Spots.map (fun y => (y.Node, inE e x.N d)) ++ x.Kids.map (fun k => (k, inE e x.N d)))
  | none => []
 else x.Kids.map (fun k => (k, e))
def LN (p : ScopeProg) : Nat → Int × E → List (Int × E)
 | 0, _ => []
 | h + 1, q => q :: (match idx p.Nodes q.1 with | some x => (subs p x q.2).flatMap (LN p h) | none => [])
def HN (p : ScopeProg) : Nat → Int × E → List (Int × Int)
 | 0, _ => []
 | h + 1, q => match idx p.Nodes q.1 with | some x => (if x.Op = 4 then [(x.N, q.1)] else []) ++ (subs p x q.2).flatMap (HN p h) | none => []
def okT (p : ScopeProg) (x : ScopeNode) (size : Int) : Prop :=
 ((x.Op = 1 ∨ x.Op = 7) ∧ x.Kids.length = 0) ∨ ((x.Op = 3 ∨ x.Op = 5) ∧ x.Kids.length = 2) ∨ (x.Op = 2 ∧ x.Args.length ≤ 3 ∧ x.Kids.length = 0 ∧ 0 ≤ x.N ∧ x.N < size) ∨ ((x.Op = 6 ∨ x.Op = 8) ∧ x.Kids.length = 1) ∨ (x.Op = 4 ∧ x.Kids.length = 1 ∧ 0 ≤ x.N ∧ ∃ d, idx p.Defs x.N = some d ∧ okD d = true)
def Tr (p : ScopeProg) : Nat → Int × E → Prop
 | 0, _ => False
 | h + 1, q => ∃ x, idx p.Nodes q.1 = some x ∧ 0 ≤ q.1 ∧ okT p x q.2.length ∧ ∀ k ∈ subs p x q.2, Tr p h k
structure Chg (s s' : VS) (N : List (Int × E)) (D : List (Int × Int)) : Prop where
 nn : (N.map (·.1)).Nodup
 dn : (D.map (·.1)).Nodup
 new : ∀ q ∈ N, idx s.met q.1 = some false ∧ idx s'.met q.1 = some true ∧ idx s'.sz q.1 = some (q.2.length : Int)
 newd : ∀ q ∈ D, idx s.dfs q.1 = some false ∧ idx s'.dfs q.1 = some true
 old : ∀ i, i ∉ N.map (·.1) → idx s'.met i = idx s.met i ∧ idx s'.sz i = idx s.sz i
 oldd : ∀ i, i ∉ D.map (·.1) → idx s'.dfs i = idx s.dfs i
 ls : s'.sz.length = s.sz.length
 lm : s'.met.length = s.met.length
theorem Chg.nil {s : VS} : Chg s s [] [] := ⟨List.nodup_nil, List.nodup_nil, fun i h => (by cases h), fun i h => (by cases h), fun i _ => ⟨rfl, rfl⟩, fun i _ => rfl, rfl, rfl⟩
theorem Chg.trans {s s1 s2 : VS} {N N' : List (Int × E)} {D D' : List (Int × Int)} (h : Chg s s1 N D) (k : Chg s1 s2 N' D') : Chg s s2 (N ++ N') (D ++ D') := by
 have hd : ∀ i ∈ N.map (·.1), i ∉ N'.map (·.1) := fun i hi hi' => by
  obtain ⟨q, hq, rfl⟩ := List.mem_map.1 hi
  obtain ⟨q', hq', e⟩ := List.mem_map.1 hi'
  have a := (h.new q hq).2.1
  have b := (k.new q' hq').1
  rw [e, a] at b; cases b
 have hdd : ∀ i ∈ D.map (·.1), i ∉ D'.map (·.1) := fun i hi hi' => by
  obtain ⟨q, hq, rfl⟩ := List.mem_map.1 hi
  obtain ⟨q', hq', e⟩ := List.mem_map.1 hi'
  have a := (h.newd q hq).2
  have b := (k.newd q' hq').1
  rw [e, a] at b; cases b
 refine ⟨?_, ?_, fun q hq => ?_, fun q hq => ?_, fun i hi => ?_, fun i hi => ?_, by rw [k.ls, h.ls], by rw [k.lm, h.lm]⟩
 ·rw [List.map_append]; exact List.nodup_append.2 ⟨h.nn, k.nn, fun a ha b hb e => hd a ha (e ▸ hb)⟩
 ·rw [List.map_append]; exact List.nodup_append.2 ⟨h.dn, k.dn, fun a ha b hb e => hdd a ha (e ▸ hb)⟩
 ·rcases List.mem_append.1 hq with hq | hq
  ·have o := k.old q.1 (hd _ (List.mem_map.2 ⟨q, hq, rfl⟩))
   obtain ⟨a, b, c⟩ := h.new q hq
   exact ⟨a, by rw [o.1, b], by rw [o.2, c]⟩
  ·have o := h.old q.1 (fun z => hd _ z (List.mem_map.2 ⟨q, hq, rfl⟩))
   obtain ⟨a, b, c⟩ := k.new q hq
   exact ⟨by rw [← o.1, a], b, c⟩
 ·rcases List.mem_append.1 hq with hq | hq
  ·have o := k.oldd q.1 (hdd _ (List.mem_map.2 ⟨q, hq, rfl⟩))
   obtain ⟨a, b⟩ := h.newd q hq
   exact ⟨a, by rw [o, b]⟩
  ·have o := h.oldd q.1 (fun z => hdd _ z (List.mem_map.2 ⟨q, hq, rfl⟩))
   obtain ⟨a, b⟩ := k.newd q hq
   exact ⟨by rw [← o, a], b⟩
 ·rw [List.map_append, List.mem_append, not_or] at hi
  have a := h.old i hi.1
  have b := k.old i hi.2
  exact ⟨by rw [b.1, a.1], by rw [b.2, a.2]⟩
 ·rw [List.map_append, List.mem_append, not_or] at hi
  rw [k.oldd i hi.2, h.oldd i hi.1]
def mark (s : VS) (n z : Int) (x : ScopeNode) : VS := ⟨s.sz.set n.toNat z, s.met.set n.toNat true, if x.Op = 4 then s.dfs.set x.N.toNat true else s.dfs⟩
theorem aB4 {g : VS → Int → Int → Option VS} : ∀ (l m : List (Int × Int)) (s : VS), dF g s (l ++ m) = (dF g s l).bind fun s => dF g s m
 | [], m, s => rfl
 | x :: l, m, s => by
  simp only [List.cons_append, dF]
  cases g s x.1 x.2 with
  | none => rfl
  | some s1 => exact aB4 l m s1
theorem aEo {m : Int} {d : ScopeDef} : (chs m d).length = d.Chans.length := by simp [chs]
theorem sC {e : E} {m : Int} {d : ScopeDef} : ((inE e m d).length : Int) = e.length + own d := by simp only [inE, own, List.length_append, aEo, List.length_replicate]; omega
theorem aAD {e : E} {m : Int} {d : ScopeDef} {r : ScopeRule} (h : okD d = true) (hr : r ∈ d.Rules) : ((ruE e m d r).length : Int) = e.length + own d + brs d.Chans r.Joins := by
 have b := sY (ch := d.Chans) (js := r.Joins) ((dV h).2.2.2.2 r hr).2
 rw [ruE, List.length_append, List.length_replicate]
 have := sC (e := e) (m := m) (d := d)
 omega
theorem vis_inv {p : ScopeProg} {f : Nat} {s s' : VS} {n : Int} {e : E} (h : vis p (f + 1) s n e.length = some s') :
  ∃ x, idx p.Nodes n = some x ∧ 0 ≤ n ∧ idx s.met n = some false ∧ okT p x e.length ∧ (x.Op = 4 → idx s.dfs x.N = some false) ∧ dF (vis p f) (mark s n e.length x) ((subs p x e).map fun q => (q.1, (q.2.length : Int))) = some s' := by
 simp only [vis] at h
 split at h
 ·rename_i h1
  cases hx : idx p.Nodes n with
  | none => rw [hx] at h; cases h
  | some x =>
   rw [hx, bsm] at h
   split at h
   ·rename_i h2
    refine ⟨x, rfl, h1.1, h1.2.2, ?_⟩
    obtain ⟨⟨k, c, hk, hl, hm⟩, _⟩ := h2
    split at h
    ·rename_i h4
     have hm' : (0 ≤ x.N ∧ x.N < (p.Defs.length : Int) ∧ idx s.dfs x.N = some false) ∧ x.Args.length = 0 := by
      rw [h4] at hk
      simp [shp] at hk
      obtain ⟨rfl, rfl⟩ := hk
      exact hm
     have hk1 : x.Kids.length = 1 := by
      rw [h4] at hk
      simp [shp] at hk
      omega
     cases hd : idx p.Defs x.N with
     | none => rw [hd] at h; cases h
     | some d =>
      rw [hd, bsm] at h
      split at h
      ·rename_i h5
       refine ⟨Or.inr (Or.inr (Or.inr (Or.inr ⟨h4, hk1, hm'.1.1, d, hd, h5⟩))), fun _ => hm'.1.2.2, ?_⟩
       rw [subs, if_pos h4, hd, mark, if_pos h4]
       dsimp only
       rw [List.map_append, List.map_append, aB4]
       have e1 : (d.Rules.map (fun r => (r.Node, ruE e x.N d r))).map (fun q => (q.1, (q.2.length : Int))) = d.Rules.map fun r => (r.Node, (e.length : Int) + own d + brs d.Chans r.Joins) := by
        rw [List.map_map]; exact List.map_congr_left fun r hr => by show (r.Node, ((ruE e x.N d r).length : Int)) = _; rw [aAD h5 hr]
       have e2 : (d.Spots.map (fun y => (y.Node, inE e x.N d))).map (fun q => (q.1, (q.2.length : Int))) = d.Spots.map fun y => (y.Node, (e.length : Int) + own d) := by
        rw [List.map_map]; exact List.map_congr_left fun r hr => by show (r.Node, ((inE e x.N d).length : Int)) = _; rw [sC]
       have e3 : (x.Kids.map (fun y => (y, inE e x.N d))).map (fun q => (q.1, (q.2.length : Int))) = x.Kids.map fun y => (y, (e.length : Int) + own d) := by
        rw [List.map_map]; exact List.map_congr_left fun r hr => by show (r, ((inE e x.N d).length : Int)) = _; rw [sC]
       rw [e1, e2, e3]
       obtain ⟨s1, a1, h⟩ := bind_some h
       rw [a1, bsm, aB4]
       exact h
      ·cases h
    ·rename_i h4
     refine ⟨?_, fun q => absurd q h4, ?_⟩
     ·unfold shp at hk
      repeat' split at hk
      all_goals first | (cases hk; done) | skip
      all_goals cases hk
      ·left; exact ⟨‹_›, hl⟩
      ·right; left; exact ⟨Or.inl ‹_›, hl⟩
      ·right; right; left; exact ⟨‹_›, hm.2, hl, hm.1.1, hm.1.2⟩
      ·right; left; exact ⟨Or.inr ‹_›, hl⟩
      ·right; right; right; left; exact ⟨‹_›, hl⟩
     ·rw [subs, if_neg h4, mark, if_neg h4, List.map_map]
      exact h
   ·cases h
 ·cases h
theorem aFc {p : ScopeProg} {f : Nat} (g : Nat) (ih : ∀ (s s' : VS) (q : Int × E), vis p f s q.1 q.2.length = some s' → s.sz.length = s.met.length → Chg s s' (LN p g q) (HN p g q) ∧ Tr p g q) : ∀ (l : List (Int × E)) (s s' : VS), dF (vis p f) s (l.map fun q => (q.1, (q.2.length : Int))) = some s' → s.sz.length = s.met.length → Chg s s' (l.flatMap (LN p g)) (l.flatMap (HN p g)) ∧ ∀ q ∈ l, Tr p g q
 | [], s, s', h, _ => by cases h; exact ⟨Chg.nil, fun q h => by cases h⟩
 | q :: l, s, s', h, w => by
  simp only [List.map_cons, dF] at h
  obtain ⟨s1, h1, h2⟩ := bind_some h
  obtain ⟨a, b⟩ := ih s s1 q h1 w
  obtain ⟨c, d⟩ := aFc g ih l s1 s' h2 (by rw [a.ls, a.lm, w])
  refine ⟨?_, fun q' hq' => ?_⟩
  ·simp only [List.flatMap_cons]; exact a.trans c
  ·cases hq' with
   | head => exact b
   | tail _ hq' => exact d q' hq'
theorem xF {α : Type} {l : List α} {n : Int} {b : α} (h0 : 0 ≤ n) (h : n < l.length) : idx (l.set n.toNat b) n = some b := by
 have : idx (l.set n.toNat b) (n.toNat : Int) = some b := cZ (by rw [List.getElem?_set, if_pos rfl, if_pos (by omega)])
 rwa [Int.toNat_of_nonneg h0] at this
theorem vZ {α : Type} {l : List α} {n i : Int} {b : α} (h0 : 0 ≤ n) (h : i ≠ n) : idx (l.set n.toNat b) i = idx l i := by
 unfold idx
 split
 ·rename_i hi
  exact List.getElem?_set_ne (by omega)
 ·rfl
theorem fJ {α : Type} {l : List α} {n : Int} {a : α} (h : idx l n = some a) : 0 ≤ n ∧ n < l.length := by
 by_cases c : 0 ≤ n ∧ n < l.length
 ·exact c
 ·rw [jX c] at h; cases h
theorem mark_chg {s : VS} {n : Int} {e : E} {x : ScopeNode} (h0 : 0 ≤ n) (hm : idx s.met n = some false) (hd : x.Op = 4 → idx s.dfs x.N = some false) (w : s.sz.length = s.met.length) : Chg s (mark s n e.length x) [(n, e)] (if x.Op = 4 then [(x.N, n)] else []) := by
 have l := fJ hm
 refine ⟨(by simp), ?_, fun q hq => ?_, fun q hq => ?_, fun i hi => ?_, fun i hi => ?_, by simp [mark], by simp [mark]⟩
 ·split
  ·simp
  ·simp
 ·cases hq with
  | head => exact ⟨hm, xF h0 l.2, xF h0 (by omega)⟩
  | tail _ hq => cases hq
 ·split at hq
  ·rename_i h4
   cases hq with
   | head => exact ⟨hd h4, by rw [mark, if_pos h4]; exact xF (fJ (hd h4)).1 (fJ (hd h4)).2⟩
   | tail _ hq => cases hq
  ·cases hq
 ·have : i ≠ n := fun q => hi (by rw [q]; exact List.mem_singleton.2 rfl)
  exact ⟨vZ h0 this, vZ h0 this⟩
 ·rw [mark]
  split at hi
  ·rename_i h4
   have : i ≠ x.N := fun q => hi (by rw [q]; exact List.mem_singleton.2 rfl)
   rw [if_pos h4]
   exact vZ (fJ (hd h4)).1 this
  ·rename_i h4
   rw [if_neg h4]
theorem aDN {p : ScopeProg} : ∀ (f : Nat) (s s' : VS) (q : Int × E), vis p f s q.1 q.2.length = some s' → s.sz.length = s.met.length → Chg s s' (LN p f q) (HN p f q) ∧ Tr p f q
 | 0, s, s', q, h, _ => by cases h
 | f + 1, s, s', ⟨n, e⟩, h, w => by
  obtain ⟨x, hx, h0, hm, hT, hD, hv⟩ := vis_inv h
  have c := mark_chg (e := e) h0 hm hD w
  obtain ⟨a, b⟩ := aFc f (aDN f) _ _ _ hv (by rw [c.ls, c.lm, w])
  refine ⟨?_, ⟨x, hx, h0, hT, b⟩⟩
  have t := c.trans a
  simp only [LN, HN, hx]
  exact t
end Go.Proofs.YtmnbfgeljmhekaaGreat
set_option maxRecDepth 100000
namespace Go.Proofs.YtmnbfgeljmhekaaGreat
open Go.SX Go.SW Go.Dt
def eM {σ β : Type} (g : σ → β → Option σ) : σ → List β → Option σ
 | s, [] => some s
 | s, b :: l => (g s b).bind fun s => eM g s l
theorem xE {σ β : Type} {g : σ → β → Option σ} : ∀ (l m : List β) (s : σ), eM g s (l ++ m) = (eM g s l).bind fun s => eM g s m
 | [], m, s => rfl
 | x :: l, m, s => by
  simp only [List.cons_append, eM]
  cases g s x with
  | none => rfl
  | some s1 => exact xE l m s1
theorem hO {α : Type} (o : Option α) : (o.bind fun y => some y) = o := by cases o <;> rfl
theorem uW {α γ : Type} {o : Option α} {f g : α → Option γ} (h : ∀ a, f a = g a) : o.bind f = o.bind g := by
 cases o with
 | none => rfl
 | some a => rw [bsm, bsm]; exact h a
theorem ukids {σ : Type} {Y : Int → σ → Option σ} {x : ScopeNode} (suf : List Int) : ∀ (pre : List Int) (k : Nat) (s : σ), x.Kids = pre ++ suf → suf.length < k → pre.length + suf.length ≤ 3000000 → nO Y x k pre.length s = eM (fun s b => Y b s) s suf := by
 induction suf with
 | nil =>
  intro pre k s hx hk hB
  obtain _ | k := k
  ·omega
  rw [nO, if_neg (show ¬ (pre.length : Int) < (x.Kids.length : Int) from by rw [hx]; simp)]; rfl
 | cons e suf ih =>
  intro pre k s hx hk hB
  obtain _ | k := k
  ·omega
  rw [nO, if_pos (show (pre.length : Int) < (x.Kids.length : Int) from by rw [hx]; exact cJ pre suf e), show idx x.Kids (pre.length : Int) = some e from by rw [hx]; exact cL pre suf e, bsm]
  simp only [List.length_cons] at hk hB
  show _ = (Y e s).bind _
  refine uW fun s1 => ?_
  rw [aV (by omega), bsm, bZ pre e]
  exact ih (pre ++ [e]) k s1 (by rw [hx]; exact cN pre suf e) (by omega) (by simp; omega)
theorem uspots {σ : Type} {Y : Int → σ → Option σ} {d : ScopeDef} (suf : List ScopeSpot) : ∀ (pre : List ScopeSpot) (k : Nat) (s : σ), d.Spots = pre ++ suf → suf.length < k → pre.length + suf.length ≤ 3000000 → oS Y d k pre.length s = eM (fun s b => Y b s) s (suf.map (·.Node)) := by
 induction suf with
 | nil =>
  intro pre k s hx hk hB
  obtain _ | k := k
  ·omega
  rw [oS, if_neg (show ¬ (pre.length : Int) < (d.Spots.length : Int) from by rw [hx]; simp)]; rfl
 | cons e suf ih =>
  intro pre k s hx hk hB
  obtain _ | k := k
  ·omega
  rw [oS, if_pos (show (pre.length : Int) < (d.Spots.length : Int) from by rw [hx]; exact cJ pre suf e), show idx d.Spots (pre.length : Int) = some e from by rw [hx]; exact cL pre suf e, bsm]
  simp only [List.length_cons] at hk hB
  show _ = (Y e.Node s).bind _
  refine uW fun s1 => ?_
  rw [aV (by omega), bsm, bZ pre e]
  exact ih (pre ++ [e]) k s1 (by rw [hx]; exact cN pre suf e) (by omega) (by simp; omega)
theorem urules {σ : Type} {Y : Int → σ → Option σ} {d : ScopeDef} (suf : List ScopeRule) : ∀ (pre : List ScopeRule) (k : Nat) (s : σ), d.Rules = pre ++ suf → suf.length < k → pre.length + suf.length ≤ 3000000 → pD Y d k pre.length s = eM (fun s b => Y b s) s (suf.map (·.Node)) := by
 induction suf with
 | nil =>
  intro pre k s hx hk hB
  obtain _ | k := k
  ·omega
  rw [pD, if_neg (show ¬ (pre.length : Int) < (d.Rules.length : Int) from by rw [hx]; simp)]; rfl
 | cons e suf ih =>
  intro pre k s hx hk hB
  obtain _ | k := k
  ·omega
  rw [pD, if_pos (show (pre.length : Int) < (d.Rules.length : Int) from by rw [hx]; exact cJ pre suf e), show idx d.Rules (pre.length : Int) = some e from by rw [hx]; exact cL pre suf e, bsm]
  simp only [List.length_cons] at hk hB
  show _ = (Y e.Node s).bind _
  refine uW fun s1 => ?_
  rw [aV (by omega), bsm, bZ pre e]
  exact ih (pre ++ [e]) k s1 (by rw [hx]; exact cN pre suf e) (by omega) (by simp; omega)
def uK (p : ScopeProg) (x : ScopeNode) : List Int := x.Kids ++ (if x.Op = 4 then match idx p.Defs x.N with | some d => d.Spots.map (·.Node) ++ d.Rules.map (·.Node) | none => [] else [])
theorem aBc {σ : Type} {fuel : Nat} {Y : Int → σ → Option σ} {s : σ} {t : Usage_text} {d : ScopeDef} {n : Int} (hd : idx t.ScopeProg.Defs n = some d) (hf : 100 ≤ fuel) (ho : okD d = true) : sK fuel Y s t n = eM (fun s b => Y b s) s (d.Spots.map (·.Node)) := by
 have b := dV ho
 rw [sK, hd, bsm]
 exact uspots d.Spots [] fuel s rfl (by omega) (by simp; omega)
theorem under_eq {σ : Type} {fuel : Nat} {Y : Int → σ → Option σ} {s : σ} {t : Usage_text} {x : ScopeNode} {n z : Int} (hx : idx t.ScopeProg.Nodes n = some x) (hf : 100 ≤ fuel) (hT : okT t.ScopeProg x z) : xA fuel Y s t n = eM (fun s b => Y b s) s (uK t.ScopeProg x) := by
 have hk : x.Kids.length ≤ 2 := by rcases hT with h | h | h | h | h <;> omega
 have e1 : ∀ s0, nO Y x fuel 0 s0 = eM (fun s b => Y b s) s0 x.Kids := fun s0 => ukids x.Kids [] fuel s0 rfl (by omega) (by simp; omega)
 rw [xA, hx, bsm, e1, uK, xE]
 refine uW fun s1 => ?_
 by_cases h4 : x.Op = 4
 ·rw [if_neg (fun q => q h4), if_pos h4]
  have : ∃ d, idx t.ScopeProg.Defs x.N = some d ∧ okD d = true := by
   rcases hT with h | h | h | h | ⟨_, _, _, h⟩
   ·omega
   ·omega
   ·omega
   ·omega
   ·exact h
  obtain ⟨d, hd, ho⟩ := this
  have b := dV ho
  have e2 : (fun (x : Int) (t : σ) => vQ Y x t) = Y := by
   funext a b; exact hO _
  rw [qX, bsm, e2]
  dsimp only
  rw [aBc hd hf ho, hd]
  dsimp only
  rw [xE]
  refine uW fun s2 => ?_
  rw [bsm]
  exact urules d.Rules [] fuel s2 rfl (by omega) (by simp; omega)
 ·rw [if_pos h4, if_neg h4]; rfl
structure Fld {α : Type} (R : E → α → Prop) (N : List (Int × E)) (D : List (Int × Int)) (s s' : List α × List Int) : Prop where
 l1 : s'.1.length = s.1.length
 l2 : s'.2.length = s.2.length
 on : ∀ q ∈ N, ∃ y, idx s'.1 q.1 = some y ∧ R q.2 y
 hd : ∀ q ∈ D, idx s'.2 q.1 = some q.2
 off : ∀ i, i ∉ N.map (·.1) → idx s'.1 i = idx s.1 i
 offh : ∀ i, i ∉ D.map (·.1) → idx s'.2 i = idx s.2 i
variable {α : Type} {R : E → α → Prop}
theorem Fld.nil {s : List α × List Int} : Fld R [] [] s s := ⟨rfl, rfl, fun q h => (by cases h), fun q h => (by cases h), fun i _ => rfl, fun i _ => rfl⟩
theorem nd_map {β γ : Type} {f : β → γ} {l m : List β} (h : ((l ++ m).map f).Nodup) {a b : β} (ha : a ∈ l) (hb : b ∈ m) : f a ≠ f b := by
 rw [List.map_append, List.nodup_append] at h
 exact h.2.2 _ (List.mem_map.2 ⟨a, ha, rfl⟩) _ (List.mem_map.2 ⟨b, hb, rfl⟩)
theorem Fld.trans {N N' : List (Int × E)} {D D' : List (Int × Int)} {s s1 s2 : List α × List Int} (h : Fld R N D s s1) (k : Fld R N' D' s1 s2) (hn : ((N ++ N').map (·.1)).Nodup) (hd : ((D ++ D').map (·.1)).Nodup) : Fld R (N ++ N') (D ++ D') s s2 := by
 refine ⟨by rw [k.l1, h.l1], by rw [k.l2, h.l2], fun q hq => ?_, fun q hq => ?_, fun i hi => ?_, fun i hi => ?_⟩
 ·rcases List.mem_append.1 hq with hq | hq
  ·rw [k.off q.1 (fun z => by obtain ⟨b, hb, e⟩ := List.mem_map.1 z; exact nd_map hn hq hb e.symm)]; exact h.on q hq
  ·exact k.on q hq
 ·rcases List.mem_append.1 hq with hq | hq
  ·rw [k.offh q.1 (fun z => by obtain ⟨b, hb, e⟩ := List.mem_map.1 z; exact nd_map hd hq hb e.symm)]; exact h.hd q hq
  ·exact k.hd q hq
 ·rw [List.map_append, List.mem_append, not_or] at hi
  rw [k.off i hi.2, h.off i hi.1]
 ·rw [List.map_append, List.mem_append, not_or] at hi
  rw [k.offh i hi.2, h.offh i hi.1]
theorem Fld.congr {N N' : List (Int × E)} {D D' : List (Int × Int)} {s s1 : List α × List Int} (h : Fld R N D s s1) (hn : ∀ q, q ∈ N ↔ q ∈ N') (hd : ∀ q, q ∈ D ↔ q ∈ D') : Fld R N' D' s s1 := by
 refine ⟨h.l1, h.l2, fun q hq => h.on q ((hn q).2 hq), fun q hq => h.hd q ((hd q).2 hq), fun i hi => h.off i fun z => hi ?_, fun i hi => h.offh i fun z => hi ?_⟩
 ·obtain ⟨q, hq, e⟩ := List.mem_map.1 z; exact List.mem_map.2 ⟨q, (hn q).1 hq, e⟩
 ·obtain ⟨q, hq, e⟩ := List.mem_map.1 z; exact List.mem_map.2 ⟨q, (hd q).1 hq, e⟩
theorem aDr {p : ScopeProg} {h : Nat} {β : Type} {key : β → Int × E} {g : List α × List Int → β → Option (List α × List Int)} (l : List β) : ∀ (s : List α × List Int), (∀ b ∈ l, ∀ s0 : List α × List Int, s0.1.length = s.1.length → s0.2.length = s.2.length → ((LN p h (key b)).map (·.1)).Nodup → ((HN p h (key b)).map (·.1)).Nodup → ∃ s', g s0 b = some s' ∧ Fld R (LN p h (key b)) (HN p h (key b)) s0 s') →
  ((l.flatMap fun b => LN p h (key b)).map (·.1)).Nodup → ((l.flatMap fun b => HN p h (key b)).map (·.1)).Nodup → ∃ s', eM g s l = some s' ∧ Fld R (l.flatMap fun b => LN p h (key b)) (l.flatMap fun b => HN p h (key b)) s s' := by
 induction l with
 | nil => intro s _ _ _; exact ⟨s, rfl, Fld.nil⟩
 | cons b l ih =>
  intro s hg hn hd
  rw [List.flatMap_cons] at hn hd
  have hn' := hn; have hd' := hd
  rw [List.map_append, List.nodup_append] at hn' hd'
  obtain ⟨s1, e1, f1⟩ := hg b (List.mem_cons_self ..) s rfl rfl hn'.1 hd'.1
  obtain ⟨s2, e2, f2⟩ := ih s1 (fun c hc s0 a1 a2 => hg c (List.mem_cons_of_mem _ hc) s0 (by rw [a1, f1.l1]) (by rw [a2, f1.l2])) hn'.2.1 hd'.2.1
  refine ⟨s2, ?_, ?_⟩
  ·rw [eM, e1, bsm]; exact e2
  ·rw [List.flatMap_cons, List.flatMap_cons]; exact f1.trans f2 hn hd
end Go.Proofs.YtmnbfgeljmhekaaGreat
set_option maxRecDepth 100000
namespace Go.Proofs.YtmnbfgeljmhekaaGreat
open Go.SX Go.SW Go.Dt
def RP (e : E) (g : aU Int Usage_channel) : Prop := ∀ i : Int, g.get i = (idx e i).bind fun o => o.map fun c => (⟨c.1, c.2⟩ : Usage_channel)
theorem aAn {β : Type} (l m : List β) (i : Int) : idx (l ++ m) i = if i < l.length then idx l i else idx m (i - l.length) := by
 unfold idx
 by_cases h0 : 0 ≤ i
 ·rw [if_pos h0, if_pos h0]
  split
  ·exact List.getElem?_append_left (by omega)
  ·rw [if_pos (by omega), List.getElem?_append_right (by omega), show i.toNat - l.length = (i - l.length).toNat from by omega]
 ·rw [if_neg h0, if_neg h0, if_pos (by omega)]
theorem aD1 {e : E} {g : aU Int Usage_channel} (h : RP e g) (k : Nat) : RP (e ++ List.replicate k none) g := fun i => by
 rw [h i, aAn]
 split
 ·rfl
 ·rename_i hl
  rw [jX (by omega)]
  cases hq : idx (List.replicate k (none : Option (Int × Int))) (i - e.length) with
  | none => rfl
  | some o => rw [List.eq_of_mem_replicate (eD hq)]; rfl
theorem rp_snoc {e : E} {g : aU Int Usage_channel} (h : RP e g) (m c : Int) : RP (e ++ [some (m, c)]) (aU.upd g e.length ⟨m, c⟩) := fun i => by
 show (if i = (e.length : Int) then some (⟨m, c⟩ : Usage_channel) else g.get i) = _
 rw [aAn, h i]
 split
 ·rename_i hi
  rw [if_neg (by omega), hi, Int.sub_self]; rfl
 ·rename_i hi
  split
  ·rfl
  ·rw [jX (by omega), jX (by simp; omega)]
def gE (m : Int) (k : Nat) : E := (List.range k).map fun c : Nat => some (m, (c : Int))
theorem pchans {t : Usage_text} {n : Int} {x : ScopeNode} {d : ScopeDef} {e : E} (hz : idx t.sizes n = some (e.length : Int)) (he : e.length ≤ 1000000) (hd : d.Chans.length ≤ 30) : ∀ (j i k : Nat) (g : aU Int Usage_channel), i + j = d.Chans.length → j < k → RP (e ++ gE x.N i) g →
  ∃ g', lL t n x d k i g = some g' ∧ RP (e ++ chs x.N d) g'
 | 0, i, k, g, h, hk, hR => by
  obtain _ | k := k
  ·omega
  refine ⟨g, by rw [lL, if_neg (by omega)], ?_⟩
  have : chs x.N d = gE x.N i := by rw [chs, gE, show d.Chans.length = i from by omega]
  rw [this]; exact hR
 | j + 1, i, k, g, h, hk, hR => by
  obtain _ | k := k
  ·omega
  rw [lL, if_pos (by omega), hz, bsm, aV (by omega), bsm, aV (by omega), bsm]
  refine pchans hz he hd j (i + 1) k _ (by omega) (by omega) ?_
  have : e ++ gE x.N (i + 1) = (e ++ gE x.N i) ++ [some (x.N, (i : Int))] := by rw [gE, List.range_succ, List.map_append, List.append_assoc]; rfl
  rw [this]
  have l : (e.length : Int) + (i : Int) = ((e ++ gE x.N i).length : Int) := by simp [gE]
  rw [l]
  exact rp_snoc hR _ _
def uE (p : ScopeProg) (x : ScopeNode) (e : E) : List (Int × E) :=
 if x.Op = 4 then match idx p.Defs x.N with
  | some d => x.Kids.map (fun k => (k, inE e x.N d)) ++ (d.Spots.map (fun y => (y.Node, inE e x.N d)) ++ d.Rules.map (fun r => (r.Node, ruE e x.N d r)))
  | none => x.Kids.map (fun k => (k, e))
 else x.Kids.map (fun k => (k, e))
theorem uE_K {p : ScopeProg} {x : ScopeNode} {e : E} : (uE p x e).map (·.1) = uK p x := by
 unfold uE uK
 split
 ·cases idx p.Defs x.N with
  | none => simp [Function.comp_def]
  | some d => simp [Function.comp_def]
 ·simp [Function.comp_def]
theorem aDE {p : ScopeProg} {x : ScopeNode} {e : E} {z : Int} (hT : okT p x z) : (uE p x e).Perm (subs p x e) := by
 unfold uE subs
 split
 ·rename_i h4
  have : ∃ d, idx p.Defs x.N = some d := by
   rcases hT with h | h | h | h | ⟨_, _, _, d, h, _⟩
   ·omega
   ·omega
   ·omega
   ·omega
   ·exact ⟨d, h⟩
  obtain ⟨d, hd⟩ := this
  rw [hd]
  dsimp only
  refine (List.perm_append_comm).trans ?_
  refine (List.Perm.append_right _ List.perm_append_comm).trans ?_
  rw [List.append_assoc]
 ·exact List.Perm.refl _
theorem aBW {σ β γ : Type} {g : σ → γ → Option σ} {f : β → γ} : ∀ (l : List β) (s : σ), eM g s (l.map f) = eM (fun s b => g s (f b)) s l
 | [], s => rfl
 | b :: l, s => by
  simp only [List.map_cons, eM]
  exact uW fun s1 => aBW l s1
theorem rp_in {p : ScopeProg} {x : ScopeNode} {e : E} {g : aU Int Usage_channel} {d : ScopeDef} (hd : idx p.Defs x.N = some d) (h4 : x.Op = 4) (h : RP (e ++ chs x.N d) g) : ∀ q ∈ uE p x e, RP q.2 g := fun q hq => by
 rw [uE, if_pos h4, hd] at hq
 dsimp only at hq
 have hi : RP (inE e x.N d) g := aD1 h _
 rcases List.mem_append.1 hq with hq | hq
 ·obtain ⟨k, _, rfl⟩ := List.mem_map.1 hq; exact hi
 ·rcases List.mem_append.1 hq with hq | hq
  ·obtain ⟨k, _, rfl⟩ := List.mem_map.1 hq; exact hi
  ·obtain ⟨k, _, rfl⟩ := List.mem_map.1 hq; exact aD1 hi _
theorem rp_out {p : ScopeProg} {x : ScopeNode} {e : E} {g : aU Int Usage_channel} (h4 : ¬ x.Op = 4) (h : RP e g) : ∀ q ∈ uE p x e, RP q.2 g := fun q hq => by
 rw [uE, if_neg h4] at hq
 obtain ⟨k, _, rfl⟩ := List.mem_map.1 hq; exact h
theorem aFm {α : Type} {R : E → α → Prop} {n : Int} {e : E} {x : ScopeNode} {den : List α} {heads : List Int} {y : α} (hy : R e y) (h0 : 0 ≤ n ∧ n < den.length) (hx : x.Op = 4 → 0 ≤ x.N ∧ x.N < heads.length) :
  Fld R [(n, e)] (if x.Op = 4 then [(x.N, n)] else []) (den, heads) (den.set n.toNat y, if x.Op = 4 then heads.set x.N.toNat n else heads) := by
 refine ⟨by simp, by dsimp only; split <;> simp, fun q hq => ?_, fun q hq => ?_, fun i hi => ?_, fun i hi => ?_⟩
 ·rw [List.mem_singleton.1 hq]; exact ⟨y, xF h0.1 h0.2, hy⟩
 ·split at hq
  ·rename_i h4
   rw [List.mem_singleton.1 hq]
   dsimp only
   rw [if_pos h4]
   exact xF (hx h4).1 (hx h4).2
  ·cases hq
 ·exact vZ h0.1 fun q => hi (by rw [q]; exact List.mem_singleton.2 rfl)
 ·dsimp only
  split at hi
  ·rename_i h4
   rw [if_pos h4]
   exact vZ (hx h4).1 fun q => hi (by rw [q]; exact List.mem_singleton.2 rfl)
  ·rename_i h4
   rw [if_neg h4]
theorem uE_sub {p : ScopeProg} {h : Nat} {x : ScopeNode} {e : E} {z : Int} (hT : okT p x z) {β : Type} (f : Int × E → List β) : ((uE p x e).flatMap f).Perm ((subs p x e).flatMap f) := (aDE hT).flatMap_right _
theorem e_len {p : ScopeProg} {x : ScopeNode} {e : E} {z : Int} (hT : okT p x z) (h4 : x.Op = 4) : 0 ≤ x.N ∧ ∃ d, idx p.Defs x.N = some d ∧ okD d = true := by
 rcases hT with h | h | h | h | ⟨_, _, h0, h⟩
 ·omega
 ·omega
 ·omega
 ·omega
 ·exact ⟨h0, h⟩
theorem pfill {p : ScopeProg} : ∀ (h fuel : Nat) (n : Int) (e : E) (t : Usage_text) (g : aU Int Usage_channel), h + 100 ≤ fuel → t.ScopeProg = p → Tr p h (n, e) → RP e g → t.denotes.length = p.Nodes.length → t.heads.length = p.Defs.length →
  (∀ q ∈ LN p h (n, e), idx t.sizes q.1 = some (q.2.length : Int) ∧ q.2.length ≤ 1000000) → ((LN p h (n, e)).map (·.1)).Nodup → ((HN p h (n, e)).map (·.1)).Nodup →
  ∃ s', jS fuel t n g = some s' ∧ Fld RP (LN p h (n, e)) (HN p h (n, e)) (t.denotes, t.heads) s'
 | 0, fuel, n, e, t, g, _, _, hT, _, _, _, _, _, _ => hT.elim
 | h + 1, fuel, n, e, t, g, hf, ht, ⟨x, hx, h0, hT, hK⟩, hR, hl1, hl2, hz, hn, hd => by
  obtain _ | fuel := fuel
  ·omega
  dsimp only at hx h0 hT hK
  subst ht
  have hnl := fJ hx
  simp only [LN, HN, hx] at hz hn hd ⊢
  have hp1 := uE_sub (h := h) (e := e) hT (LN t.ScopeProg h)
  have hp2 := uE_sub (h := h) (e := e) hT (HN t.ScopeProg h)
  have hxd : x.Op = 4 → 0 ≤ x.N ∧ x.N < t.heads.length := fun h4 => by
   obtain ⟨a, d, b, _⟩ := e_len (e := e) hT h4
   have := fJ b
   omega
  have hg : ∃ g1, (∀ q ∈ uE t.ScopeProg x e, RP q.2 g1) ∧ ∀ {γ : Type} (K : aU Int Usage_channel × List Int → Option γ),
    (if x.Op = 4 then (idx t.heads x.N).bind fun y3 => (some ()).bind fun _ => ((idx t.ScopeProg.Defs x.N).bind fun y5 => lL t n x y5 fuel 0 g).bind fun x4 => some (x4, t.heads.set x.N.toNat n) else some (g, t.heads)).bind K = K (g1, if x.Op = 4 then t.heads.set x.N.toNat n else t.heads) := by
   by_cases h4 : x.Op = 4
   ·obtain ⟨_, d, b, c⟩ := e_len (e := e) hT h4
    obtain ⟨y3, q3⟩ := dH (hxd h4).1 (hxd h4).2
    have hs := hz (n, e) (List.mem_cons_self ..)
    obtain ⟨g1, q1, r1⟩ := pchans (t := t) (n := n) (x := x) (d := d) (e := e) hs.1 hs.2 (dV c).1 d.Chans.length 0 fuel g (by omega) (by have := (dV c).1; omega) (by rw [show e ++ gE x.N 0 = e from List.append_nil e]; exact hR)
    refine ⟨g1, rp_in b h4 r1, fun K => ?_⟩
    rw [if_pos h4, if_pos h4, q3, bsm, bsm, b, bsm]
    rw [show lL t n x d fuel 0 g = some g1 from q1, bsm, bsm]
   ·exact ⟨g, rp_out h4 hR, fun K => by rw [if_neg h4, if_neg h4, bsm]⟩
  obtain ⟨g1, hg1, hg2⟩ := hg
  obtain ⟨y1, q1⟩ := dH (xs := t.denotes) h0 (by omega)
  have own := aFm (R := RP) (n := n) (e := e) (x := x) (den := t.denotes) (heads := t.heads) hR ⟨h0, by omega⟩ hxd
  have hn' := hn; have hd' := hd
  rw [List.map_cons, List.nodup_cons] at hn'
  rw [List.map_append, List.nodup_append] at hd'
  obtain ⟨s2, e2, f2⟩ := aDr (R := RP) (p := t.ScopeProg) (h := h) (key := id) (g := fun (s : List (aU Int Usage_channel) × List Int) (b : Int × E) => sH (jS fuel) t g1 b.1 s.1 s.2) (uE t.ScopeProg x e) (t.denotes.set n.toNat g, if x.Op = 4 then t.heads.set x.N.toNat n else t.heads)
   (fun b hb s0 a1 a2 b1 b2 => by
    have hb' : b ∈ subs t.ScopeProg x e := (aDE hT).mem_iff.1 hb
    obtain ⟨s', c1, c2⟩ := pfill h fuel b.1 b.2 { t with denotes := s0.1, heads := s0.2 } g1 (by omega) rfl (hK b hb') (hg1 b hb) (by show s0.1.length = _; rw [a1]; simp [hl1]) (by show s0.2.length = _; rw [a2, own.l2]; exact hl2)
     (fun q hq => hz q (List.mem_cons_of_mem _ (List.mem_flatMap.2 ⟨b, hb', hq⟩))) b1 b2
    exact ⟨s', by rw [sH, c1, bsm], c2⟩)
   ((hp1.map _).nodup_iff.2 hn'.2) ((hp2.map _).nodup_iff.2 hd'.2.1)
  refine ⟨s2, ?_, ?_⟩
  ·rw [jS, q1, bsm, hx, bsm, hg2]
   dsimp only
   rw [zB, bsm]
   dsimp only
   rw [under_eq hx (by omega) hT, ← uE_K (e := e), aBW, e2, bsm]
  ·exact own.trans (f2.congr (fun q => hp1.mem_iff) (fun q => hp2.mem_iff)) hn hd
end Go.Proofs.YtmnbfgeljmhekaaGreat
set_option maxRecDepth 100000
namespace Go.Proofs.YtmnbfgeljmhekaaGreat
open Go.SX Go.SW Go.Dt
abbrev unk : Ref05_Chan := ⟨-1, 0⟩
def rc : Option (Int × Int) → Ref05_Chan
 | some c => ⟨c.1, c.2⟩
 | none => unk
theorem fI {β : Type} {l : List β} (h : l.length ≤ 1000000000) : eA l = some l := if_pos h
theorem aCp {n : Int} {l : List Ref05_Chan} (hl : l.length ≤ 1000000) (hn : n ≤ 1000000) : ∀ (j i k : Nat), (i : Int) + j = n → j < k → mH n k (l ++ List.replicate i unk) i = some (l ++ List.replicate n.toNat unk)
 | 0, i, k, h, hk => by
  obtain _ | k := k
  ·omega
  rw [mH, if_neg (by omega), show n.toNat = i from by omega]
 | j + 1, i, k, h, hk => by
  obtain _ | k := k
  ·omega
  have : l ++ List.replicate i unk ++ [unk] = l ++ List.replicate (i + 1) unk := by rw [List.append_assoc, List.replicate_succ']
  rw [mH, if_pos (by omega), this, fI (by simp; omega), bsm, aV (by omega), bsm]
  exact aCp hl hn j (i + 1) k (by omega) (by omega)
theorem aCi {fuel : Nat} {n : Int} {l : List Ref05_Chan} (hl : l.length ≤ 1000000) (h0 : 0 ≤ n) (hn : n ≤ 1000000) (hf : n < fuel) : sX fuel l n = some (l ++ List.replicate n.toNat unk) := by
 have e := aCp hl hn n.toNat 0 fuel (by omega) (by omega)
 rw [sX, List.nil_append, fI (by omega), bsm, show mH n fuel l 0 = some (l ++ List.replicate n.toNat unk) from by rw [← e, List.replicate_zero, List.append_nil]; rfl, bsm]
theorem rchans {x : ScopeNode} {d : ScopeDef} {e : E} (he : e.length ≤ 1000000) (hd : d.Chans.length ≤ 30) : ∀ (j i k : Nat), i + j = d.Chans.length → j < k →
  mT x d k ((e ++ gE x.N i).map rc) i = some ((e ++ chs x.N d).map rc)
 | 0, i, k, h, hk => by
  obtain _ | k := k
  ·omega
  have : chs x.N d = gE x.N i := by rw [chs, gE, show d.Chans.length = i from by omega]
  rw [mT, if_neg (by omega), this]
 | j + 1, i, k, h, hk => by
  obtain _ | k := k
  ·omega
  have : (e ++ gE x.N i).map rc ++ [(⟨x.N, (i : Int)⟩ : Ref05_Chan)] = (e ++ gE x.N (i + 1)).map rc := by
   rw [show e ++ gE x.N (i + 1) = (e ++ gE x.N i) ++ [some (x.N, (i : Int))] from by rw [gE, List.range_succ, List.map_append, List.append_assoc]; rfl]
   exact (List.map_append (l₁ := e ++ gE x.N i) (l₂ := [some (x.N, (i : Int))]) (f := rc)).symm
  rw [mT, if_pos (by omega), this, fI (by simp [gE]; omega), bsm, aV (by omega), bsm]
  exact rchans he hd j (i + 1) k (by omega) (by omega)
theorem rbrs {d : ScopeDef} {r : ScopeRule} {i : Int} (hi : idx d.Rules i = some r) (suf : List Int) : ∀ (pre : List Int) (k : Nat) (w : Int), r.Joins = pre ++ suf → suf.length < k → pre.length + suf.length ≤ 1000 → 0 ≤ w → w + 3 * suf.length ≤ 100000 → (∀ c ∈ suf, ∃ y, idx d.Chans c = some y ∧ 0 ≤ y.Many ∧ y.Many ≤ 3) →
  mM d i k w pre.length = some (w + brs d.Chans suf) := by
 induction suf with
 | nil =>
  intro pre k w hx hk hB h0 h1 hc
  obtain _ | k := k
  ·omega
  rw [mM, hi, bsm, if_neg (show ¬ (pre.length : Int) < (r.Joins.length : Int) from by rw [hx]; simp), brs, Int.add_zero]
 | cons c suf ih =>
  intro pre k w hx hk hB h0 h1 hc
  obtain _ | k := k
  ·omega
  obtain ⟨y, hy, hy0, hy1⟩ := hc c (List.mem_cons_self ..)
  simp only [List.length_cons] at hk hB h1
  rw [mM, hi, bsm, if_pos (show (pre.length : Int) < (r.Joins.length : Int) from by rw [hx]; exact cJ pre suf c), bsm, show idx r.Joins (pre.length : Int) = some c from by rw [hx]; exact cL pre suf c, bsm, hy, bsm, aV (by omega), bsm, aV (by omega), bsm, bZ pre c]
  rw [ih (pre ++ [c]) k (w + y.Many) (by rw [hx]; exact cN pre suf c) (by omega) (by simp; omega) (by omega) (by omega) (fun c hc' => hc c (List.mem_cons_of_mem _ hc'))]
  simp only [brs, hy]; congr 1; omega
abbrev RS := List (List Ref05_Chan) × List Int
open Classical in
noncomputable def RG (rec : Ref05_Look → Int → List Ref05_Chan → Option Ref05_Look) (p : ScopeProg) (sz : List Int) (s : RS) (b : Int × List Ref05_Chan) : Option RS :=
 match rec ⟨p, s.1, sz, s.2⟩ b.1 b.2 with
 | some L => if L.p = p ∧ L.Sizes = sz then some (L.Envs, L.Heads) else none
 | none => none
theorem yQ {rec : Ref05_Look → Int → List Ref05_Chan → Option Ref05_Look} {p : ScopeProg} {sz : List Int} {s s' : RS} {b : Int × List Ref05_Chan} (h : RG rec p sz s b = some s') : rec ⟨p, s.1, sz, s.2⟩ b.1 b.2 = some ⟨p, s'.1, sz, s'.2⟩ := by
 unfold RG at h
 split at h
 ·rename_i L e
  split at h
  ·rename_i hc
   cases h
   rw [e, ← hc.1, ← hc.2]
  ·cases h
 ·cases h
theorem RG_in {rec : Ref05_Look → Int → List Ref05_Chan → Option Ref05_Look} {p : ScopeProg} {sz : List Int} {s s' : RS} {b : Int × List Ref05_Chan} (h : rec ⟨p, s.1, sz, s.2⟩ b.1 b.2 = some ⟨p, s'.1, sz, s'.2⟩) : RG rec p sz s b = some s' := by
 unfold RG
 rw [h]
 exact if_pos ⟨rfl, rfl⟩
variable {rec : Ref05_Look → Int → List Ref05_Chan → Option Ref05_Look} {p : ScopeProg} {sz : List Int}
theorem rkids {l : List Ref05_Chan} {x : ScopeNode} (suf : List Int) : ∀ (pre : List Int) (k : Nat) (s s' : RS), x.Kids = pre ++ suf → suf.length < k → pre.length + suf.length ≤ 3000000 → eM (RG rec p sz) s (suf.map fun b => (b, l)) = some s' →
  oG rec l x k pre.length p.Free p.Nodes p.Defs p.Main s.1 sz s.2 = some (p.Free, p.Nodes, p.Defs, p.Main, s'.1, sz, s'.2) := by
 induction suf with
 | nil =>
  intro pre k s s' hx hk hB h
  obtain _ | k := k
  ·omega
  cases h
  rw [oG, if_neg (show ¬ (pre.length : Int) < (x.Kids.length : Int) from by rw [hx]; simp)]
 | cons e suf ih =>
  intro pre k s s' hx hk hB h
  obtain _ | k := k
  ·omega
  simp only [List.map_cons, eM] at h
  obtain ⟨s1, h1, h2⟩ := bind_some h
  simp only [List.length_cons] at hk hB
  rw [oG, if_pos (show (pre.length : Int) < (x.Kids.length : Int) from by rw [hx]; exact cJ pre suf e), show idx x.Kids (pre.length : Int) = some e from by rw [hx]; exact cL pre suf e, bsm, show rec ⟨⟨p.Free, p.Nodes, p.Defs, p.Main⟩, s.1, sz, s.2⟩ e l = _ from yQ h1, bsm, aV (by omega), bsm, bZ pre e]
  exact ih (pre ++ [e]) k s1 s' (by rw [hx]; exact cN pre suf e) (by omega) (by simp; omega) h2
theorem rspots {l : List Ref05_Chan} {d : ScopeDef} (suf : List ScopeSpot) : ∀ (pre : List ScopeSpot) (k : Nat) (s s' : RS), d.Spots = pre ++ suf → suf.length < k → pre.length + suf.length ≤ 3000000 → eM (RG rec p sz) s (suf.map fun b => (b.Node, l)) = some s' →
  mA rec d l k pre.length p.Free p.Nodes p.Defs p.Main s.1 sz s.2 = some (p.Free, p.Nodes, p.Defs, p.Main, s'.1, sz, s'.2) := by
 induction suf with
 | nil =>
  intro pre k s s' hx hk hB h
  obtain _ | k := k
  ·omega
  cases h
  rw [mA, if_neg (show ¬ (pre.length : Int) < (d.Spots.length : Int) from by rw [hx]; simp)]
 | cons e suf ih =>
  intro pre k s s' hx hk hB h
  obtain _ | k := k
  ·omega
  simp only [List.map_cons, eM] at h
  obtain ⟨s1, h1, h2⟩ := bind_some h
  simp only [List.length_cons] at hk hB
  rw [mA, if_pos (show (pre.length : Int) < (d.Spots.length : Int) from by rw [hx]; exact cJ pre suf e), show idx d.Spots (pre.length : Int) = some e from by rw [hx]; exact cL pre suf e, bsm, show rec ⟨⟨p.Free, p.Nodes, p.Defs, p.Main⟩, s.1, sz, s.2⟩ e.Node l = _ from yQ h1, bsm, aV (by omega), bsm, bZ pre e]
  exact ih (pre ++ [e]) k s1 s' (by rw [hx]; exact cN pre suf e) (by omega) (by simp; omega) h2
theorem rrules {fuel : Nat} (hf : 1000 ≤ fuel) {l : List Ref05_Chan} (hl : l.length ≤ 1000000) {d : ScopeDef} (hd : okD d = true) (suf : List ScopeRule) : ∀ (pre : List ScopeRule) (k : Nat) (s s' : RS), d.Rules = pre ++ suf → suf.length < k → pre.length + suf.length ≤ 3000000 →
  eM (RG rec p sz) s (suf.map fun b => (b.Node, l ++ List.replicate (brs d.Chans b.Joins).toNat unk)) = some s' →
  nD fuel rec d l k pre.length p.Free p.Nodes p.Defs p.Main s.1 sz s.2 = some (p.Free, p.Nodes, p.Defs, p.Main, s'.1, sz, s'.2) := by
 induction suf with
 | nil =>
  intro pre k s s' hx hk hB h
  obtain _ | k := k
  ·omega
  cases h
  rw [nD, if_neg (show ¬ (pre.length : Int) < (d.Rules.length : Int) from by rw [hx]; simp)]
 | cons e suf ih =>
  intro pre k s s' hx hk hB h
  obtain _ | k := k
  ·omega
  simp only [List.map_cons, eM] at h
  obtain ⟨s1, h1, h2⟩ := bind_some h
  simp only [List.length_cons] at hk hB
  have hi : idx d.Rules (pre.length : Int) = some e := by rw [hx]; exact cL pre suf e
  have hm := (dV hd).2.2.2.2 e (eD hi)
  have hb := sY (ch := d.Chans) (js := e.Joins) hm.2
  have hj := rbrs hi e.Joins [] fuel 0 rfl (by omega) (by simp; omega) (by omega) (by omega) hm.2
  rw [Int.zero_add] at hj
  rw [nD, if_pos (show (pre.length : Int) < (d.Rules.length : Int) from by rw [hx]; exact cJ pre suf e), show mM d pre.length fuel 0 0 = some (brs d.Chans e.Joins) from hj, bsm, hi, bsm, aCi hl hb.1 (by omega) (by omega), bsm, show rec ⟨⟨p.Free, p.Nodes, p.Defs, p.Main⟩, s.1, sz, s.2⟩ e.Node _ = _ from yQ h1, bsm, bsm]
  dsimp only
  rw [aV (by omega), bsm, bZ pre e]
  exact ih (pre ++ [e]) k s1 s' (by rw [hx]; exact cN pre suf e) (by omega) (by simp; omega) h2
def RR (e : E) (l : List Ref05_Chan) : Prop := l = e.map rc
theorem aAW (k : Nat) : (List.replicate k (none : Option (Int × Int))).map rc = List.replicate k unk := by rw [List.map_replicate]; rfl
theorem rc_in {e : E} {m : Int} {d : ScopeDef} : (inE e m d).map rc = (e ++ chs m d).map rc ++ List.replicate d.Spots.length unk := by
 rw [inE, List.map_append, aAW]
theorem rc_ru {e : E} {m : Int} {d : ScopeDef} {r : ScopeRule} : (ruE e m d r).map rc = (inE e m d).map rc ++ List.replicate (brs d.Chans r.Joins).toNat unk := by
 rw [ruE, List.map_append, aAW]
theorem rfill {p : ScopeProg} {sz : List Int} : ∀ (h fuel : Nat) (n : Int) (e : E) (s : RS), h + 1000 ≤ fuel → Tr p h (n, e) → s.1.length = p.Nodes.length → s.2.length = p.Defs.length →
  (∀ q ∈ LN p h (n, e), q.2.length ≤ 100000) → ((LN p h (n, e)).map (·.1)).Nodup → ((HN p h (n, e)).map (·.1)).Nodup →
  ∃ s' : RS, fN fuel ⟨p, s.1, sz, s.2⟩ n (e.map rc) = some ⟨p, s'.1, sz, s'.2⟩ ∧ Fld RR (LN p h (n, e)) (HN p h (n, e)) s s'
 | 0, fuel, n, e, s, _, hT, _, _, _, _, _ => hT.elim
 | h + 1, fuel, n, e, s, hf, ⟨x, hx, h0, hT, hK⟩, hl1, hl2, hz, hn, hd => by
  obtain _ | fuel := fuel
  ·omega
  dsimp only at hx h0 hT hK
  have hnl := fJ hx
  simp only [LN, HN, hx] at hz hn hd ⊢
  have hxd : x.Op = 4 → 0 ≤ x.N ∧ x.N < s.2.length := fun h4 => by
   obtain ⟨a, d, b, _⟩ := e_len (e := e) hT h4
   have := fJ b
   omega
  obtain ⟨y1, q1⟩ := dH (xs := s.1) h0 (by omega)
  have hown := aFm (R := RR) (n := n) (e := e) (x := x) (den := s.1) (heads := s.2) (y := e.map rc) rfl ⟨h0, by omega⟩ hxd
  have hn' := hn; have hd' := hd
  rw [List.map_cons, List.nodup_cons] at hn'
  rw [List.map_append, List.nodup_append] at hd'
  obtain ⟨s2, e2, f2⟩ := aDr (R := RR) (p := p) (h := h) (key := id) (g := fun (s : RS) (b : Int × E) => RG (fN fuel) p sz s (b.1, b.2.map rc)) (subs p x e) (s.1.set n.toNat (e.map rc), if x.Op = 4 then s.2.set x.N.toNat n else s.2)
   (fun b hb s0 a1 a2 b1 b2 => by
    obtain ⟨s', c1, c2⟩ := rfill h fuel b.1 b.2 s0 (by omega) (hK b hb) (by rw [a1]; simp [hl1]) (by rw [a2, hown.l2]; exact hl2)
     (fun q hq => hz q (List.mem_cons_of_mem _ (List.mem_flatMap.2 ⟨b, hb, hq⟩))) b1 b2
    exact ⟨s', RG_in c1, c2⟩)
   hn'.2 hd'.2.1
  refine ⟨s2, ?_, hown.trans f2 hn hd⟩
  rw [← aBW (g := RG (fN fuel) p sz) (f := fun b : Int × E => (b.1, b.2.map rc))] at e2
  rw [fN, q1, bsm, hx, bsm]
  by_cases h4 : x.Op = 4
  ·obtain ⟨_, d, b, c⟩ := e_len (e := e) hT h4
   have hk1 : x.Kids.length = 1 := by rcases hT with h | h | h | h | h <;> omega
   obtain ⟨k, hk⟩ := List.length_eq_one_iff.1 hk1
   obtain ⟨y3, q3⟩ := dH (hxd h4).1 (hxd h4).2
   have bd := dV c
   have he : e.length ≤ 100000 := hz (n, e) (List.mem_cons_self ..)
   have rch := rchans (x := x) (d := d) (e := e) (by omega) bd.1 d.Chans.length 0 fuel (by omega) (by omega)
   rw [show e ++ gE x.N 0 = e from List.append_nil e] at rch
   rw [subs, if_pos h4, b] at e2
   dsimp only at e2
   rw [if_pos h4, List.map_append, List.map_append, xE] at e2
   obtain ⟨s3, i1, e2⟩ := bind_some e2
   rw [xE] at e2
   obtain ⟨s4, i2, e2⟩ := bind_some e2
   have e1 : (d.Rules.map (fun r => (r.Node, ruE e x.N d r))).map (fun b : Int × E => (b.1, b.2.map rc)) = d.Rules.map fun r => (r.Node, (inE e x.N d).map rc ++ List.replicate (brs d.Chans r.Joins).toNat unk) := by
    rw [List.map_map]; exact List.map_congr_left fun r hr => by show (r.Node, (ruE e x.N d r).map rc) = _; rw [rc_ru]
   have e3 : (d.Spots.map (fun y => (y.Node, inE e x.N d))).map (fun b : Int × E => (b.1, b.2.map rc)) = d.Spots.map fun y => (y.Node, (inE e x.N d).map rc) := by
    rw [List.map_map]; rfl
   rw [e1] at i1
   rw [e3] at i2
   rw [hk] at e2
   simp only [List.map_cons, List.map_nil, eM] at e2
   obtain ⟨s5, i3, e2⟩ := bind_some e2
   cases e2
   have hin : ((inE e x.N d).map rc).length ≤ 1000000 := by rw [List.length_map]; have := sC (e := e) (m := x.N) (d := d); unfold own at this; omega
   rw [if_neg (fun q => q h4), bsm]
   dsimp only
   rw [q3, bsm, b, bsm, List.nil_append, fI (by rw [List.length_map]; omega), bsm, show mT x d fuel (e.map rc) 0 = _ from rch, bsm, aCi (by rw [List.length_map, List.length_append, aEo]; omega) (by omega) (by omega) (by omega), bsm, Int.toNat_natCast, ← rc_in,
    show nD fuel (fN fuel) d ((inE e x.N d).map rc) fuel 0 p.Free p.Nodes p.Defs p.Main (s.1.set n.toNat (e.map rc)) sz (s.2.set x.N.toNat n) = _ from rrules (by omega) hin c d.Rules [] fuel (s.1.set n.toNat (e.map rc), s.2.set x.N.toNat n) s3 rfl (by omega) (by simp; omega) i1, bsm]
   dsimp only
   rw [show mA (fN fuel) d ((inE e x.N d).map rc) fuel 0 p.Free p.Nodes p.Defs p.Main s3.1 sz s3.2 = _ from rspots d.Spots [] fuel s3 s4 rfl (by omega) (by simp; omega) i2, bsm]
   dsimp only
   rw [hk, show idx [k] (0 : Int) = some k from rfl, bsm, show fN fuel ⟨⟨p.Free, p.Nodes, p.Defs, p.Main⟩, s4.1, sz, s4.2⟩ k ((inE e x.N d).map rc) = _ from yQ i3, bsm]
  ·have hk : x.Kids.length ≤ 2 := by rcases hT with h | h | h | h | h <;> omega
   rw [subs, if_neg h4, if_neg h4, List.map_map] at e2
   rw [if_pos h4, show oG (fN fuel) (e.map rc) x fuel 0 p.Free p.Nodes p.Defs p.Main (s.1.set n.toNat (e.map rc)) sz s.2 = _ from rkids x.Kids [] fuel (s.1.set n.toNat (e.map rc), s.2) s2 rfl (by omega) (by simp; omega) e2, bsm]
   rfl
end Go.Proofs.YtmnbfgeljmhekaaGreat
set_option maxRecDepth 100000
namespace Go.Proofs.YtmnbfgeljmhekaaGreat
open Go.SX Go.SW Go.Dt
variable {p : ScopeProg}
def cT (p : ScopeProg) : Int × E := (p.Main, List.replicate p.Free.length none)
theorem qS {x : ScopeNode} {z : Int} (hT : okT p x z) (h4 : x.Op = 4) : 0 ≤ x.N ∧ x.Kids.length = 1 ∧ ∃ d, idx p.Defs x.N = some d ∧ okD d = true := by
 rcases hT with h | h | h | h | ⟨_, h1, h0, h⟩
 ·omega
 ·omega
 ·omega
 ·omega
 ·exact ⟨h0, h1, h⟩
theorem xS {P : E → Prop} {x : ScopeNode} {e : E} {z : Int} (hin : ∀ m d, idx p.Defs m = some d → okD d = true → P (inE e m d)) (hru : ∀ m d r, idx p.Defs m = some d → okD d = true → r ∈ d.Rules → P (ruE e m d r)) (hT : okT p x z) (he : P e) : ∀ q ∈ subs p x e, P q.2 := fun q hq => by
 unfold subs at hq
 split at hq
 ·rename_i h4
  obtain ⟨_, _, d, hd, ho⟩ := qS hT h4
  rw [hd] at hq
  dsimp only at hq
  rcases List.mem_append.1 hq with hq | hq
  ·obtain ⟨r, hr, rfl⟩ := List.mem_map.1 hq; exact hru x.N d r hd ho hr
  ·rcases List.mem_append.1 hq with hq | hq
   ·obtain ⟨r, hr, rfl⟩ := List.mem_map.1 hq; exact hin x.N d hd ho
   ·obtain ⟨r, hr, rfl⟩ := List.mem_map.1 hq; exact hin x.N d hd ho
 ·obtain ⟨r, hr, rfl⟩ := List.mem_map.1 hq; exact he
theorem ln_all {P : E → Prop} (hin : ∀ e m d, idx p.Defs m = some d → okD d = true → P e → P (inE e m d)) (hru : ∀ e m d r, idx p.Defs m = some d → okD d = true → r ∈ d.Rules → P e → P (ruE e m d r)) : ∀ (h : Nat) (q : Int × E), Tr p h q → P q.2 → ∀ b ∈ LN p h q, P b.2
 | 0, q, hT, _, b, hb => hT.elim
 | h + 1, q, ⟨x, hx, h0, hT, hK⟩, he, b, hb => by
  simp only [LN, hx] at hb
  cases hb with
  | head => exact he
  | tail _ hb =>
   obtain ⟨c, hc, hb⟩ := List.mem_flatMap.1 hb
   exact ln_all hin hru h c (hK c hc) (xS (fun m d a b => hin _ m d a b he) (fun m d r a b c => hru _ m d r a b c he) hT he c hc) b hb
theorem zM : ∀ (h : Nat) (q : Int × E), Tr p h q → ∀ b ∈ LN p h q, b.2.length ≤ q.2.length + 70 * h
 | 0, q, hT, b, hb => hT.elim
 | h + 1, q, ⟨x, hx, h0, hT, hK⟩, b, hb => by
  simp only [LN, hx] at hb
  cases hb with
  | head => omega
  | tail _ hb =>
   obtain ⟨c, hc, hb⟩ := List.mem_flatMap.1 hb
   have a := zM h c (hK c hc) b hb
   have c1 : c.2.length ≤ q.2.length + 70 := xS (P := fun e => e.length ≤ q.2.length + 70) (e := q.2)
    (fun m d h1 h2 => by have a := sC (e := q.2) (m := m) (d := d); have b := dV h2; unfold own at a; omega)
    (fun m d r h1 h2 h3 => by have a := aAD (e := q.2) (m := m) h2 h3; have b := dV h2; have c := (b.2.2.2.2 r h3); have d := sY c.2; have := c.1; unfold own at a; omega) hT (by omega) c hc
   omega
theorem aAU {s : VS} (h : eY p = some s) : ∃ H, p.Nodes.length = H ∧ H ≤ 60 ∧ p.Defs.length ≤ 12 ∧ p.Free.length ≤ 12 ∧ Tr p H (cT p) ∧ s.sz.length = p.Nodes.length ∧ ((LN p H (cT p)).map (·.1)).Nodup ∧ ((HN p H (cT p)).map (·.1)).Nodup ∧ (∀ q ∈ LN p H (cT p), idx s.sz q.1 = some (q.2.length : Int)) ∧
  (∀ n : Int, 0 ≤ n → n < p.Nodes.length → ∃ e, (n, e) ∈ LN p H (cT p)) ∧ ∀ d : Int, 0 ≤ d → d < p.Defs.length → ∃ n, (d, n) ∈ HN p H (cT p) := by
 unfold eY at h
 split at h
 ·rename_i hb
  obtain ⟨s1, h1, h⟩ := bind_some h
  split at h
  ·rename_i hm
   cases h
   have e1 : (p.Free.length : Int) = ((cT p).2.length : Int) := by simp [cT]
   rw [e1] at h1
   obtain ⟨c, t⟩ := aDN p.Nodes.length (start p) s (cT p) h1 (by simp [start])
   refine ⟨_, rfl, hb.2.1, hb.2.2.1, hb.1, t, by rw [c.ls]; simp [start], c.nn, c.dn, fun q hq => (c.new q hq).2.2, fun n h0 hn => ?_, fun d h0 hn => ?_⟩
   ·apply Classical.byContradiction
    intro q
    have hi : n ∉ (LN p p.Nodes.length (cT p)).map (·.1) := fun z => by obtain ⟨⟨a, e⟩, hq, rfl⟩ := List.mem_map.1 z; exact q ⟨e, hq⟩
    have o := (c.old n hi).1
    obtain ⟨y, hy⟩ := dH (xs := s.met) h0 (by rw [c.lm]; simp [start]; exact hn)
    have y1 : y = true := by have := List.all_eq_true.1 hm.1 y (eD hy); exact this
    rw [hy, y1] at o
    have := eD o.symm
    simp [start] at this
   ·apply Classical.byContradiction
    intro q
    have hi : d ∉ (HN p p.Nodes.length (cT p)).map (·.1) := fun z => by obtain ⟨⟨a, e⟩, hq, rfl⟩ := List.mem_map.1 z; exact q ⟨e, hq⟩
    have o := c.oldd d hi
    have hs : idx (start p).dfs d = some false := by
     obtain ⟨y, hy⟩ := dH (xs := (start p).dfs) h0 (by simp [start]; exact hn)
     have := eD hy
     simp [start] at this
     rw [hy, this.2]
    rw [hs] at o
    have := List.all_eq_true.1 hm.2 false (eD o)
    cases this
  ·cases h
 ·cases h
structure TP (p : ScopeProg) (H : Nat) (sz : List Int) (t : Usage_text) : Prop where
 prog : t.ScopeProg = p
 sizes : t.sizes = sz
 on : ∀ q ∈ LN p H (cT p), ∃ g, idx t.denotes q.1 = some g ∧ RP q.2 g
 hd : ∀ q ∈ HN p H (cT p), idx t.heads q.1 = some q.2
structure LP (p : ScopeProg) (H : Nat) (sz : List Int) (L : Ref05_Look) : Prop where
 prog : L.p = p
 sizes : L.Sizes = sz
 on : ∀ q ∈ LN p H (cT p), ∃ g, idx L.Envs q.1 = some g ∧ RR q.2 g
 hd : ∀ q ∈ HN p H (cT p), idx L.Heads q.1 = some q.2
theorem mk_ok {α : Type} {z : α} {n : Nat} (h : n ≤ 1000000000) : mk z (n : Int) = some (List.replicate n z) := by unfold mk; rw [if_pos (by omega), Int.toNat_natCast]
theorem rp_root {n : Nat} : RP (List.replicate n none) aU.none := fun i => by
 cases hq : idx (List.replicate n (none : Option (Int × Int))) i with
 | none => rfl
 | some o => rw [List.eq_of_mem_replicate (eD hq)]; rfl
theorem read_eq (hp : SmP p) {s : VS} (h : eY p = some s) {H : Nat} (hH : p.Nodes.length = H) : ∃ t, qG F p = some t ∧ TP p H s.sz t := by
 obtain ⟨H', h1, h2, h3, h4, hT, hl, hn, hd, hz, _, _⟩ := aAU h
 have : H' = H := by omega
 subst this
 obtain ⟨s', e, f⟩ := pfill (p := p) H' F p.Main (List.replicate p.Free.length none) ⟨p, List.replicate p.Nodes.length aU.none, s.sz, List.replicate p.Defs.length 0⟩ aU.none (by show _ ≤ 4000000; omega) rfl hT rp_root (by simp) (by simp)
  (fun q hq => ⟨hz q hq, by have := zM H' (cT p) hT q hq; have b : (cT p).2.length ≤ 12 := (by simp [cT]; omega); omega⟩) hn hd
 refine ⟨⟨p, s'.1, s.sz, s'.2⟩, ?_, rfl, rfl, f.on, f.hd⟩
 rw [qG, mk_ok (by omega), bsm, mk_ok (by omega), bsm, show uU F ⟨p.Free, p.Nodes, p.Defs, p.Main⟩ = _ from sizes_eq hp h hl (by omega), bsm]
 dsimp only
 rw [show jS F ⟨⟨p.Free, p.Nodes, p.Defs, p.Main⟩, List.replicate p.Nodes.length aU.none, s.sz, List.replicate p.Defs.length 0⟩ p.Main aU.none = _ from e, bsm]
theorem see1 {p : ScopeProg} (hB : p.Nodes.length ≤ 1000) : ∀ (j i k : Nat), i + j = p.Nodes.length → j < k → nN p k i (List.replicate i []) = some (List.replicate p.Nodes.length [])
 | 0, i, k, h, hk => by
  obtain _ | k := k
  ·omega
  rw [nN, if_neg (by omega), show i = p.Nodes.length from by omega]
 | j + 1, i, k, h, hk => by
  obtain _ | k := k
  ·omega
  rw [nN, if_pos (by omega), ← List.replicate_succ', fI (by simp; omega), bsm, aV (by omega), bsm]
  exact see1 hB j (i + 1) k (by omega) (by omega)
theorem see2 {p : ScopeProg} (hB : p.Defs.length ≤ 1000) : ∀ (j i k : Nat), i + j = p.Defs.length → j < k → nP p k i (List.replicate i 0) = some (List.replicate p.Defs.length 0)
 | 0, i, k, h, hk => by
  obtain _ | k := k
  ·omega
  rw [nP, if_neg (by omega), show i = p.Defs.length from by omega]
 | j + 1, i, k, h, hk => by
  obtain _ | k := k
  ·omega
  rw [nP, if_pos (by omega), ← List.replicate_succ', fI (by simp; omega), bsm, aV (by omega), bsm]
  exact see2 hB j (i + 1) k (by omega) (by omega)
theorem see_eq (hp : SmP p) {s : VS} (h : eY p = some s) {H : Nat} (hH : p.Nodes.length = H) : ∃ L, tN F p = some L ∧ LP p H s.sz L := by
 obtain ⟨H', h1, h2, h3, h4, hT, hl, hn, hd, hz, _, _⟩ := aAU h
 have : H' = H := by omega
 subst this
 obtain ⟨s', e, f⟩ := rfill (p := p) (sz := s.sz) H' F p.Main (List.replicate p.Free.length none) (List.replicate p.Nodes.length [], List.replicate p.Defs.length 0) (by show _ ≤ 4000000; omega) hT (by simp) (by simp)
  (fun q hq => by have := zM H' (cT p) hT q hq; have b : (cT p).2.length ≤ 12 := (by simp [cT]; omega); omega) hn hd
 refine ⟨⟨p, s'.1, s.sz, s'.2⟩, ?_, rfl, rfl, f.on, f.hd⟩
 have u := aCi (fuel := F) (n := (p.Free.length : Int)) (l := []) (by simp) (by omega) (by omega) (by show _ < ((4000000 : Nat) : Int); omega)
 rw [List.nil_append, Int.toNat_natCast, ← aAW] at u
 rw [tN, show tY F ⟨p.Free, p.Nodes, p.Defs, p.Main⟩ = _ from aHw hp h, bsm, show nN p F 0 [] = _ from see1 (by omega) p.Nodes.length 0 F (by omega) (by show _ < 4000000; omega), bsm, show nP p F 0 [] = _ from see2 (by omega) p.Defs.length 0 F (by omega) (by show _ < 4000000; omega), bsm, u, bsm,
  show fN F ⟨⟨p.Free, p.Nodes, p.Defs, p.Main⟩, List.replicate p.Nodes.length [], s.sz, List.replicate p.Defs.length 0⟩ p.Main _ = _ from e, bsm]
end Go.Proofs.YtmnbfgeljmhekaaGreat
