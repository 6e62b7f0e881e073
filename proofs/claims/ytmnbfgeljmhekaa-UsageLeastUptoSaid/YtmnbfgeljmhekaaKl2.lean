/- Parts of the proof: lemmas, and the steps through the program. -/
import Derived.Test.YtmnbfgeljmhekaaKl1
set_option linter.unusedVariables false
set_option linter.unusedSimpArgs false
set_option maxRecDepth 100000
set_option maxHeartbeats 2000000
namespace Go.Proofs.Ytmnbfgeljmhekaa
open Go.SX Go.SW Go.Dt
attribute [local irreducible] Code.wpIn wpListIn Exit.then Exit.inBlock
def iZ (fuel : Nat) (a2 : Int) (y5 : ScopeNode) : Nat → Int → Bool → Option (Bool)
| 0, _, _ => none
| k + 1, x4, x5 =>
 if x4 < (y5.Args.length : Int) then
  (bif x5 then
   some true
  else
   (idx y5.Args x4).bind fun y7 =>
   (wH fuel y7 a2).bind fun y8 =>
   some (!y8)).bind fun x6 =>
  (chk (x4 + 1)).bind fun z2 =>
  iZ fuel a2 y5 k z2 x6
 else
  some x5
def jC (rec_r03_look_node : Ref03_look → Int → Int → Option (Ref03_look)) (y5 : ScopeNode) (x7 : Int) : Nat → Int → (List ByteArray) → (List ScopeNode) → (List ScopeDef) → Int → (List Int) → (List Int) → (List Int) → Bool → Option (Ref03_look)
| 0, _, _, _, _, _, _, _, _, _ => none
| k + 1, x26, x27, x28, x29, x30, x31, x32, x33, x34 =>
 if x26 < (y5.Kids.length : Int) then
  bif x34 then
   some (⟨(⟨x27, x28, x29, x30⟩ : ScopeProg), x31, x32, x33, x34⟩ : Ref03_look)
  else
   (idx y5.Kids x26).bind fun y16 =>
   (rec_r03_look_node (⟨(⟨x27, x28, x29, x30⟩ : ScopeProg), x31, x32, x33, x34⟩ : Ref03_look) y16 x7).bind fun y17 =>
   (chk (x26 + 1)).bind fun z5 =>
   jC rec_r03_look_node y5 x7 k z5 y17.p.Free y17.p.Nodes y17.p.Defs y17.p.Main y17.sizes y17.owner y17.users y17.bad
 else
  some (⟨(⟨x27, x28, x29, x30⟩ : ScopeProg), x31, x32, x33, x34⟩ : Ref03_look)
def lM (fuel : Nat) (rec_r03_look_node : Ref03_look → Int → Int → Option (Ref03_look)) (a1 : ScopeDef) (a2 : Int) : Nat → Int → (List ByteArray) → (List ScopeNode) → (List ScopeDef) → Int → (List Int) → (List Int) → (List Int) → Bool → Option (List ByteArray × List ScopeNode × List ScopeDef × Int × List Int × List Int × List Int × Bool)
| 0, _, _, _, _, _, _, _, _, _ => none
| k + 1, x18, x19, x20, x21, x22, x23, x24, x25, x26 =>
 if x18 < (a1.Rules.length : Int) then
  bif x26 then
   some (x19, x20, x21, x22, x23, x24, x25, x26)
  else
   (idx a1.Rules x18).bind fun y1 =>
   (idx a1.Rules x18).bind fun y2 =>
   (vW fuel (⟨a1.Chans, a1.Spots, a1.Rules⟩ : ScopeDef) y2).bind fun y3 =>
   (chk (a2 + y3)).bind fun z1 =>
   (rec_r03_look_node (⟨(⟨x19, x20, x21, x22⟩ : ScopeProg), x23, x24, x25, x26⟩ : Ref03_look) y1.Node z1).bind fun y4 =>
   (chk (x18 + 1)).bind fun z2 =>
   lM fuel rec_r03_look_node a1 a2 k z2 y4.p.Free y4.p.Nodes y4.p.Defs y4.p.Main y4.sizes y4.owner y4.users y4.bad
 else
  some (x19, x20, x21, x22, x23, x24, x25, x26)
def lK (rec_r03_look_node : Ref03_look → Int → Int → Option (Ref03_look)) (a1 : ScopeDef) (a2 : Int) : Nat → Int → (List ByteArray) → (List ScopeNode) → (List ScopeDef) → Int → (List Int) → (List Int) → (List Int) → Bool → Option (Ref03_look)
| 0, _, _, _, _, _, _, _, _, _ => none
| k + 1, x36, x37, x38, x39, x40, x41, x42, x43, x44 =>
 if x36 < (a1.Spots.length : Int) then
  bif x44 then
   some (⟨(⟨x37, x38, x39, x40⟩ : ScopeProg), x41, x42, x43, x44⟩ : Ref03_look)
  else
   (idx a1.Spots x36).bind fun y5 =>
   (rec_r03_look_node (⟨(⟨x37, x38, x39, x40⟩ : ScopeProg), x41, x42, x43, x44⟩ : Ref03_look) y5.Node a2).bind fun y6 =>
   (chk (x36 + 1)).bind fun z3 =>
   lK rec_r03_look_node a1 a2 k z3 y6.p.Free y6.p.Nodes y6.p.Defs y6.p.Main y6.sizes y6.owner y6.users y6.bad
 else
  some (⟨(⟨x37, x38, x39, x40⟩ : ScopeProg), x41, x42, x43, x44⟩ : Ref03_look)
mutual
def eU : Nat → Ref03_look → Int → Int → Option (Ref03_look)
| 0, _, _, _ => none
| fuel + 1, a0, a1, a2 =>
 if a1 < 0 then
  some (⟨(⟨a0.p.Free, a0.p.Nodes, a0.p.Defs, a0.p.Main⟩ : ScopeProg), a0.sizes, a0.owner, a0.users, true⟩ : Ref03_look)
 else
  if (a0.p.Nodes.length : Int) ≤ a1 then
   some (⟨(⟨a0.p.Free, a0.p.Nodes, a0.p.Defs, a0.p.Main⟩ : ScopeProg), a0.sizes, a0.owner, a0.users, true⟩ : Ref03_look)
  else
   (idx a0.owner a1).bind fun y1 =>
   if 0 < y1 then
    some (⟨(⟨a0.p.Free, a0.p.Nodes, a0.p.Defs, a0.p.Main⟩ : ScopeProg), a0.sizes, a0.owner, a0.users, true⟩ : Ref03_look)
   else
    (idx a0.owner a1).bind fun y2 =>
    (chk (y2 + 1)).bind fun z1 =>
    (idx a0.owner a1).bind fun y3 =>
    (idx a0.sizes a1).bind fun y4 =>
    (idx a0.p.Nodes a1).bind fun y5 =>
    (uM y5.Op).bind fun y6 =>
    (bif !y6.2.2 then
     (some (⟨(⟨a0.p.Free, a0.p.Nodes, a0.p.Defs, a0.p.Main⟩ : ScopeProg), a0.sizes.set a1.toNat a2, a0.owner.set a1.toNat z1, a0.users, true⟩ : Ref03_look)).bind fun r => some (Sum.inr r)
    else
     if (y5.Kids.length : Int) ≠ y6.2.1 then
      (some (⟨(⟨a0.p.Free, a0.p.Nodes, a0.p.Defs, a0.p.Main⟩ : ScopeProg), a0.sizes.set a1.toNat a2, a0.owner.set a1.toNat z1, a0.users, true⟩ : Ref03_look)).bind fun r => some (Sum.inr r)
     else
      if y6.1 < 0 then
       if 3 < (y5.Args.length : Int) then
        (some (⟨(⟨a0.p.Free, a0.p.Nodes, a0.p.Defs, a0.p.Main⟩ : ScopeProg), a0.sizes.set a1.toNat a2, a0.owner.set a1.toNat z1, a0.users, true⟩ : Ref03_look)).bind fun r => some (Sum.inr r)
       else
        if 0 ≤ y6.1 then
         if (y5.Args.length : Int) ≠ y6.1 then
          (some (⟨(⟨a0.p.Free, a0.p.Nodes, a0.p.Defs, a0.p.Main⟩ : ScopeProg), a0.sizes.set a1.toNat a2, a0.owner.set a1.toNat z1, a0.users, true⟩ : Ref03_look)).bind fun r => some (Sum.inr r)
         else
          some (Sum.inl ())
        else
         some (Sum.inl ())
      else
       if 0 ≤ y6.1 then
        if (y5.Args.length : Int) ≠ y6.1 then
         (some (⟨(⟨a0.p.Free, a0.p.Nodes, a0.p.Defs, a0.p.Main⟩ : ScopeProg), a0.sizes.set a1.toNat a2, a0.owner.set a1.toNat z1, a0.users, true⟩ : Ref03_look)).bind fun r => some (Sum.inr r)
        else
         some (Sum.inl ())
       else
        some (Sum.inl ())).bind fun o => match o with
    | Sum.inr r => some r
    | Sum.inl _ =>
    (iZ fuel a2 y5 fuel 0 a0.bad).bind fun x1 =>
    ((if y5.Op = 2 then
     some (decide (y5.Op = 2))
    else
     if y5.Op = 6 then
      some (decide (y5.Op = 6))
     else
      some (decide (y5.Op = 8))).bind fun x16 =>
    bif x16 then
     bif x1 then
      some (Sum.inl (a2, a0.p.Free, a0.p.Nodes, a0.p.Defs, a0.p.Main, a0.sizes.set a1.toNat a2, a0.owner.set a1.toNat z1, a0.users, true))
     else
      if y5.N < 0 then
       some (Sum.inl (a2, a0.p.Free, a0.p.Nodes, a0.p.Defs, a0.p.Main, a0.sizes.set a1.toNat a2, a0.owner.set a1.toNat z1, a0.users, true))
      else
       some (Sum.inl (a2, a0.p.Free, a0.p.Nodes, a0.p.Defs, a0.p.Main, a0.sizes.set a1.toNat a2, a0.owner.set a1.toNat z1, a0.users, decide (a2 ≤ y5.N)))
    else
     if y5.Op = 4 then
      if y5.N < 0 then
       (some (⟨(⟨a0.p.Free, a0.p.Nodes, a0.p.Defs, a0.p.Main⟩ : ScopeProg), a0.sizes.set a1.toNat a2, a0.owner.set a1.toNat z1, a0.users, true⟩ : Ref03_look)).bind fun r => some (Sum.inr r)
      else
       if (a0.p.Defs.length : Int) ≤ y5.N then
        (some (⟨(⟨a0.p.Free, a0.p.Nodes, a0.p.Defs, a0.p.Main⟩ : ScopeProg), a0.sizes.set a1.toNat a2, a0.owner.set a1.toNat z1, a0.users, true⟩ : Ref03_look)).bind fun r => some (Sum.inr r)
       else
        (idx a0.users y5.N).bind fun y9 =>
        if 0 < y9 then
         (some (⟨(⟨a0.p.Free, a0.p.Nodes, a0.p.Defs, a0.p.Main⟩ : ScopeProg), a0.sizes.set a1.toNat a2, a0.owner.set a1.toNat z1, a0.users, true⟩ : Ref03_look)).bind fun r => some (Sum.inr r)
        else
         (idx a0.users y5.N).bind fun y10 =>
         (chk (y10 + 1)).bind fun z3 =>
         (idx a0.users y5.N).bind fun y11 =>
         (idx a0.p.Defs y5.N).bind fun y12 =>
         (uY y12).bind fun y13 =>
         (chk (a2 + y13)).bind fun z4 =>
         (idx a0.p.Defs y5.N).bind fun y14 =>
         ((oS fuel) (⟨(⟨a0.p.Free, a0.p.Nodes, a0.p.Defs, a0.p.Main⟩ : ScopeProg), a0.sizes.set a1.toNat a2, a0.owner.set a1.toNat z1, a0.users.set y5.N.toNat z3, x1⟩ : Ref03_look) y14 z4).bind fun y15 =>
         some (Sum.inl (z4, y15.p.Free, y15.p.Nodes, y15.p.Defs, y15.p.Main, y15.sizes, y15.owner, y15.users, y15.bad))
     else
      bif x1 then
       some (Sum.inl (a2, a0.p.Free, a0.p.Nodes, a0.p.Defs, a0.p.Main, a0.sizes.set a1.toNat a2, a0.owner.set a1.toNat z1, a0.users, true))
      else
       some (Sum.inl (a2, a0.p.Free, a0.p.Nodes, a0.p.Defs, a0.p.Main, a0.sizes.set a1.toNat a2, a0.owner.set a1.toNat z1, a0.users, decide (y5.N ≠ 0)))).bind fun o => match o with
    | Sum.inr r => some r
    | Sum.inl (x7, x8, x9, x10, x11, x12, x13, x14, x15) =>
    jC (eU fuel) y5 x7 fuel 0 x8 x9 x10 x11 x12 x13 x14 x15
def oS : Nat → Ref03_look → ScopeDef → Int → Option (Ref03_look)
| 0, _, _, _ => none
| fuel + 1, a0, a1, a2 =>
 (lM fuel (eU fuel) a1 a2 fuel 0 a0.p.Free a0.p.Nodes a0.p.Defs a0.p.Main a0.sizes a0.owner a0.users a0.bad).bind fun (x1, x2, x3, x4, x5, x6, x7, x8) =>
 lK (eU fuel) a1 a2 fuel 0 x1 x2 x3 x4 x5 x6 x7 x8
end
theorem aGx : ∀ (fuel : Nat), (∀ (p0 : Nat) (a0 : Ref03_look) (a1 : Int) (a2 : Int) (r : Ref03_look) (H : eU fuel a0 a1 a2 = some r), FnS Try.prog 43 [fEq (.pointer (some ⟨p0, 0, none⟩)), aA .i64 a1, aA .i64 a2] [qO p0 a0] (dH []) (fun _ => [qO p0 r])) ∧ (∀ (p0 : Nat) (a0 : Ref03_look) (a1 : ScopeDef) (a2 : Int) (r : Ref03_look) (H : oS fuel a0 a1 a2 = some r), FnS Try.prog 65 [fEq (.pointer (some ⟨p0, 0, none⟩)), fSt aK a1, aA .i64 a2] [qO p0 a0] (dH []) (fun _ => [qO p0 r])) := by
 intro fuel
 induction fuel with
 | zero => exact ⟨fun p0 a0 a1 a2 r H => (by rw [eU] at H; cases H), fun p0 a0 a1 a2 r H => (by rw [oS] at H; cases H)⟩
 | succ fuel ih =>
 obtain ⟨ih_r03_look_node, ih_r03_look_def⟩ := ih
 refine ⟨?_, ?_⟩
 intro p0 a0 a1 a2 r H
 rw [eU] at H
 refine bF Try.func43 rfl Try.ntmps43 rfl (fun β => ?_)
 refine sE (fun v1 v2 v3 => ?_)
 refine aW 1 rfl (fun hc_v1 => ?_)
 refine aW 2 rfl (fun hc_v2 => ?_)
 refine aW 3 rfl (fun hc_v3 => ?_)
 refine aH ?_
 revert H; refine I4 (fun c1 H => ?_) fun c1 H => ?_
 refine Yt c1 ?_
 refine Yt c1 ?_
 refine Yt c1 ?_
 refine Yt c1 ?_
 refine Yt c1 ?_
 refine Yt c1 ?_
 refine Yt c1 ?_
 refine Yt c1 ?_
 refine Yy (dF rfl hh c1 hh) ?_
 refine Z12 ?_
 refine Z4 ?_
 refine dI (φs' := [fSl aN a0.p.Free, fSl aM a0.p.Nodes, fSl aK a0.p.Defs, aA .i64 a0.p.Main, fEq v1, fEq v2, fEq v3, aG true]) trivial rfl rfl (has rfl) (has rfl) (aD trivial) (sz rfl) rfl rfl ?_
 refine Z2 ?_
 refine gA (x := (⟨(⟨a0.p.Free, a0.p.Nodes, a0.p.Defs, a0.p.Main⟩ : ScopeProg), a0.sizes, a0.owner, a0.users, true⟩ : Ref03_look)) ?_
 cases H
 exact fI (.inl rfl) rfl rfl
 refine Yg c1 (bV rfl hh) ?_
 refine Yg c1 (bV rfl hh) ?_
 refine Yg c1 (kE rfl (has rfl) (fun m v h => ⟨_, h⟩)) ?_
 refine Yg c1 (cI 0 rfl hh (fa rfl) rfl) ?_
 refine Yg c1 (cI 1 rfl hh (fa rfl) rfl) ?_
 refine Yh 0 rfl c1 (bW rfl hh (sc rfl) rfl Ent.rfl) ?_
 refine Yg c1 (fS rfl hh (us rfl)) ?_
 refine Yg c1 (pT rfl hh hh) ?_
 refine Yy (cJ rfl hh c1 hh) ?_
 revert H; refine I1 (fun c2 H => ?_) fun c2 H => ?_
 refine Yt c2 ?_
 refine Yt c2 ?_
 refine Yt c2 ?_
 refine Yt c2 ?_
 refine Yt c2 ?_
 refine Yt c2 ?_
 refine Yt c2 ?_
 refine Yt c2 ?_
 refine Yy (dF rfl hh c2 hh) ?_
 refine Z6 ?_
 refine dI (φs' := [fSl aN a0.p.Free, fSl aM a0.p.Nodes, fSl aK a0.p.Defs, aA .i64 a0.p.Main, fEq v1, fEq v2, fEq v3, aG true]) trivial rfl rfl (has rfl) (has rfl) (aD trivial) (sz rfl) rfl rfl ?_
 refine Z2 ?_
 refine gA (x := (⟨(⟨a0.p.Free, a0.p.Nodes, a0.p.Defs, a0.p.Main⟩ : ScopeProg), a0.sizes, a0.owner, a0.users, true⟩ : Ref03_look)) ?_
 cases H
 exact fI (.inl rfl) rfl rfl
 refine Yg c2 (bV rfl hh) ?_
 refine Yg c2 (kE rfl (has rfl) (fun m v h => ⟨_, h⟩)) ?_
 refine Yg c2 (cI 5 rfl hh (fa rfl) rfl) ?_
 refine Yh 0 rfl c2 (bW rfl hh (sc rfl) rfl Ent.rfl) ?_
 refine Yg c2 (bV rfl hh) ?_
 revert H; refine bs fun y1 h1 H => ?_
 refine Yh 2 rfl c2 (jU rfl hh hh (el rfl) h1) ?_
 refine Yh 2 rfl c2 (jV rfl rfl hh (sc rfl) (bN h1) rfl) ?_
 refine Yg c2 (hC rfl hh hh) ?_
 refine Yy (cJ rfl hh c2 hh) ?_
 revert H; refine I1 (fun c3 H => ?_) fun c3 H => ?_
 refine dC (has rfl) c3 ?_
 refine Z4 ?_
 refine dI (φs' := [fSl aN a0.p.Free, fSl aM a0.p.Nodes, fSl aK a0.p.Defs, aA .i64 a0.p.Main, fEq v1, fEq v2, fEq v3, aG true]) trivial rfl rfl (has rfl) (has rfl) (aD trivial) (sz rfl) rfl rfl ?_
 refine Z2 ?_
 refine gA (x := (⟨(⟨a0.p.Free, a0.p.Nodes, a0.p.Defs, a0.p.Main⟩ : ScopeProg), a0.sizes, a0.owner, a0.users, true⟩ : Ref03_look)) ?_
 cases H
 exact fI (.inl rfl) rfl rfl
 refine dB (has rfl) c3 ?_
 revert H; refine B8 fun y2 h2 H => ?_
 refine Yo 2 rfl (jU rfl hh hh (el rfl) h2) ?_
 refine Yo 2 rfl (jV rfl rfl hh (sc rfl) (bN h2) rfl) ?_
 revert H; refine bs fun z1 h3 H => ?_
 refine Yy (fO rfl hh hh h3) ?_
 revert H; refine bs fun y3 h4 H => ?_
 refine Yo 2 rfl (jU rfl hh hh (el rfl) h4) ?_
 refine eI ?_
 refine uB (z' := z1) trivial rfl rfl rfl (has rfl) (has rfl) (aD trivial) (sz rfl) (bN h4) rfl rfl ?_
 revert H; refine B8 fun y4 h5 H => ?_
 refine Yo 2 rfl (jU rfl hh hh (el rfl) h5) ?_
 refine eI ?_
 refine uB (z' := a2) trivial rfl rfl rfl (has rfl) (has rfl) (aD trivial) (sz rfl) (bN h5) rfl rfl ?_
 revert H; refine B8 fun y5 h6 H => ?_
 refine Yy (cD rfl hh hh (el rfl) h6) ?_
 refine Z1 ?_
 refine aT trivial rfl rfl (cN rfl qE rfl) (fun b1 => ?_)
 refine dP (φs' := [aA .i64 y5.Op, aA .i64 y5.N, fSl bD y5.Args, fSl (aB .i64) y5.Kids]) trivial rfl rfl (has rfl) (has rfl) (aO (aD trivial) (aO (aD trivial) (aO (bC) (aO (bC) bY)))) (sz rfl) rfl rfl rfl ?_
 revert H; refine B4 fun y6 h7 H => ?_
 refine Tc (aGi _ _ h7) ?_
 revert H; refine B8 fun o1 H Hr1 => ?_
 refine aX (ι := Unit) (fun i => o1 = Sum.inl ()) (fun i => [(0, fEq (ptr p0)), (2, aA .i64 a2), (6, fEq (ptr b1))]) (fun i => [aC b1 56 [aA .i64 y5.Op, aA .i64 y5.N, fSl bD y5.Args, fSl (aB .i64) y5.Kids], aC p0 62 [fSl aN a0.p.Free, fSl aM a0.p.Nodes, fSl aK a0.p.Defs, aA .i64 a0.p.Main, fEq v1, fEq v2, fEq v3, aG a0.bad], aE v1 3 (aB .i64) (a0.sizes.set a1.toNat a2), aE v2 3 (aB .i64) (a0.owner.set a1.toNat z1), aE v3 3 (aB .i64) a0.users]) ?_ ?_
 refine Z4 ?_
 revert H; refine cs (fun c4 H => ?_) fun c4 H => ?_
 refine Yt c4 ?_
 refine Yt c4 ?_
 refine Yt c4 ?_
 refine Yt c4 ?_
 refine Yt c4 ?_
 refine Yy (dF rfl hh c4 hh) ?_
 refine Z4 ?_
 refine dO (⟨_, _, _, _, rfl, rfl, rfl, nu⟩) rfl rfl ?_
 refine dO (⟨_, _, _, _, rfl, rfl, rfl, nu⟩) rfl rfl ?_
 refine dO (⟨_, _, _, _, rfl, rfl, rfl, nu⟩) rfl rfl ?_
 refine dO (⟨_, _, _, _, rfl, rfl, rfl, nu⟩) rfl rfl ?_
 refine Z6 ?_
 refine dO (⟨_, _, _, _, rfl, rfl, rfl, nu⟩) rfl rfl ?_
 refine dO (⟨_, _, _, _, rfl, rfl, rfl, nu⟩) rfl rfl ?_
 refine dO (⟨_, _, _, _, rfl, rfl, rfl, nu⟩) rfl rfl ?_
 refine dO (⟨_, _, _, _, rfl, rfl, rfl, nu⟩) rfl rfl ?_
 refine dO (⟨_, _, _, _, rfl, rfl, rfl, nu⟩) rfl rfl ?_
 refine Z8 ?_
 refine eD ?_
 refine dI (φs' := [fSl aN a0.p.Free, fSl aM a0.p.Nodes, fSl aK a0.p.Defs, aA .i64 a0.p.Main, fEq v1, fEq v2, fEq v3, aG true]) trivial rfl rfl (has rfl) (has rfl) (aD trivial) (sz rfl) rfl rfl ?_
 revert H; refine B2 fun r1 H e1 => ?_
 cases e1; cases Hr1
 refine bJ ?_
 refine bJ ?_
 refine bJ ?_
 refine eD ?_
 refine gA (x := (⟨(⟨a0.p.Free, a0.p.Nodes, a0.p.Defs, a0.p.Main⟩ : ScopeProg), a0.sizes.set a1.toNat a2, a0.owner.set a1.toNat z1, a0.users, true⟩ : Ref03_look)) ?_
 cases H
 refine aI [0] (by decide) ?_
 exact fI (.inl rfl) rfl rfl
 refine Yg c4 (cI 3 rfl hh (fa rfl) rfl) ?_
 refine Yh 0 rfl c4 (bW rfl hh (sc rfl) rfl Ent.rfl) ?_
 refine Yg c4 (fS rfl hh (us rfl)) ?_
 refine Yg c4 (bV rfl hh) ?_
 refine Yg c4 (rM rfl hh hh) ?_
 refine Yy (cJ rfl hh c4 hh) ?_
 revert H; refine I1 (fun c5 H => ?_) fun c5 H => ?_
 refine Yt c5 ?_
 refine Yt c5 ?_
 refine Yt c5 ?_
 refine dO (⟨_, _, _, _, rfl, rfl, rfl, nu⟩) rfl rfl ?_
 refine dO (⟨_, _, _, _, rfl, rfl, rfl, nu⟩) rfl rfl ?_
 refine dO (⟨_, _, _, _, rfl, rfl, rfl, nu⟩) rfl rfl ?_
 refine dO (⟨_, _, _, _, rfl, rfl, rfl, nu⟩) rfl rfl ?_
 refine Yt c5 ?_
 refine Yy (dF rfl hh c5 hh) ?_
 refine Z4 ?_
 refine dO (⟨_, _, _, _, rfl, rfl, rfl, nu⟩) rfl rfl ?_
 refine dO (⟨_, _, _, _, rfl, rfl, rfl, nu⟩) rfl rfl ?_
 refine dO (⟨_, _, _, _, rfl, rfl, rfl, nu⟩) rfl rfl ?_
 refine dO (⟨_, _, _, _, rfl, rfl, rfl, nu⟩) rfl rfl ?_
 refine dO (⟨_, _, _, _, rfl, rfl, rfl, nu⟩) rfl rfl ?_
 refine Z8 ?_
 refine eD ?_
 refine dI (φs' := [fSl aN a0.p.Free, fSl aM a0.p.Nodes, fSl aK a0.p.Defs, aA .i64 a0.p.Main, fEq v1, fEq v2, fEq v3, aG true]) trivial rfl rfl (has rfl) (has rfl) (aD trivial) (sz rfl) rfl rfl ?_
 revert H; refine B2 fun r2 H e2 => ?_
 cases e2; cases Hr1
 refine bJ ?_
 refine bJ ?_
 refine bJ ?_
 refine eD ?_
 refine gA (x := (⟨(⟨a0.p.Free, a0.p.Nodes, a0.p.Defs, a0.p.Main⟩ : ScopeProg), a0.sizes.set a1.toNat a2, a0.owner.set a1.toNat z1, a0.users, true⟩ : Ref03_look)) ?_
 cases H
 refine aI [0] (by decide) ?_
 exact fI (.inl rfl) rfl rfl
 refine Yg c5 (bV rfl hh) ?_
 refine Yg c5 (sR rfl hh hh) ?_
 refine Yg c5 (bV rfl hh) ?_
 revert H; refine is (fun c6 H => ?_) fun c6 H => ?_
 refine Yg c6 (cI 2 rfl hh (fa rfl) rfl) ?_
 refine Yh 0 rfl c6 (bW rfl hh (sc rfl) rfl Ent.rfl) ?_
 refine Yg c6 (fS rfl hh (us rfl)) ?_
 refine Yg c6 (hC rfl hh hh) ?_
 refine Yg c5 (dF rfl hh c6 hh) ?_
 refine Yy (cJ rfl hh c5 hh) ?_
 revert H; refine I1 (fun c7 H => ?_) fun c7 H => ?_
 refine Yt c7 ?_
 refine Yt c7 ?_
 refine Yt c7 ?_
 refine dO (⟨_, _, _, _, rfl, rfl, rfl, nu⟩) rfl rfl ?_
 refine dO (⟨_, _, _, _, rfl, rfl, rfl, nu⟩) rfl rfl ?_
 refine dO (⟨_, _, _, _, rfl, rfl, rfl, nu⟩) rfl rfl ?_
 refine dO (⟨_, _, _, _, rfl, rfl, rfl, nu⟩) rfl rfl ?_
 refine dO (⟨_, _, _, _, rfl, rfl, rfl, nu⟩) rfl rfl ?_
 refine Yt c7 ?_
 refine Yy (dF rfl hh c7 hh) ?_
 refine Z6 ?_
 refine eD ?_
 refine dI (φs' := [fSl aN a0.p.Free, fSl aM a0.p.Nodes, fSl aK a0.p.Defs, aA .i64 a0.p.Main, fEq v1, fEq v2, fEq v3, aG true]) trivial rfl rfl (has rfl) (has rfl) (aD trivial) (sz rfl) rfl rfl ?_
 revert H; refine B2 fun r3 H e3 => ?_
 cases e3; cases Hr1
 refine bJ ?_
 refine bJ ?_
 refine bJ ?_
 refine eD ?_
 refine gA (x := (⟨(⟨a0.p.Free, a0.p.Nodes, a0.p.Defs, a0.p.Main⟩ : ScopeProg), a0.sizes.set a1.toNat a2, a0.owner.set a1.toNat z1, a0.users, true⟩ : Ref03_look)) ?_
 cases H
 refine aI [0] (by decide) ?_
 exact fI (.inl rfl) rfl rfl
 refine Yg c7 (bV rfl hh) ?_
 refine Yg c7 (pT rfl hh hh) ?_
 refine Yg c7 (bV rfl hh) ?_
 revert H; refine is (fun c8 H => ?_) fun c8 H => ?_
 refine Yg c8 (cI 2 rfl hh (fa rfl) rfl) ?_
 refine Yh 0 rfl c8 (bW rfl hh (sc rfl) rfl Ent.rfl) ?_
 refine Yg c8 (fS rfl hh (us rfl)) ?_
 refine Yg c8 (bV rfl hh) ?_
 refine Yg c8 (rM rfl hh hh) ?_
 refine Yg c7 (dF rfl hh c8 hh) ?_
 refine Yy (cJ rfl hh c7 hh) ?_
 revert H; refine I1 (fun c9 H => ?_) fun c9 H => ?_
 refine dC (has rfl) c9 ?_
 refine Z4 ?_
 refine eD ?_
 refine dI (φs' := [fSl aN a0.p.Free, fSl aM a0.p.Nodes, fSl aK a0.p.Defs, aA .i64 a0.p.Main, fEq v1, fEq v2, fEq v3, aG true]) trivial rfl rfl (has rfl) (has rfl) (aD trivial) (sz rfl) rfl rfl ?_
 revert H; refine B2 fun r4 H e4 => ?_
 cases e4; cases Hr1
 refine bJ ?_
 refine bJ ?_
 refine bJ ?_
 refine eD ?_
 refine gA (x := (⟨(⟨a0.p.Free, a0.p.Nodes, a0.p.Defs, a0.p.Main⟩ : ScopeProg), a0.sizes.set a1.toNat a2, a0.owner.set a1.toNat z1, a0.users, true⟩ : Ref03_look)) ?_
 cases H
 refine aI [0] (by decide) ?_
 exact fI (.inl rfl) rfl rfl
 refine dB (has rfl) c9 ?_
 refine Z2 ?_
 refine aI [0, 3, 1, 2, 4] (by decide) ?_
 exact Tm (()) (ij H)
 refine Yf c8 ?_
 refine Yf c8 ?_
 refine Yf c8 ?_
 refine Yf c8 ?_
 refine Yf c8 ?_
 refine Yg c7 (cJ rfl hh c8 hh) ?_
 refine Yy (cJ rfl hh c7 hh) ?_
 refine Z4 ?_
 refine aI [0, 3, 1, 2, 4] (by decide) ?_
 exact Tm (()) (ij H)
 refine Yf c6 ?_
 refine Yf c6 ?_
 refine Yf c6 ?_
 refine Yf c6 ?_
 refine Yg c5 (cJ rfl hh c6 hh) ?_
 refine Yy (cJ rfl hh c5 hh) ?_
 revert H; refine I4 (fun c10 H => ?_) fun c10 H => ?_
 refine Yg c10 (cI 2 rfl hh (fa rfl) rfl) ?_
 refine Yh 0 rfl c10 (bW rfl hh (sc rfl) rfl Ent.rfl) ?_
 refine Yg c10 (fS rfl hh (us rfl)) ?_
 refine Yg c10 (bV rfl hh) ?_
 refine Yg c10 (rM rfl hh hh) ?_
 refine Yg rfl (dF rfl hh c10 hh) ?_
 revert H; refine I2 (fun c11 H => ?_) fun c11 H => ?_
 refine dC (has rfl) c11 ?_
 refine Z4 ?_
 refine eD ?_
 refine dI (φs' := [fSl aN a0.p.Free, fSl aM a0.p.Nodes, fSl aK a0.p.Defs, aA .i64 a0.p.Main, fEq v1, fEq v2, fEq v3, aG true]) trivial rfl rfl (has rfl) (has rfl) (aD trivial) (sz rfl) rfl rfl ?_
 revert H; refine B2 fun r5 H e5 => ?_
 cases e5; cases Hr1
 refine bJ ?_
 refine bJ ?_
 refine bJ ?_
 refine eD ?_
 refine gA (x := (⟨(⟨a0.p.Free, a0.p.Nodes, a0.p.Defs, a0.p.Main⟩ : ScopeProg), a0.sizes.set a1.toNat a2, a0.owner.set a1.toNat z1, a0.users, true⟩ : Ref03_look)) ?_
 cases H
 refine aI [0] (by decide) ?_
 exact fI (.inl rfl) rfl rfl
 refine dB (has rfl) c11 ?_
 refine Z2 ?_
 refine aI [0, 3, 1, 2, 4] (by decide) ?_
 exact Tm (()) (ij H)
 refine Yf c10 ?_
 refine Yf c10 ?_
 refine Yf c10 ?_
 refine Yf c10 ?_
 refine Yf c10 ?_
 refine Yg rfl (cJ rfl hh c10 hh) ?_
 refine Z5 ?_
 refine aI [0, 3, 1, 2, 4] (by decide) ?_
 exact Tm (()) (ij H)
 clear H; intro i hi; subst o1; have H := Hr1; clear Hr1; try dsimp only at H
 try dsimp only
 revert H; refine bs fun o2 H Hr2 => ?_
 refine aX (ι := Bool) (fun i => o2 = i) (fun i => [(0, fEq (ptr p0)), (2, aA .i64 a2), (6, fEq (ptr b1))]) (fun i => [aC b1 56 [aA .i64 y5.Op, aA .i64 y5.N, fSl bD y5.Args, fSl (aB .i64) y5.Kids], aC p0 62 [fSl aN a0.p.Free, fSl aM a0.p.Nodes, fSl aK a0.p.Defs, aA .i64 a0.p.Main, fEq v1, fEq v2, fEq v3, aG i], aE v1 3 (aB .i64) (a0.sizes.set a1.toNat a2), aE v2 3 (aB .i64) (a0.owner.set a1.toNat z1), aE v3 3 (aB .i64) a0.users]) ?_ ?_
 refine Z4 ?_
 refine Tl (ι := Nat × Int × Bool) (fun i => iZ fuel a2 y5 i.1 i.2.1 i.2.2 = _) (fun i => i.1) (fun i => [(0, fEq (ptr p0)), (2, aA .i64 a2), (6, fEq (ptr b1)), (10, aA .i64 i.2.1)]) (fun i => [aC b1 56 [aA .i64 y5.Op, aA .i64 y5.N, fSl bD y5.Args, fSl (aB .i64) y5.Kids], aC p0 62 [fSl aN a0.p.Free, fSl aM a0.p.Nodes, fSl aK a0.p.Defs, aA .i64 a0.p.Main, fEq v1, fEq v2, fEq v3, aG i.2.2], aE v1 3 (aB .i64) (a0.sizes.set a1.toNat a2), aE v2 3 (aB .i64) (a0.owner.set a1.toNat z1), aE v3 3 (aB .i64) a0.users]) (fuel, 0, a0.bad) H ?_
 clear H; rintro ⟨k1, x4, x5⟩ H
 replace H : iZ fuel a2 y5 k1 x4 x5 = _ := H
 try dsimp only
 obtain _ | k1 := k1
 rw [iZ] at H; cases H
 rw [iZ] at H
 refine aH ?_
 revert H; refine I7 (fun c12 H => ?_) fun c12 H => ?_
 refine dC (has rfl) c12 ?_
 revert H; refine B2 fun o3 H Hr3 => ?_
 refine aX (ι := Bool) (fun i => o3 = i) (fun i => [(0, fEq (ptr p0)), (2, aA .i64 a2), (6, fEq (ptr b1)), (10, aA .i64 x4)]) (fun i => [aC p0 62 [fSl aN a0.p.Free, fSl aM a0.p.Nodes, fSl aK a0.p.Defs, aA .i64 a0.p.Main, fEq v1, fEq v2, fEq v3, aG i], aC b1 56 [aA .i64 y5.Op, aA .i64 y5.N, fSl bD y5.Args, fSl (aB .i64) y5.Kids], aE v1 3 (aB .i64) (a0.sizes.set a1.toNat a2), aE v2 3 (aB .i64) (a0.owner.set a1.toNat z1), aE v3 3 (aB .i64) a0.users]) ?_ ?_
 refine Z8 ?_
 revert H; refine cs (fun c13 H => ?_) fun c13 H => ?_
 refine Yt c13 ?_
 refine Yt c13 ?_
 refine Yt c13 ?_
 refine Yt c13 ?_
 refine Yt c13 ?_
 refine Yt c13 ?_
 refine Yt c13 ?_
 refine Yt c13 ?_
 refine Yy (dF rfl hh c13 hh) ?_
 refine Z2 ?_
 refine dN ?_
 refine dI (φs' := [fSl aN a0.p.Free, fSl aM a0.p.Nodes, fSl aK a0.p.Defs, aA .i64 a0.p.Main, fEq v1, fEq v2, fEq v3, aG true]) trivial rfl rfl (has rfl) (has rfl) (aD trivial) (sz rfl) rfl rfl ?_
 refine Z3 ?_
 exact Tm (true) (ij H)
 refine Yg c13 (cI 2 rfl hh (fa rfl) rfl) ?_
 refine Yh 0 rfl c13 (bW rfl hh (sc rfl) rfl Ent.rfl) ?_
 refine Yg c13 (bV rfl hh) ?_
 revert H; refine bs fun y7 h8 H => ?_
 refine Yg c13 (cD rfl hh hh (el rfl) h8) ?_
 refine Yg c13 (aCp rfl hh (ag rfl)) ?_
 refine Yg c13 (bV rfl hh) ?_
 revert H; refine bs fun y8 h9 H => ?_
 refine Tc (aHH _ _ _ _ h9) ?_
 refine Yg c13 (jP rfl hh) ?_
 refine Yy (cJ rfl hh c13 hh) ?_
 refine Z2 ?_
 refine dN ?_
 refine dI (φs' := [fSl aN a0.p.Free, fSl aM a0.p.Nodes, fSl aK a0.p.Defs, aA .i64 a0.p.Main, fEq v1, fEq v2, fEq v3, aG (!y8)]) trivial rfl rfl (has rfl) (has rfl) (aD trivial) (sz rfl) rfl rfl ?_
 refine Z3 ?_
 exact Tm (!y8) (ij H)
 clear H; intro x6 hi; subst o3; have H := Hr3; clear Hr3; try dsimp only at H
 try dsimp only
 revert H; refine B2 fun z2 h10 H => ?_
 refine Yy (fO rfl hh hh h10) ?_
 refine Z2 ?_
 refine aI [1, 0, 2, 3, 4] (by decide) ?_
 exact Tm ((k1, z2, x6)) ⟨H, ls⟩
 refine dB (has rfl) c12 ?_
 refine Z5 ?_
 exact Tm (x5) (ij H)
 clear H; intro x1 hi; subst o2; have H := Hr2; clear Hr2; try dsimp only at H
 try dsimp only
 revert H; refine B4 fun o4 H Hr4 => ?_
 refine aX (ι := Int × List ByteArray × List ScopeNode × List ScopeDef × Int × List Int × List Int × List Int × Bool × Value × Value × Value) (fun i => o4 = Sum.inl (i.1, i.2.1, i.2.2.1, i.2.2.2.1, i.2.2.2.2.1, i.2.2.2.2.2.1, i.2.2.2.2.2.2.1, i.2.2.2.2.2.2.2.1, i.2.2.2.2.2.2.2.2.1)) (fun i => [(0, fEq (ptr p0)), (6, fEq (ptr b1)), (11, aA .i64 i.1)]) (fun i => [aC p0 62 [fSl aN i.2.1, fSl aM i.2.2.1, fSl aK i.2.2.2.1, aA .i64 i.2.2.2.2.1, fEq i.2.2.2.2.2.2.2.2.2.1, fEq i.2.2.2.2.2.2.2.2.2.2.1, fEq i.2.2.2.2.2.2.2.2.2.2.2, aG i.2.2.2.2.2.2.2.2.1], aC b1 56 [aA .i64 y5.Op, aA .i64 y5.N, fSl bD y5.Args, fSl (aB .i64) y5.Kids], aE i.2.2.2.2.2.2.2.2.2.1 3 (aB .i64) i.2.2.2.2.2.1, aE i.2.2.2.2.2.2.2.2.2.2.1 3 (aB .i64) i.2.2.2.2.2.2.1, aE i.2.2.2.2.2.2.2.2.2.2.2 3 (aB .i64) i.2.2.2.2.2.2.2.1]) ?_ ?_
 revert H; refine B5 fun o5 H Hr5 => ?_
 refine aX (ι := Bool) (fun i => o5 = i) (fun i => [(0, fEq (ptr p0)), (2, aA .i64 a2), (6, fEq (ptr b1)), (11, aA .i64 a2), (128, aA .i64 y5.Op), (141, aG i)]) (fun i => [aC b1 56 [aA .i64 y5.Op, aA .i64 y5.N, fSl bD y5.Args, fSl (aB .i64) y5.Kids], aC p0 62 [fSl aN a0.p.Free, fSl aM a0.p.Nodes, fSl aK a0.p.Defs, aA .i64 a0.p.Main, fEq v1, fEq v2, fEq v3, aG x1], aE v1 3 (aB .i64) (a0.sizes.set a1.toNat a2), aE v2 3 (aB .i64) (a0.owner.set a1.toNat z1), aE v3 3 (aB .i64) a0.users]) ?_ ?_
 revert H; refine I4 (fun c14 H => ?_) fun c14 H => ?_
 refine dC (has rfl) c14 ?_
 refine Z2 ?_
 exact Tm (decide (y5.Op = 2)) (ij H)
 refine dB (has rfl) c14 ?_
 revert H; refine I4 (fun c15 H => ?_) fun c15 H => ?_
 refine dC (has rfl) c15 ?_
 refine Z2 ?_
 exact Tm (decide (y5.Op = 6)) (ij H)
 refine dB (has rfl) c15 ?_
 refine Z4 ?_
 exact Tm (decide (y5.Op = 8)) (ij H)
 clear H; intro x16 hi; subst o5; have H := Hr5; clear Hr5; try dsimp only at H
 try dsimp only
 revert H; refine cs (fun c16 H => ?_) fun c16 H => ?_
 refine dC (has rfl) c16 ?_
 refine Z7 ?_
 revert H; refine cs (fun c17 H => ?_) fun c17 H => ?_
 refine Yt c17 ?_
 refine Yt c17 ?_
 refine Yt c17 ?_
 refine Yy (dF rfl hh c17 hh) ?_
 refine Z8 ?_
 refine dN ?_
 refine dI (φs' := [fSl aN a0.p.Free, fSl aM a0.p.Nodes, fSl aK a0.p.Defs, aA .i64 a0.p.Main, fEq v1, fEq v2, fEq v3, aG true]) trivial rfl rfl (has rfl) (has rfl) (aD trivial) (sz rfl) rfl rfl ?_
 refine Z3 ?_
 exact Tm ((a2, a0.p.Free, a0.p.Nodes, a0.p.Defs, a0.p.Main, a0.sizes.set a1.toNat a2, a0.owner.set a1.toNat z1, a0.users, true, v1, v2, v3)) (ij H)
 refine Yg c17 (cI 1 rfl hh (fa rfl) rfl) ?_
 refine Yh 0 rfl c17 (bW rfl hh (sc rfl) rfl Ent.rfl) ?_
 refine Yg c17 (sR rfl hh hh) ?_
 refine Yy (cJ rfl hh c17 hh) ?_
 revert H; refine I1 (fun c18 H => ?_) fun c18 H => ?_
 refine Yt c18 ?_
 refine Yt c18 ?_
 refine Yt c18 ?_
 refine Yt c18 ?_
 refine Yy (dF rfl hh c18 hh) ?_
 refine Z2 ?_
 refine dN ?_
 refine dI (φs' := [fSl aN a0.p.Free, fSl aM a0.p.Nodes, fSl aK a0.p.Defs, aA .i64 a0.p.Main, fEq v1, fEq v2, fEq v3, aG true]) trivial rfl rfl (has rfl) (has rfl) (aD trivial) (sz rfl) rfl rfl ?_
 refine Z3 ?_
 exact Tm ((a2, a0.p.Free, a0.p.Nodes, a0.p.Defs, a0.p.Main, a0.sizes.set a1.toNat a2, a0.owner.set a1.toNat z1, a0.users, true, v1, v2, v3)) (ij H)
 refine Yg c18 (cI 1 rfl hh (fa rfl) rfl) ?_
 refine Yh 0 rfl c18 (bW rfl hh (sc rfl) rfl Ent.rfl) ?_
 refine Yg c18 (bV rfl hh) ?_
 refine Yg c18 (pT rfl hh hh) ?_
 refine Yy (cJ rfl hh c18 hh) ?_
 refine Z2 ?_
 refine dN ?_
 refine dI (φs' := [fSl aN a0.p.Free, fSl aM a0.p.Nodes, fSl aK a0.p.Defs, aA .i64 a0.p.Main, fEq v1, fEq v2, fEq v3, aG (decide (a2 ≤ y5.N))]) trivial rfl rfl (has rfl) (has rfl) (aD trivial) (sz rfl) rfl rfl ?_
 refine Z3 ?_
 exact Tm ((a2, a0.p.Free, a0.p.Nodes, a0.p.Defs, a0.p.Main, a0.sizes.set a1.toNat a2, a0.owner.set a1.toNat z1, a0.users, decide (a2 ≤ y5.N), v1, v2, v3)) (ij H)
 refine dB (has rfl) c16 ?_
 revert H; refine I4 (fun c19 H => ?_) fun c19 H => ?_
 refine dC (has rfl) c19 ?_
 refine aH ?_
 refine aH ?_
 revert H; refine is (fun c20 H => ?_) fun c20 H => ?_
 apply bI (ods := [_, _, _, _, _, _, _, _, _, _, _, _, _, _, _, _, _, _, _, _, _, _, _, _, _]) 25 0 5 bH rfl rfl rfl
 refine ND ?_
 refine M4 ?_
 intros
 refine Mt c20 fun _ => ?_
 refine Mt c20 fun _ => ?_
 refine Mt c20 fun _ => ?_
 refine Mt c20 fun _ => ?_
 refine Mt c20 fun _ => ?_
 refine Mt c20 fun _ => ?_
 refine Mt c20 fun _ => ?_
 refine Mt c20 fun _ => ?_
 refine Mt c20 fun _ => ?_
 refine My (dF rfl hh c20 hh) fun _ => ?_
 refine M8 ?_
 intros
 refine M3 ?_
 intros
 refine Z7 ?_
 refine dN ?_
 refine dI (φs' := [fSl aN a0.p.Free, fSl aM a0.p.Nodes, fSl aK a0.p.Defs, aA .i64 a0.p.Main, fEq v1, fEq v2, fEq v3, aG true]) trivial rfl rfl (has rfl) (has rfl) (aD trivial) (sz rfl) rfl rfl ?_
 revert H; refine B4 fun r6 H e6 => ?_
 cases e6; cases Hr4
 refine bJ ?_
 refine bJ ?_
 refine bJ ?_
 refine eD ?_
 refine gA (x := (⟨(⟨a0.p.Free, a0.p.Nodes, a0.p.Defs, a0.p.Main⟩ : ScopeProg), a0.sizes.set a1.toNat a2, a0.owner.set a1.toNat z1, a0.users, true⟩ : Ref03_look)) ?_
 cases H
 refine aI [0] (by decide) ?_
 exact fI (.inl rfl) rfl rfl
 exact fk
 kernel_rfl
 revert H; refine is (fun c21 H => ?_) fun c21 H => ?_
 apply bI (ods := [_, _, _, _, _, _, _, _, _, _, _, _, _, _, _, _, _, _, _, _, _, _, _, _, _]) 25 0 5 bH rfl rfl rfl
 refine ND ?_
 refine M4 ?_
 intros
 refine Mg c20 (cI 1 rfl hh (fa rfl) rfl) fun _ => ?_
 refine eC (od := odC [0] false (aA .i64 y5.N) [dG]) (ps := [0]) (φ := aA .i64 y5.N) rfl (fun _ => rfl) ⟨_, _, rfl, rfl, c20⟩ rfl rfl (bW rfl (has rfl) (sc rfl) rfl Ent.rfl) (fun _ => ?_)
 refine Mg c20 (bV rfl hh) fun _ => ?_
 refine Mg c20 (kE rfl (has rfl) (fun m v h => ⟨_, h⟩)) fun _ => ?_
 refine Mg c20 (cI 0 rfl hh (fa rfl) rfl) fun _ => ?_
 refine Mg c20 (cI 2 rfl hh (fa rfl) rfl) fun _ => ?_
 refine eC (od := odC [1] false (fSl aK a0.p.Defs) [dG]) (ps := [1]) (φ := fSl aK a0.p.Defs) rfl (fun _ => rfl) ⟨_, _, rfl, rfl, c20⟩ rfl rfl (bW rfl (has rfl) (sc rfl) rfl Ent.rfl) (fun _ => ?_)
 refine Mg c20 (fS rfl hh (us rfl)) fun _ => ?_
 refine Mg c20 (pT rfl hh hh) fun _ => ?_
 refine My (cJ rfl hh c20 hh) fun _ => ?_
 refine M1 ?_
 intros
 refine Mt c21 fun _ => ?_
 refine Mt c21 fun _ => ?_
 refine Mt c21 fun _ => ?_
 refine Mt c21 fun _ => ?_
 refine Mt c21 fun _ => ?_
 refine Mt c21 fun _ => ?_
 refine Mt c21 fun _ => ?_
 refine Mt c21 fun _ => ?_
 refine Mt c21 fun _ => ?_
 refine My (dF rfl hh c21 hh) fun _ => ?_
 refine Z7 ?_
 refine dN ?_
 refine dI (φs' := [fSl aN a0.p.Free, fSl aM a0.p.Nodes, fSl aK a0.p.Defs, aA .i64 a0.p.Main, fEq v1, fEq v2, fEq v3, aG true]) trivial rfl rfl (has rfl) (has rfl) (aD trivial) (sz rfl) rfl rfl ?_
 revert H; refine B4 fun r7 H e7 => ?_
 cases e7; cases Hr4
 refine bJ ?_
 refine bJ ?_
 refine bJ ?_
 refine eD ?_
 refine gA (x := (⟨(⟨a0.p.Free, a0.p.Nodes, a0.p.Defs, a0.p.Main⟩ : ScopeProg), a0.sizes.set a1.toNat a2, a0.owner.set a1.toNat z1, a0.users, true⟩ : Ref03_look)) ?_
 cases H
 refine aI [0] (by decide) ?_
 exact fI (.inl rfl) rfl rfl
 exact fk
 kernel_rfl
 revert H; refine bs fun y9 h11 H => ?_
 apply bI (ods := [_, _, _, _, _, _, _, _, _, _, _, _, _, _, _, _, _, _, _, _, _, _, _, _, _]) 25 0 5 bH rfl rfl rfl
 refine ND ?_
 refine M4 ?_
 intros
 refine Mg c20 (cI 1 rfl hh (fa rfl) rfl) fun _ => ?_
 refine eC (od := odC [0] false (aA .i64 y5.N) [dG]) (ps := [0]) (φ := aA .i64 y5.N) rfl (fun _ => rfl) ⟨_, _, rfl, rfl, c20⟩ rfl rfl (bW rfl (has rfl) (sc rfl) rfl Ent.rfl) (fun _ => ?_)
 refine Mg c20 (bV rfl hh) fun _ => ?_
 refine Mg c20 (kE rfl (has rfl) (fun m v h => ⟨_, h⟩)) fun _ => ?_
 refine Mg c20 (cI 0 rfl hh (fa rfl) rfl) fun _ => ?_
 refine Mg c20 (cI 2 rfl hh (fa rfl) rfl) fun _ => ?_
 refine eC (od := odC [1] false (fSl aK a0.p.Defs) [dG]) (ps := [1]) (φ := fSl aK a0.p.Defs) rfl (fun _ => rfl) ⟨_, _, rfl, rfl, c20⟩ rfl rfl (bW rfl (has rfl) (sc rfl) rfl Ent.rfl) (fun _ => ?_)
 refine Mg c20 (fS rfl hh (us rfl)) fun _ => ?_
 refine Mg c20 (pT rfl hh hh) fun _ => ?_
 refine My (cJ rfl hh c20 hh) fun _ => ?_
 refine M1 ?_
 intros
 refine Mg c21 (bV rfl hh) fun _ => ?_
 refine Mg c21 (kE rfl (has rfl) (fun m v h => ⟨_, h⟩)) fun _ => ?_
 refine Mg c21 (cI 6 rfl hh (fa rfl) rfl) fun _ => ?_
 refine eC (od := odC [1] false (fEq v3) [dG]) (ps := [1]) (φ := fEq v3) rfl (fun _ => rfl) ⟨_, _, rfl, rfl, c21⟩ rfl rfl (bW rfl (has rfl) (sc rfl) rfl Ent.rfl) (fun _ => ?_)
 refine Mg c21 (cI 1 rfl hh (fa rfl) rfl) fun _ => ?_
 refine eC (od := odC [0] false (aA .i64 y5.N) [dG]) (ps := [0]) (φ := aA .i64 y5.N) rfl (fun _ => rfl) ⟨_, _, rfl, rfl, c21⟩ rfl rfl (bW rfl (has rfl) (sc rfl) rfl Ent.rfl) (fun _ => ?_)
 refine eC (od := odC [4] false (jH v3 1 y5.N.toNat 0) [dG]) (ps := [4]) (φ := jH v3 1 y5.N.toNat 0) rfl (fun _ => rfl) ⟨_, _, rfl, rfl, c21⟩ rfl rfl (jU rfl (has rfl) (has rfl) (el rfl) h11) (fun _ => ?_)
 refine eC (od := odC [4] false (aA .i64 y9) [dG]) (ps := [4]) (φ := aA .i64 y9) rfl (fun _ => rfl) ⟨_, _, rfl, rfl, c21⟩ rfl rfl (jV rfl rfl (has rfl) (sc rfl) (bN h11) rfl) (fun _ => ?_)
 refine Mg c21 (hC rfl hh hh) fun _ => ?_
 refine My (cJ rfl hh c21 hh) fun _ => ?_
 revert H; refine I2 (fun c22 H => ?_) fun c22 H => ?_
 refine dC (has rfl) c22 ?_
 refine Z4 ?_
 refine dN ?_
 refine dI (φs' := [fSl aN a0.p.Free, fSl aM a0.p.Nodes, fSl aK a0.p.Defs, aA .i64 a0.p.Main, fEq v1, fEq v2, fEq v3, aG true]) trivial rfl rfl (has rfl) (has rfl) (aD trivial) (sz rfl) rfl rfl ?_
 revert H; refine B4 fun r8 H e8 => ?_
 cases e8; cases Hr4
 refine bJ ?_
 refine bJ ?_
 refine bJ ?_
 refine eD ?_
 refine gA (x := (⟨(⟨a0.p.Free, a0.p.Nodes, a0.p.Defs, a0.p.Main⟩ : ScopeProg), a0.sizes.set a1.toNat a2, a0.owner.set a1.toNat z1, a0.users, true⟩ : Ref03_look)) ?_
 cases H
 refine aI [0] (by decide) ?_
 exact fI (.inl rfl) rfl rfl
 refine dB (has rfl) c22 ?_
 refine Z2 ?_
 refine aH ?_
 revert H; refine bs fun y10 h12 H => ?_
 revert H; refine bs fun z3 h13 H => ?_
 revert H; refine bs fun y11 h14 H => ?_
 apply bI (ods := [_, _, _, _, _, _, _, _, _, _, _]) 11 0 5 bH rfl rfl rfl
 refine ND ?_
 refine M6 ?_
 intros
 refine Mo 4 rfl (jU rfl hh hh (el rfl) h12) fun _ => ?_
 refine Mo 4 rfl (jV rfl rfl hh (sc rfl) (bN h12) rfl) fun _ => ?_
 refine My (fO rfl hh hh h13) fun _ => ?_
 refine Mo 4 rfl (jU rfl hh hh (el rfl) h14) fun _ => ?_
 refine rJ (od := odC [4] true (fAny) [aE v3 3 (aB .i64) (a0.users.set y5.N.toNat z3)]) (p := 4) (z' := z3) rfl (fun _ => rfl) (fun _ => rfl) trivial rfl rfl rfl rfl (has rfl) (has rfl) (aD trivial) (sz rfl) (bN h14) rfl rfl (fun _ => ?_)
 refine Z2 ?_
 refine aH ?_
 revert H; refine bs fun y12 h15 H => ?_
 revert H; refine bs fun y13 h16 H => ?_
 revert H; refine bs fun z4 h17 H => ?_
 apply bI (ods := [_, _, _, _, _, _, _, _, _, _, _, _, _]) 13 0 5 bH rfl rfl rfl
 refine ND ?_
 refine M8 ?_
 intros
 refine My (cD rfl hh hh (el rfl) h15) fun _ => ?_
 refine M1 ?_
 intros
 refine Nc (aGH _ _ h16) fun _ => ?_
 refine My (fO rfl hh hh h17) fun _ => ?_
 refine M1 ?_
 intros
 revert H; refine B2 fun y14 h18 H => ?_
 apply bI (ods := [_, _, _, _, _, _, _, _, _, _, _]) 11 0 5 bH rfl rfl rfl
 refine ND ?_
 refine M8 ?_
 intros
 refine My (cD rfl hh hh (el rfl) h18) fun _ => ?_
 refine M2 ?_
 intros
 refine Z1 ?_
 refine bJ ?_
 refine bJ ?_
 refine bJ ?_
 refine bJ ?_
 refine gA (x := (⟨(⟨a0.p.Free, a0.p.Nodes, a0.p.Defs, a0.p.Main⟩ : ScopeProg), a0.sizes.set a1.toNat a2, a0.owner.set a1.toNat z1, a0.users.set y5.N.toNat z3, x1⟩ : Ref03_look)) ?_
 revert H; refine bs fun y15 h19 H => ?_
 refine Tc (ih_r03_look_def _ _ _ _ _ h19) ?_
 refine sE (fun v7 v8 v9 => ?_)
 refine aW 1 rfl (fun hc_v7 => ?_)
 refine aW 2 rfl (fun hc_v8 => ?_)
 refine aW 3 rfl (fun hc_v9 => ?_)
 refine Z3 ?_
 refine aI [0, 4, 1, 2, 3] (by decide) ?_
 exact Tm ((z4, y15.p.Free, y15.p.Nodes, y15.p.Defs, y15.p.Main, y15.sizes, y15.owner, y15.users, y15.bad, v7, v8, v9)) (ij H)
 exact fk
 kernel_rfl
 exact fk
 kernel_rfl
 exact fk
 kernel_rfl
 exact fk
 kernel_rfl
 refine dB (has rfl) c19 ?_
 refine Z7 ?_
 revert H; refine cs (fun c23 H => ?_) fun c23 H => ?_
 refine Yt c23 ?_
 refine Yt c23 ?_
 refine Yt c23 ?_
 refine Yy (dF rfl hh c23 hh) ?_
 refine Z2 ?_
 refine dN ?_
 refine dI (φs' := [fSl aN a0.p.Free, fSl aM a0.p.Nodes, fSl aK a0.p.Defs, aA .i64 a0.p.Main, fEq v1, fEq v2, fEq v3, aG true]) trivial rfl rfl (has rfl) (has rfl) (aD trivial) (sz rfl) rfl rfl ?_
 refine Z3 ?_
 exact Tm ((a2, a0.p.Free, a0.p.Nodes, a0.p.Defs, a0.p.Main, a0.sizes.set a1.toNat a2, a0.owner.set a1.toNat z1, a0.users, true, v1, v2, v3)) (ij H)
 refine Yg c23 (cI 1 rfl hh (fa rfl) rfl) ?_
 refine Yh 0 rfl c23 (bW rfl hh (sc rfl) rfl Ent.rfl) ?_
 refine Yg c23 (rM rfl hh hh) ?_
 refine Yy (cJ rfl hh c23 hh) ?_
 refine Z2 ?_
 refine dN ?_
 refine dI (φs' := [fSl aN a0.p.Free, fSl aM a0.p.Nodes, fSl aK a0.p.Defs, aA .i64 a0.p.Main, fEq v1, fEq v2, fEq v3, aG (decide (y5.N ≠ 0))]) trivial rfl rfl (has rfl) (has rfl) (aD trivial) (sz rfl) rfl rfl ?_
 refine Z3 ?_
 exact Tm ((a2, a0.p.Free, a0.p.Nodes, a0.p.Defs, a0.p.Main, a0.sizes.set a1.toNat a2, a0.owner.set a1.toNat z1, a0.users, decide (y5.N ≠ 0), v1, v2, v3)) (ij H)
 clear H; intro i hi; obtain ⟨x7, x8, x9, x10, x11, x12, x13, x14, x15, v4, v5, v6⟩ := i; subst o4; have H := Hr4; clear Hr4; try dsimp only at H
 try dsimp only
 refine aW 2 rfl (fun hc_v4 => ?_)
 refine aW 3 rfl (fun hc_v5 => ?_)
 refine aW 4 rfl (fun hc_v6 => ?_)
 refine Z4 ?_
 refine Tl (ι := Nat × Int × List ByteArray × List ScopeNode × List ScopeDef × Int × List Int × List Int × List Int × Bool × Value × Value × Value) (fun i => jC (eU fuel) y5 x7 i.1 i.2.1 i.2.2.1 i.2.2.2.1 i.2.2.2.2.1 i.2.2.2.2.2.1 i.2.2.2.2.2.2.1 i.2.2.2.2.2.2.2.1 i.2.2.2.2.2.2.2.2.1 i.2.2.2.2.2.2.2.2.2.1 = _) (fun i => i.1) (fun i => [(0, fEq (ptr p0)), (6, fEq (ptr b1)), (11, aA .i64 x7), (12, aA .i64 i.2.1)]) (fun i => [aC p0 62 [fSl aN i.2.2.1, fSl aM i.2.2.2.1, fSl aK i.2.2.2.2.1, aA .i64 i.2.2.2.2.2.1, fEq i.2.2.2.2.2.2.2.2.2.2.1, fEq i.2.2.2.2.2.2.2.2.2.2.2.1, fEq i.2.2.2.2.2.2.2.2.2.2.2.2, aG i.2.2.2.2.2.2.2.2.2.1], aC b1 56 [aA .i64 y5.Op, aA .i64 y5.N, fSl bD y5.Args, fSl (aB .i64) y5.Kids], aE i.2.2.2.2.2.2.2.2.2.2.1 3 (aB .i64) i.2.2.2.2.2.2.1, aE i.2.2.2.2.2.2.2.2.2.2.2.1 3 (aB .i64) i.2.2.2.2.2.2.2.1, aE i.2.2.2.2.2.2.2.2.2.2.2.2 3 (aB .i64) i.2.2.2.2.2.2.2.2.1]) (fuel, 0, x8, x9, x10, x11, x12, x13, x14, x15, v4, v5, v6) H ?_
 clear H; rintro ⟨k2, x26, x27, x28, x29, x30, x31, x32, x33, x34, v13, v14, v15⟩ H
 replace H : jC (eU fuel) y5 x7 k2 x26 x27 x28 x29 x30 x31 x32 x33 x34 = _ := H
 try dsimp only
 obtain _ | k2 := k2
 rw [jC] at H; cases H
 rw [jC] at H
 refine aW 2 rfl (fun hc_v13 => ?_)
 refine aW 3 rfl (fun hc_v14 => ?_)
 refine aW 4 rfl (fun hc_v15 => ?_)
 refine aH ?_
 revert H; refine I7 (fun c24 H => ?_) fun c24 H => ?_
 refine Yg c24 (bV rfl hh) ?_
 refine Yg c24 (kE rfl (has rfl) (fun m v h => ⟨_, h⟩)) ?_
 refine Yg c24 (cI 7 rfl hh (fa rfl) rfl) ?_
 refine Yh 0 rfl c24 (bW rfl hh (sc rfl) rfl Ent.rfl) ?_
 refine Yg c24 (jP rfl hh) ?_
 refine Yy (dF rfl hh c24 hh) ?_
 refine Z1 ?_
 revert H; refine cs (fun c25 H => ?_) fun c25 H => ?_
 refine dB (has rfl) (oT c25) ?_
 refine Z4 ?_
 refine bJ ?_
 refine bJ ?_
 refine bJ ?_
 refine eD ?_
 refine gA (x := (⟨(⟨x27, x28, x29, x30⟩ : ScopeProg), x31, x32, x33, x34⟩ : Ref03_look)) ?_
 cases H
 refine aI [0] (by decide) ?_
 exact fI (.inr rfl) rfl rfl
 refine dC (has rfl) (pC c25) ?_
 refine Z2 ?_
 refine aH ?_
 revert H; refine B6 fun y16 h20 H => ?_
 refine Yy (cD rfl hh hh (el rfl) h20) ?_
 refine Z2 ?_
 refine bJ ?_
 refine bJ ?_
 refine bJ ?_
 refine eD ?_
 refine gA (x := (⟨(⟨x27, x28, x29, x30⟩ : ScopeProg), x31, x32, x33, x34⟩ : Ref03_look)) ?_
 revert H; refine bs fun y17 h21 H => ?_
 refine Tc (ih_r03_look_node _ _ _ _ _ h21) ?_
 refine sE (fun v16 v17 v18 => ?_)
 refine aW 1 rfl (fun hc_v16 => ?_)
 refine aW 2 rfl (fun hc_v17 => ?_)
 refine aW 3 rfl (fun hc_v18 => ?_)
 revert H; refine B5 fun z5 h22 H => ?_
 refine Yy (fO rfl hh hh h22) ?_
 refine Z2 ?_
 refine aI [0, 4, 1, 2, 3] (by decide) ?_
 exact Tm ((k2, z5, y17.p.Free, y17.p.Nodes, y17.p.Defs, y17.p.Main, y17.sizes, y17.owner, y17.users, y17.bad, v16, v17, v18)) ⟨H, ls⟩
 refine Yf c24 ?_
 refine Yf c24 ?_
 refine Yf c24 ?_
 refine Yf c24 ?_
 refine Yf c24 ?_
 refine Yy (cJ rfl hh c24 hh) ?_
 refine Z6 ?_
 refine bJ ?_
 refine bJ ?_
 refine bJ ?_
 refine eD ?_
 refine gA (x := (⟨(⟨x27, x28, x29, x30⟩ : ScopeProg), x31, x32, x33, x34⟩ : Ref03_look)) ?_
 cases H
 refine aI [0] (by decide) ?_
 exact fI (.inr rfl) rfl rfl
 intro p0 a0 a1 a2 r H
 rw [oS] at H
 refine bF Try.func65 rfl Try.ntmps65 rfl (fun β => ?_)
 refine sE (fun v1 v2 v3 => ?_)
 refine aW 1 rfl (fun hc_v1 => ?_)
 refine aW 2 rfl (fun hc_v2 => ?_)
 refine aW 3 rfl (fun hc_v3 => ?_)
 refine Z1 ?_
 refine aT trivial rfl rfl (cG rfl (has rfl) bO) (fun b1 => ?_)
 revert H; refine B1 fun o1 H Hr1 => ?_
 refine aX (ι := List ByteArray × List ScopeNode × List ScopeDef × Int × List Int × List Int × List Int × Bool × Value × Value × Value) (fun i => o1 = (i.1, i.2.1, i.2.2.1, i.2.2.2.1, i.2.2.2.2.1, i.2.2.2.2.2.1, i.2.2.2.2.2.2.1, i.2.2.2.2.2.2.2.1)) (fun i => [(0, fEq (ptr p0)), (2, aA .i64 a2), (4, fEq (ptr b1))]) (fun i => [aC b1 52 [fSl bE a1.Chans, fSl cB a1.Spots, fSl bK a1.Rules], aC p0 62 [fSl aN i.1, fSl aM i.2.1, fSl aK i.2.2.1, aA .i64 i.2.2.2.1, fEq i.2.2.2.2.2.2.2.2.1, fEq i.2.2.2.2.2.2.2.2.2.1, fEq i.2.2.2.2.2.2.2.2.2.2, aG i.2.2.2.2.2.2.2.1], aE i.2.2.2.2.2.2.2.2.1 3 (aB .i64) i.2.2.2.2.1, aE i.2.2.2.2.2.2.2.2.2.1 3 (aB .i64) i.2.2.2.2.2.1, aE i.2.2.2.2.2.2.2.2.2.2 3 (aB .i64) i.2.2.2.2.2.2.1]) ?_ ?_
 refine Z4 ?_
 refine Tl (ι := Nat × Int × List ByteArray × List ScopeNode × List ScopeDef × Int × List Int × List Int × List Int × Bool × Value × Value × Value) (fun i => lM fuel (eU fuel) a1 a2 i.1 i.2.1 i.2.2.1 i.2.2.2.1 i.2.2.2.2.1 i.2.2.2.2.2.1 i.2.2.2.2.2.2.1 i.2.2.2.2.2.2.2.1 i.2.2.2.2.2.2.2.2.1 i.2.2.2.2.2.2.2.2.2.1 = _) (fun i => i.1) (fun i => [(0, fEq (ptr p0)), (2, aA .i64 a2), (4, fEq (ptr b1)), (6, aA .i64 i.2.1)]) (fun i => [aC b1 52 [fSl bE a1.Chans, fSl cB a1.Spots, fSl bK a1.Rules], aC p0 62 [fSl aN i.2.2.1, fSl aM i.2.2.2.1, fSl aK i.2.2.2.2.1, aA .i64 i.2.2.2.2.2.1, fEq i.2.2.2.2.2.2.2.2.2.2.1, fEq i.2.2.2.2.2.2.2.2.2.2.2.1, fEq i.2.2.2.2.2.2.2.2.2.2.2.2, aG i.2.2.2.2.2.2.2.2.2.1], aE i.2.2.2.2.2.2.2.2.2.2.1 3 (aB .i64) i.2.2.2.2.2.2.1, aE i.2.2.2.2.2.2.2.2.2.2.2.1 3 (aB .i64) i.2.2.2.2.2.2.2.1, aE i.2.2.2.2.2.2.2.2.2.2.2.2 3 (aB .i64) i.2.2.2.2.2.2.2.2.1]) (fuel, 0, a0.p.Free, a0.p.Nodes, a0.p.Defs, a0.p.Main, a0.sizes, a0.owner, a0.users, a0.bad, v1, v2, v3) H ?_
 clear H; rintro ⟨k1, x18, x19, x20, x21, x22, x23, x24, x25, x26, v10, v11, v12⟩ H
 replace H : lM fuel (eU fuel) a1 a2 k1 x18 x19 x20 x21 x22 x23 x24 x25 x26 = _ := H
 try dsimp only
 obtain _ | k1 := k1
 rw [lM] at H; cases H
 rw [lM] at H
 refine aW 2 rfl (fun hc_v10 => ?_)
 refine aW 3 rfl (fun hc_v11 => ?_)
 refine aW 4 rfl (fun hc_v12 => ?_)
 refine aH ?_
 revert H; refine I7 (fun c1 H => ?_) fun c1 H => ?_
 refine Yg c1 (bV rfl hh) ?_
 refine Yg c1 (kE rfl (has rfl) (fun m v h => ⟨_, h⟩)) ?_
 refine Yg c1 (cI 7 rfl hh (fa rfl) rfl) ?_
 refine Yh 1 rfl c1 (bW rfl hh (sc rfl) rfl Ent.rfl) ?_
 refine Yg c1 (jP rfl hh) ?_
 refine Yy (dF rfl hh c1 hh) ?_
 refine Z1 ?_
 revert H; refine cs (fun c2 H => ?_) fun c2 H => ?_
 refine dB (has rfl) (oT c2) ?_
 refine Z5 ?_
 exact Tm ((x19, x20, x21, x22, x23, x24, x25, x26, v10, v11, v12)) (ij H)
 refine dC (has rfl) (pC c2) ?_
 refine Z2 ?_
 refine aH ?_
 revert H; refine B1 fun y1 h1 H => ?_
 revert H; refine bs fun y2 h2 H => ?_
 revert H; refine bs fun y3 h3 H => ?_
 revert H; refine bs fun z1 h4 H => ?_
 apply bI (ods := [_, _, _, _, _, _, _, _, _, _, _, _, _, _, _, _]) 16 0 5 bH rfl rfl rfl
 refine ND ?_
 refine M4 ?_
 intros
 refine My (cD rfl hh hh (el rfl) h1) fun _ => ?_
 refine M7 ?_
 intros
 refine My (cD rfl hh hh (el rfl) h2) fun _ => ?_
 refine M1 ?_
 intros
 refine Nc (aG3 _ _ _ _ h3) fun _ => ?_
 refine My (fO rfl hh hh h4) fun _ => ?_
 refine Z1 ?_
 refine bJ ?_
 refine bJ ?_
 refine bJ ?_
 refine bJ ?_
 refine gA (x := (⟨(⟨x19, x20, x21, x22⟩ : ScopeProg), x23, x24, x25, x26⟩ : Ref03_look)) ?_
 revert H; refine bs fun y4 h5 H => ?_
 refine Tc (ih_r03_look_node _ _ _ _ _ h5) ?_
 refine sE (fun v13 v14 v15 => ?_)
 refine aW 1 rfl (fun hc_v13 => ?_)
 refine aW 2 rfl (fun hc_v14 => ?_)
 refine aW 3 rfl (fun hc_v15 => ?_)
 revert H; refine B5 fun z2 h6 H => ?_
 refine Yy (fO rfl hh hh h6) ?_
 refine Z2 ?_
 refine aI [4, 0, 1, 2, 3] (by decide) ?_
 exact Tm ((k1, z2, y4.p.Free, y4.p.Nodes, y4.p.Defs, y4.p.Main, y4.sizes, y4.owner, y4.users, y4.bad, v13, v14, v15)) ⟨H, ls⟩
 exact fk
 kernel_rfl
 refine Yf c1 ?_
 refine Yf c1 ?_
 refine Yf c1 ?_
 refine Yf c1 ?_
 refine Yf c1 ?_
 refine Yy (cJ rfl hh c1 hh) ?_
 refine Z7 ?_
 exact Tm ((x19, x20, x21, x22, x23, x24, x25, x26, v10, v11, v12)) (ij H)
 clear H; intro i hi; obtain ⟨x1, x2, x3, x4, x5, x6, x7, x8, v4, v5, v6⟩ := i; subst o1; have H := Hr1; clear Hr1; try dsimp only at H
 try dsimp only
 refine aW 2 rfl (fun hc_v4 => ?_)
 refine aW 3 rfl (fun hc_v5 => ?_)
 refine aW 4 rfl (fun hc_v6 => ?_)
 refine Z4 ?_
 refine Tl (ι := Nat × Int × List ByteArray × List ScopeNode × List ScopeDef × Int × List Int × List Int × List Int × Bool × Value × Value × Value) (fun i => lK (eU fuel) a1 a2 i.1 i.2.1 i.2.2.1 i.2.2.2.1 i.2.2.2.2.1 i.2.2.2.2.2.1 i.2.2.2.2.2.2.1 i.2.2.2.2.2.2.2.1 i.2.2.2.2.2.2.2.2.1 i.2.2.2.2.2.2.2.2.2.1 = _) (fun i => i.1) (fun i => [(0, fEq (ptr p0)), (2, aA .i64 a2), (4, fEq (ptr b1)), (7, aA .i64 i.2.1)]) (fun i => [aC b1 52 [fSl bE a1.Chans, fSl cB a1.Spots, fSl bK a1.Rules], aC p0 62 [fSl aN i.2.2.1, fSl aM i.2.2.2.1, fSl aK i.2.2.2.2.1, aA .i64 i.2.2.2.2.2.1, fEq i.2.2.2.2.2.2.2.2.2.2.1, fEq i.2.2.2.2.2.2.2.2.2.2.2.1, fEq i.2.2.2.2.2.2.2.2.2.2.2.2, aG i.2.2.2.2.2.2.2.2.2.1], aE i.2.2.2.2.2.2.2.2.2.2.1 3 (aB .i64) i.2.2.2.2.2.2.1, aE i.2.2.2.2.2.2.2.2.2.2.2.1 3 (aB .i64) i.2.2.2.2.2.2.2.1, aE i.2.2.2.2.2.2.2.2.2.2.2.2 3 (aB .i64) i.2.2.2.2.2.2.2.2.1]) (fuel, 0, x1, x2, x3, x4, x5, x6, x7, x8, v4, v5, v6) H ?_
 clear H; rintro ⟨k2, x36, x37, x38, x39, x40, x41, x42, x43, x44, v19, v20, v21⟩ H
 replace H : lK (eU fuel) a1 a2 k2 x36 x37 x38 x39 x40 x41 x42 x43 x44 = _ := H
 try dsimp only
 obtain _ | k2 := k2
 rw [lK] at H; cases H
 rw [lK] at H
 refine aW 2 rfl (fun hc_v19 => ?_)
 refine aW 3 rfl (fun hc_v20 => ?_)
 refine aW 4 rfl (fun hc_v21 => ?_)
 refine aH ?_
 revert H; refine I7 (fun c3 H => ?_) fun c3 H => ?_
 refine Yg c3 (bV rfl hh) ?_
 refine Yg c3 (kE rfl (has rfl) (fun m v h => ⟨_, h⟩)) ?_
 refine Yg c3 (cI 7 rfl hh (fa rfl) rfl) ?_
 refine Yh 1 rfl c3 (bW rfl hh (sc rfl) rfl Ent.rfl) ?_
 refine Yg c3 (jP rfl hh) ?_
 refine Yy (dF rfl hh c3 hh) ?_
 refine Z1 ?_
 revert H; refine cs (fun c4 H => ?_) fun c4 H => ?_
 refine dB (has rfl) (oT c4) ?_
 refine Z4 ?_
 refine bJ ?_
 refine bJ ?_
 refine bJ ?_
 refine bJ ?_
 refine gA (x := (⟨(⟨x37, x38, x39, x40⟩ : ScopeProg), x41, x42, x43, x44⟩ : Ref03_look)) ?_
 cases H
 refine aI [0] (by decide) ?_
 exact fI (.inr rfl) rfl rfl
 refine dC (has rfl) (pC c4) ?_
 refine Z2 ?_
 refine aH ?_
 revert H; refine B6 fun y5 h7 H => ?_
 refine Yy (cD rfl hh hh (el rfl) h7) ?_
 refine Z3 ?_
 refine bJ ?_
 refine bJ ?_
 refine bJ ?_
 refine bJ ?_
 refine gA (x := (⟨(⟨x37, x38, x39, x40⟩ : ScopeProg), x41, x42, x43, x44⟩ : Ref03_look)) ?_
 revert H; refine bs fun y6 h8 H => ?_
 refine Tc (ih_r03_look_node _ _ _ _ _ h8) ?_
 refine sE (fun v22 v23 v24 => ?_)
 refine aW 1 rfl (fun hc_v22 => ?_)
 refine aW 2 rfl (fun hc_v23 => ?_)
 refine aW 3 rfl (fun hc_v24 => ?_)
 revert H; refine B5 fun z3 h9 H => ?_
 refine Yy (fO rfl hh hh h9) ?_
 refine Z2 ?_
 refine aI [4, 0, 1, 2, 3] (by decide) ?_
 exact Tm ((k2, z3, y6.p.Free, y6.p.Nodes, y6.p.Defs, y6.p.Main, y6.sizes, y6.owner, y6.users, y6.bad, v22, v23, v24)) ⟨H, ls⟩
 refine Yf c3 ?_
 refine Yf c3 ?_
 refine Yf c3 ?_
 refine Yf c3 ?_
 refine Yf c3 ?_
 refine Yy (cJ rfl hh c3 hh) ?_
 refine Z6 ?_
 refine bJ ?_
 refine bJ ?_
 refine bJ ?_
 refine bJ ?_
 refine gA (x := (⟨(⟨x37, x38, x39, x40⟩ : ScopeProg), x41, x42, x43, x44⟩ : Ref03_look)) ?_
 cases H
 refine aI [0] (by decide) ?_
 exact fI (.inr rfl) rfl rfl
theorem aGM (fuel : Nat) (p0 : Nat) (a0 : Ref03_look) (a1 : Int) (a2 : Int) (r : Ref03_look) (H : eU fuel a0 a1 a2 = some r) : FnS Try.prog 43 [fEq (.pointer (some ⟨p0, 0, none⟩)), aA .i64 a1, aA .i64 a2] [qO p0 a0] (dH []) (fun _ => [qO p0 r]) := (aGx fuel).1 p0 a0 a1 a2 r H
end Go.Proofs.Ytmnbfgeljmhekaa
set_option maxRecDepth 100000
set_option maxHeartbeats 2000000
namespace Go.Proofs.Ytmnbfgeljmhekaa
open Go.SX Go.SW Go.Dt
attribute [local irreducible] Code.wpIn wpListIn Exit.then Exit.inBlock
def iY (fuel : Nat) (a0 : ScopeProg) : Nat → Int → Bool → Option (Bool)
| 0, _, _ => none
| k + 1, x4, x5 =>
 if x4 < (a0.Free.length : Int) then
  (bif x5 then
   some true
  else
   (idx a0.Free x4).bind fun y1 =>
   (tK fuel y1).bind fun y2 =>
   bif !y2 then
    some true
   else
    if 0 < x4 then
     (idx a0.Free x4).bind fun y3 =>
     (chk (x4 - 1)).bind fun z1 =>
     (idx a0.Free z1).bind fun y4 =>
     some (sle y3 y4)
    else
     some false).bind fun x6 =>
  (chk (x4 + 1)).bind fun z2 =>
  iY fuel a0 k z2 x6
 else
  some x5
def kO (fuel : Nat) (a0 : ScopeProg) : Nat → Int → Bool → Option (Bool)
| 0, _, _ => none
| k + 1, x10, x11 =>
 if x10 < (a0.Defs.length : Int) then
  (bif x11 then
   some true
  else
   (idx a0.Defs x10).bind fun y5 =>
   (xU fuel y5).bind fun y6 =>
   some (!y6)).bind fun x12 =>
  (chk (x10 + 1)).bind fun z3 =>
  kO fuel a0 k z3 x12
 else
  some x11
def jO (y10 : Ref03_look) : Nat → Int → Bool → Option (Bool)
| 0, _, _ => none
| k + 1, x16, x17 =>
 if x16 < (y10.owner.length : Int) then
  (bif x17 then
   some true
  else
   (idx y10.owner x16).bind fun y11 =>
   some (decide (y11 = 0))).bind fun x18 =>
  (chk (x16 + 1)).bind fun z4 =>
  jO y10 k z4 x18
 else
  some x17
def kB (y10 : Ref03_look) : Nat → Int → Bool → Option (Bool)
| 0, _, _ => none
| k + 1, x22, x23 =>
 if x22 < (y10.users.length : Int) then
  (bif x23 then
   some true
  else
   (idx y10.users x22).bind fun y12 =>
   some (decide (y12 = 0))).bind fun x24 =>
  (chk (x22 + 1)).bind fun z5 =>
  kB y10 k z5 x24
 else
  some x23
def uN (fuel : Nat) (a0 : ScopeProg) : Option (Ref03_look) :=
 if 12 < (a0.Free.length : Int) then
  some (⟨(⟨a0.Free, a0.Nodes, a0.Defs, a0.Main⟩ : ScopeProg), [], [], [], true⟩ : Ref03_look)
 else
  if 60 < (a0.Nodes.length : Int) then
   some (⟨(⟨a0.Free, a0.Nodes, a0.Defs, a0.Main⟩ : ScopeProg), [], [], [], true⟩ : Ref03_look)
  else
   if 12 < (a0.Defs.length : Int) then
    some (⟨(⟨a0.Free, a0.Nodes, a0.Defs, a0.Main⟩ : ScopeProg), [], [], [], true⟩ : Ref03_look)
   else
    (iY fuel a0 fuel 0 false).bind fun x1 =>
    (kO fuel a0 fuel 0 x1).bind fun x7 =>
    (mk 0 (a0.Nodes.length : Int)).bind fun y7 =>
    (mk 0 (a0.Nodes.length : Int)).bind fun y8 =>
    (mk 0 (a0.Defs.length : Int)).bind fun y9 =>
    bif x7 then
     some (⟨(⟨a0.Free, a0.Nodes, a0.Defs, a0.Main⟩ : ScopeProg), y7, y8, y9, x7⟩ : Ref03_look)
    else
     (eU fuel (⟨(⟨a0.Free, a0.Nodes, a0.Defs, a0.Main⟩ : ScopeProg), y7, y8, y9, x7⟩ : Ref03_look) a0.Main (a0.Free.length : Int)).bind fun y10 =>
     (jO y10 fuel 0 y10.bad).bind fun x13 =>
     (kB y10 fuel 0 x13).bind fun x19 =>
     some (⟨(⟨y10.p.Free, y10.p.Nodes, y10.p.Defs, y10.p.Main⟩ : ScopeProg), y10.sizes, y10.owner, y10.users, x19⟩ : Ref03_look)
theorem aGW (fuel : Nat)  (a0 : ScopeProg) (r : Ref03_look) (H : uN fuel a0 = some r) : FnS Try.prog 15 [fSt dM a0] [] (aF tE r) (fun _ => []) := by
 unfold uN at H
 refine bF Try.func15 rfl Try.ntmps15 rfl (fun β => ?_)
 refine Z1 ?_
 refine aT trivial rfl rfl (cG rfl (has rfl) bO) (fun b1 => ?_)
 refine Z4 ?_
 refine Yy (dR (ψs := [fSl aN a0.Free, fSl aM a0.Nodes, fSl aK a0.Defs, aA .i64 a0.Main, fEq (.slice none 0 0), fEq (.slice none 0 0), fEq (.slice none 0 0), aG false]) rfl ty_bu_62 rfl (aU.cons (has rfl) bO aU.nil) rfl) ?_
 refine aT trivial rfl rfl (cG rfl (has rfl) bO) (fun b2 => ?_)
 refine Z2 ?_
 refine aH ?_
 revert H; refine I6 (fun c1 H => ?_) fun c1 H => ?_
 refine Yt c1 ?_
 refine Yt c1 ?_
 refine Yt c1 ?_
 refine Yt c1 ?_
 refine Yy (dF rfl hh c1 hh) ?_
 refine Z12 ?_
 refine dI (φs' := [fSl aN a0.Free, fSl aM a0.Nodes, fSl aK a0.Defs, aA .i64 a0.Main, fEq (.slice none 0 0), fEq (.slice none 0 0), fEq (.slice none 0 0), aG true]) trivial rfl rfl (has rfl) (has rfl) (aD trivial) (sz rfl) rfl rfl ?_
 refine Z6 ?_
 refine cW (φ := aF tE (⟨(⟨a0.Free, a0.Nodes, a0.Defs, a0.Main⟩ : ScopeProg), [], [], [], true⟩ : Ref03_look)) (v := ptr b2) [2, 10, 3, 27, 28, 30] (hZ (aL.cons Ent.rfl (aL.cons Ent.rfl (aL.cons Ent.rfl (aL.cons Ent.rfl (aL.cons eJ (aL.cons eJ (aL.cons eJ (aL.cons Ent.rfl aL.nil))))))))) (by intro s hs; simp only [List.mem_cons, List.not_mem_nil, or_false] at hs; rcases hs with rfl | rfl | rfl | rfl | rfl | rfl <;> rfl) ?_
 refine cY ?_
 cases H
 refine aI [] (by decide) ?_
 exact To
 refine Yg c1 (cI 1 rfl hh (fa rfl) rfl) ?_
 refine Yh 1 rfl c1 (bW rfl hh (sc rfl) rfl Ent.rfl) ?_
 refine Yg c1 (fS rfl hh (us rfl)) ?_
 refine Yg c1 (hC rfl hh hh) ?_
 refine Yy (cJ rfl hh c1 hh) ?_
 revert H; refine I1 (fun c2 H => ?_) fun c2 H => ?_
 refine Yt c2 ?_
 refine Yt c2 ?_
 refine Yt c2 ?_
 refine Yt c2 ?_
 refine Yy (dF rfl hh c2 hh) ?_
 refine Z6 ?_
 refine dI (φs' := [fSl aN a0.Free, fSl aM a0.Nodes, fSl aK a0.Defs, aA .i64 a0.Main, fEq (.slice none 0 0), fEq (.slice none 0 0), fEq (.slice none 0 0), aG true]) trivial rfl rfl (has rfl) (has rfl) (aD trivial) (sz rfl) rfl rfl ?_
 refine Z6 ?_
 refine cW (φ := aF tE (⟨(⟨a0.Free, a0.Nodes, a0.Defs, a0.Main⟩ : ScopeProg), [], [], [], true⟩ : Ref03_look)) (v := ptr b2) [2, 10, 3, 27, 28, 30] (hZ (aL.cons Ent.rfl (aL.cons Ent.rfl (aL.cons Ent.rfl (aL.cons Ent.rfl (aL.cons eJ (aL.cons eJ (aL.cons eJ (aL.cons Ent.rfl aL.nil))))))))) (by intro s hs; simp only [List.mem_cons, List.not_mem_nil, or_false] at hs; rcases hs with rfl | rfl | rfl | rfl | rfl | rfl <;> rfl) ?_
 refine cY ?_
 cases H
 refine aI [] (by decide) ?_
 exact To
 refine Yg c2 (cI 2 rfl hh (fa rfl) rfl) ?_
 refine Yh 1 rfl c2 (bW rfl hh (sc rfl) rfl Ent.rfl) ?_
 refine Yg c2 (fS rfl hh (us rfl)) ?_
 refine Yg c2 (hC rfl hh hh) ?_
 refine Yy (cJ rfl hh c2 hh) ?_
 revert H; refine I1 (fun c3 H => ?_) fun c3 H => ?_
 refine dC (has rfl) c3 ?_
 refine Z4 ?_
 refine dI (φs' := [fSl aN a0.Free, fSl aM a0.Nodes, fSl aK a0.Defs, aA .i64 a0.Main, fEq (.slice none 0 0), fEq (.slice none 0 0), fEq (.slice none 0 0), aG true]) trivial rfl rfl (has rfl) (has rfl) (aD trivial) (sz rfl) rfl rfl ?_
 refine Z6 ?_
 refine cW (φ := aF tE (⟨(⟨a0.Free, a0.Nodes, a0.Defs, a0.Main⟩ : ScopeProg), [], [], [], true⟩ : Ref03_look)) (v := ptr b2) [2, 10, 3, 27, 28, 30] (hZ (aL.cons Ent.rfl (aL.cons Ent.rfl (aL.cons Ent.rfl (aL.cons Ent.rfl (aL.cons eJ (aL.cons eJ (aL.cons eJ (aL.cons Ent.rfl aL.nil))))))))) (by intro s hs; simp only [List.mem_cons, List.not_mem_nil, or_false] at hs; rcases hs with rfl | rfl | rfl | rfl | rfl | rfl <;> rfl) ?_
 refine cY ?_
 cases H
 refine aI [] (by decide) ?_
 exact To
 refine dB (has rfl) c3 ?_
 revert H; refine B2 fun o1 H Hr1 => ?_
 refine aX (ι := Bool) (fun i => o1 = i) (fun i => [(1, fEq (ptr b1)), (3, fEq (ptr b2))]) (fun i => [aC b2 62 [fSl aN a0.Free, fSl aM a0.Nodes, fSl aK a0.Defs, aA .i64 a0.Main, fEq (.slice none 0 0), fEq (.slice none 0 0), fEq (.slice none 0 0), aG i], aC b1 26 [fSl aN a0.Free, fSl aM a0.Nodes, fSl aK a0.Defs, aA .i64 a0.Main]]) ?_ ?_
 refine Z4 ?_
 refine Tl (ι := Nat × Int × Bool) (fun i => iY fuel a0 i.1 i.2.1 i.2.2 = _) (fun i => i.1) (fun i => [(1, fEq (ptr b1)), (3, fEq (ptr b2)), (4, aA .i64 i.2.1)]) (fun i => [aC b2 62 [fSl aN a0.Free, fSl aM a0.Nodes, fSl aK a0.Defs, aA .i64 a0.Main, fEq (.slice none 0 0), fEq (.slice none 0 0), fEq (.slice none 0 0), aG i.2.2], aC b1 26 [fSl aN a0.Free, fSl aM a0.Nodes, fSl aK a0.Defs, aA .i64 a0.Main]]) (fuel, 0, false) H ?_
 clear H; rintro ⟨k1, x4, x5⟩ H
 replace H : iY fuel a0 k1 x4 x5 = _ := H
 try dsimp only
 obtain _ | k1 := k1
 rw [iY] at H; cases H
 rw [iY] at H
 refine aH ?_
 revert H; refine I7 (fun c4 H => ?_) fun c4 H => ?_
 refine dC (has rfl) c4 ?_
 revert H; refine B2 fun o2 H Hr2 => ?_
 refine aX (ι := Bool) (fun i => o2 = i) (fun i => [(1, fEq (ptr b1)), (3, fEq (ptr b2)), (4, aA .i64 x4)]) (fun i => [aC b2 62 [fSl aN a0.Free, fSl aM a0.Nodes, fSl aK a0.Defs, aA .i64 a0.Main, fEq (.slice none 0 0), fEq (.slice none 0 0), fEq (.slice none 0 0), aG i], aC b1 26 [fSl aN a0.Free, fSl aM a0.Nodes, fSl aK a0.Defs, aA .i64 a0.Main]]) ?_ ?_
 refine Z1 ?_
 revert H; refine cs (fun c5 H => ?_) fun c5 H => ?_
 apply bI (ods := [_, _, _, _, _, _, _, _, _, _, _, _, _, _, _, _, _, _, _, _, _, _, _, _, _, _, _, _, _, _, _, _, _, _, _]) 35 0 2 bH rfl rfl rfl
 refine ND ?_
 refine M6 ?_
 intros
 refine Mt c5 fun _ => ?_
 refine Mt c5 fun _ => ?_
 refine Mt c5 fun _ => ?_
 refine Mt c5 fun _ => ?_
 refine Mt c5 fun _ => ?_
 refine Mt c5 fun _ => ?_
 refine Mt c5 fun _ => ?_
 refine My (dF rfl hh c5 hh) fun _ => ?_
 refine M4 ?_
 intros
 refine eL (od := odS) rfl (⟨_, _, _, _, rfl, rfl, rfl, nu⟩) rfl (fun _ => ?_)
 refine eL (od := odS) rfl (⟨_, _, _, _, rfl, rfl, rfl, nu⟩) rfl (fun _ => ?_)
 refine eL (od := odS) rfl (⟨_, _, _, _, rfl, rfl, rfl, nu⟩) rfl (fun _ => ?_)
 refine eL (od := odS) rfl (⟨_, _, _, _, rfl, rfl, rfl, nu⟩) rfl (fun _ => ?_)
 refine eL (od := odS) rfl (⟨_, _, _, _, rfl, rfl, rfl, nu⟩) rfl (fun _ => ?_)
 refine eL (od := odS) rfl (⟨_, _, _, _, rfl, rfl, rfl, nu⟩) rfl (fun _ => ?_)
 refine eL (od := odS) rfl (⟨_, _, _, _, rfl, rfl, rfl, nu⟩) rfl (fun _ => ?_)
 refine eL (od := odS) rfl (⟨_, _, _, _, rfl, rfl, rfl, nu⟩) rfl (fun _ => ?_)
 refine eL (od := odS) rfl (⟨_, _, _, _, rfl, rfl, rfl, nu⟩) rfl (fun _ => ?_)
 refine eL (od := odS) rfl (⟨_, _, _, _, rfl, rfl, rfl, nu⟩) rfl (fun _ => ?_)
 refine eL (od := odS) rfl (⟨_, _, _, _, rfl, rfl, rfl, nu⟩) rfl (fun _ => ?_)
 refine eL (od := odS) rfl (⟨_, _, _, _, rfl, rfl, rfl, nu⟩) rfl (fun _ => ?_)
 refine M4 ?_
 intros
 refine kM (od := odC [0] true (fAny) [aC b2 62 [fSl aN a0.Free, fSl aM a0.Nodes, fSl aK a0.Defs, aA .i64 a0.Main, fEq (.slice none 0 0), fEq (.slice none 0 0), fEq (.slice none 0 0), aG true]]) (p := 0) (φs' := [fSl aN a0.Free, fSl aM a0.Nodes, fSl aK a0.Defs, aA .i64 a0.Main, fEq (.slice none 0 0), fEq (.slice none 0 0), fEq (.slice none 0 0), aG true]) rfl (fun _ => rfl) (fun _ => rfl) trivial rfl rfl rfl (has rfl) (has rfl) (aD trivial) (sz rfl) rfl rfl (fun _ => ?_)
 refine Z4 ?_
 exact Tm (true) (ij H)
 exact fk
 kernel_rfl
 revert H; refine bs fun y1 h1 H => ?_
 revert H; refine bs fun y2 h2 H => ?_
 revert H; refine cs (fun c6 H => ?_) fun c6 H => ?_
 apply bI (ods := [_, _, _, _, _, _, _, _, _, _, _, _, _, _, _, _, _, _, _, _, _, _, _, _, _, _, _, _, _, _, _, _, _, _, _]) 35 0 2 bH rfl rfl rfl
 refine ND ?_
 refine M6 ?_
 intros
 refine Mg c5 (cI 0 rfl hh (fa rfl) rfl) fun _ => ?_
 refine eC (od := odC [1] false (fSl aN a0.Free) [dG]) (ps := [1]) (φ := fSl aN a0.Free) rfl (fun _ => rfl) ⟨_, _, rfl, rfl, c5⟩ rfl rfl (bW rfl (has rfl) (sc rfl) rfl Ent.rfl) (fun _ => ?_)
 refine Mg c5 (bV rfl hh) fun _ => ?_
 refine Mg c5 (cD rfl hh hh (el rfl) h1) fun _ => ?_
 refine Mg c5 (fP rfl hh (sc rfl) rfl) fun _ => ?_
 refine Nc (aBO _ _ _ h2) fun _ => ?_
 refine Mg c5 (jP rfl hh) fun _ => ?_
 refine My (cJ rfl hh c5 hh) fun _ => ?_
 refine M1 ?_
 intros
 refine Mt c6 fun _ => ?_
 refine Mt c6 fun _ => ?_
 refine Mt c6 fun _ => ?_
 refine eL (od := odS) rfl (⟨_, _, _, _, rfl, rfl, rfl, nu⟩) rfl (fun _ => ?_)
 refine eL (od := odS) rfl (⟨_, _, _, _, rfl, rfl, rfl, nu⟩) rfl (fun _ => ?_)
 refine eL (od := odS) rfl (⟨_, _, _, _, rfl, rfl, rfl, nu⟩) rfl (fun _ => ?_)
 refine eL (od := odS) rfl (⟨_, _, _, _, rfl, rfl, rfl, nu⟩) rfl (fun _ => ?_)
 refine eL (od := odS) rfl (⟨_, _, _, _, rfl, rfl, rfl, nu⟩) rfl (fun _ => ?_)
 refine eL (od := odS) rfl (⟨_, _, _, _, rfl, rfl, rfl, nu⟩) rfl (fun _ => ?_)
 refine eL (od := odS) rfl (⟨_, _, _, _, rfl, rfl, rfl, nu⟩) rfl (fun _ => ?_)
 refine eL (od := odS) rfl (⟨_, _, _, _, rfl, rfl, rfl, nu⟩) rfl (fun _ => ?_)
 refine eL (od := odS) rfl (⟨_, _, _, _, rfl, rfl, rfl, nu⟩) rfl (fun _ => ?_)
 refine eL (od := odS) rfl (⟨_, _, _, _, rfl, rfl, rfl, nu⟩) rfl (fun _ => ?_)
 refine eL (od := odS) rfl (⟨_, _, _, _, rfl, rfl, rfl, nu⟩) rfl (fun _ => ?_)
 refine eL (od := odS) rfl (⟨_, _, _, _, rfl, rfl, rfl, nu⟩) rfl (fun _ => ?_)
 refine Mt c6 fun _ => ?_
 refine My (dF rfl hh c6 hh) fun _ => ?_
 refine M2 ?_
 intros
 refine kM (od := odC [0] true (fAny) [aC b2 62 [fSl aN a0.Free, fSl aM a0.Nodes, fSl aK a0.Defs, aA .i64 a0.Main, fEq (.slice none 0 0), fEq (.slice none 0 0), fEq (.slice none 0 0), aG true]]) (p := 0) (φs' := [fSl aN a0.Free, fSl aM a0.Nodes, fSl aK a0.Defs, aA .i64 a0.Main, fEq (.slice none 0 0), fEq (.slice none 0 0), fEq (.slice none 0 0), aG true]) rfl (fun _ => rfl) (fun _ => rfl) trivial rfl rfl rfl (has rfl) (has rfl) (aD trivial) (sz rfl) rfl rfl (fun _ => ?_)
 refine Z4 ?_
 exact Tm (true) (ij H)
 exact fk
 kernel_rfl
 revert H; refine is (fun c7 H => ?_) fun c7 H => ?_
 revert H; refine bs fun y3 h3 H => ?_
 revert H; refine bs fun z1 h4 H => ?_
 revert H; refine bs fun y4 h5 H => ?_
 apply bI (ods := [_, _, _, _, _, _, _, _, _, _, _, _, _, _, _, _, _, _, _, _, _, _, _, _, _, _, _, _, _, _, _, _, _, _, _]) 35 0 2 bH rfl rfl rfl
 refine ND ?_
 refine M6 ?_
 intros
 refine Mg c5 (cI 0 rfl hh (fa rfl) rfl) fun _ => ?_
 refine eC (od := odC [1] false (fSl aN a0.Free) [dG]) (ps := [1]) (φ := fSl aN a0.Free) rfl (fun _ => rfl) ⟨_, _, rfl, rfl, c5⟩ rfl rfl (bW rfl (has rfl) (sc rfl) rfl Ent.rfl) (fun _ => ?_)
 refine Mg c5 (bV rfl hh) fun _ => ?_
 refine Mg c5 (cD rfl hh hh (el rfl) h1) fun _ => ?_
 refine Mg c5 (fP rfl hh (sc rfl) rfl) fun _ => ?_
 refine Nc (aBO _ _ _ h2) fun _ => ?_
 refine Mg c5 (jP rfl hh) fun _ => ?_
 refine My (cJ rfl hh c5 hh) fun _ => ?_
 refine M1 ?_
 intros
 refine Mg c6 (bV rfl hh) fun _ => ?_
 refine Mg c6 (hC rfl hh hh) fun _ => ?_
 refine Mg c6 (bV rfl hh) fun _ => ?_
 refine Mg c7 (cI 0 rfl hh (fa rfl) rfl) fun _ => ?_
 refine eC (od := odC [1] false (fSl aN a0.Free) [dG]) (ps := [1]) (φ := fSl aN a0.Free) rfl (fun _ => rfl) ⟨_, _, rfl, rfl, c7⟩ rfl rfl (bW rfl (has rfl) (sc rfl) rfl Ent.rfl) (fun _ => ?_)
 refine Mg c7 (bV rfl hh) fun _ => ?_
 refine Mg c7 (cD rfl hh hh (el rfl) h3) fun _ => ?_
 refine Mg c7 (fP rfl hh (sc rfl) rfl) fun _ => ?_
 refine Mg c7 (cI 0 rfl hh (fa rfl) rfl) fun _ => ?_
 refine eC (od := odC [1] false (fSl aN a0.Free) [dG]) (ps := [1]) (φ := fSl aN a0.Free) rfl (fun _ => rfl) ⟨_, _, rfl, rfl, c7⟩ rfl rfl (bW rfl (has rfl) (sc rfl) rfl Ent.rfl) (fun _ => ?_)
 refine Mg c7 (bV rfl hh) fun _ => ?_
 refine Mg c7 (o_sub rfl hh hh h4) fun _ => ?_
 refine Mg c7 (cD rfl hh hh (el rfl) h5) fun _ => ?_
 refine Mg c7 (fP rfl hh (sc rfl) rfl) fun _ => ?_
 refine Mg c7 (o_leqS rfl hh hh) fun _ => ?_
 refine Mg c6 (dF rfl hh c7 hh) fun _ => ?_
 refine My (cJ rfl hh c6 hh) fun _ => ?_
 refine M2 ?_
 intros
 refine kM (od := odC [0] true (fAny) [aC b2 62 [fSl aN a0.Free, fSl aM a0.Nodes, fSl aK a0.Defs, aA .i64 a0.Main, fEq (.slice none 0 0), fEq (.slice none 0 0), fEq (.slice none 0 0), aG (sle y3 y4)]]) (p := 0) (φs' := [fSl aN a0.Free, fSl aM a0.Nodes, fSl aK a0.Defs, aA .i64 a0.Main, fEq (.slice none 0 0), fEq (.slice none 0 0), fEq (.slice none 0 0), aG (sle y3 y4)]) rfl (fun _ => rfl) (fun _ => rfl) trivial rfl rfl rfl (has rfl) (has rfl) (aD trivial) (sz rfl) rfl rfl (fun _ => ?_)
 refine Z4 ?_
 exact Tm (sle y3 y4) (ij H)
 exact fk
 kernel_rfl
 apply bI (ods := [_, _, _, _, _, _, _, _, _, _, _, _, _, _, _, _, _, _, _, _, _, _, _, _, _, _, _, _, _, _, _, _, _, _, _]) 35 0 2 bH rfl rfl rfl
 refine ND ?_
 refine M6 ?_
 intros
 refine Mg c5 (cI 0 rfl hh (fa rfl) rfl) fun _ => ?_
 refine eC (od := odC [1] false (fSl aN a0.Free) [dG]) (ps := [1]) (φ := fSl aN a0.Free) rfl (fun _ => rfl) ⟨_, _, rfl, rfl, c5⟩ rfl rfl (bW rfl (has rfl) (sc rfl) rfl Ent.rfl) (fun _ => ?_)
 refine Mg c5 (bV rfl hh) fun _ => ?_
 refine Mg c5 (cD rfl hh hh (el rfl) h1) fun _ => ?_
 refine Mg c5 (fP rfl hh (sc rfl) rfl) fun _ => ?_
 refine Nc (aBO _ _ _ h2) fun _ => ?_
 refine Mg c5 (jP rfl hh) fun _ => ?_
 refine My (cJ rfl hh c5 hh) fun _ => ?_
 refine M1 ?_
 intros
 refine Mg c6 (bV rfl hh) fun _ => ?_
 refine Mg c6 (hC rfl hh hh) fun _ => ?_
 refine Mg c6 (bV rfl hh) fun _ => ?_
 refine Mz c7 fun _ => ?_
 refine Mz c7 fun _ => ?_
 refine Mz c7 fun _ => ?_
 refine Mz c7 fun _ => ?_
 refine Mz c7 fun _ => ?_
 refine Mz c7 fun _ => ?_
 refine Mz c7 fun _ => ?_
 refine Mz c7 fun _ => ?_
 refine Mz c7 fun _ => ?_
 refine Mz c7 fun _ => ?_
 refine Mz c7 fun _ => ?_
 refine Mz c7 fun _ => ?_
 refine Mg c6 (cJ rfl hh c7 hh) fun _ => ?_
 refine My (cJ rfl hh c6 hh) fun _ => ?_
 refine M2 ?_
 intros
 refine kM (od := odC [0] true (fAny) [aC b2 62 [fSl aN a0.Free, fSl aM a0.Nodes, fSl aK a0.Defs, aA .i64 a0.Main, fEq (.slice none 0 0), fEq (.slice none 0 0), fEq (.slice none 0 0), aG false]]) (p := 0) (φs' := [fSl aN a0.Free, fSl aM a0.Nodes, fSl aK a0.Defs, aA .i64 a0.Main, fEq (.slice none 0 0), fEq (.slice none 0 0), fEq (.slice none 0 0), aG false]) rfl (fun _ => rfl) (fun _ => rfl) trivial rfl rfl rfl (has rfl) (has rfl) (aD trivial) (sz rfl) rfl rfl (fun _ => ?_)
 refine Z4 ?_
 exact Tm (false) (ij H)
 exact fk
 kernel_rfl
 clear H; intro x6 hi; subst o2; have H := Hr2; clear Hr2; try dsimp only at H
 try dsimp only
 revert H; refine B2 fun z2 h6 H => ?_
 refine Yy (fO rfl hh hh h6) ?_
 refine Z2 ?_
 exact Tm ((k1, z2, x6)) ⟨H, ls⟩
 refine dB (has rfl) c4 ?_
 refine Z5 ?_
 exact Tm (x5) (ij H)
 clear H; intro x1 hi; subst o1; have H := Hr1; clear Hr1; try dsimp only at H
 try dsimp only
 revert H; refine bs fun o3 H Hr3 => ?_
 refine aX (ι := Bool) (fun i => o3 = i) (fun i => [(1, fEq (ptr b1)), (3, fEq (ptr b2))]) (fun i => [aC b2 62 [fSl aN a0.Free, fSl aM a0.Nodes, fSl aK a0.Defs, aA .i64 a0.Main, fEq (.slice none 0 0), fEq (.slice none 0 0), fEq (.slice none 0 0), aG i], aC b1 26 [fSl aN a0.Free, fSl aM a0.Nodes, fSl aK a0.Defs, aA .i64 a0.Main]]) ?_ ?_
 refine Z4 ?_
 refine Tl (ι := Nat × Int × Bool) (fun i => kO fuel a0 i.1 i.2.1 i.2.2 = _) (fun i => i.1) (fun i => [(1, fEq (ptr b1)), (3, fEq (ptr b2)), (5, aA .i64 i.2.1)]) (fun i => [aC b2 62 [fSl aN a0.Free, fSl aM a0.Nodes, fSl aK a0.Defs, aA .i64 a0.Main, fEq (.slice none 0 0), fEq (.slice none 0 0), fEq (.slice none 0 0), aG i.2.2], aC b1 26 [fSl aN a0.Free, fSl aM a0.Nodes, fSl aK a0.Defs, aA .i64 a0.Main]]) (fuel, 0, x1) H ?_
 clear H; rintro ⟨k2, x10, x11⟩ H
 replace H : kO fuel a0 k2 x10 x11 = _ := H
 try dsimp only
 obtain _ | k2 := k2
 rw [kO] at H; cases H
 rw [kO] at H
 refine aH ?_
 revert H; refine I7 (fun c8 H => ?_) fun c8 H => ?_
 refine dC (has rfl) c8 ?_
 revert H; refine B2 fun o4 H Hr4 => ?_
 refine aX (ι := Bool) (fun i => o4 = i) (fun i => [(1, fEq (ptr b1)), (3, fEq (ptr b2)), (5, aA .i64 x10)]) (fun i => [aC b2 62 [fSl aN a0.Free, fSl aM a0.Nodes, fSl aK a0.Defs, aA .i64 a0.Main, fEq (.slice none 0 0), fEq (.slice none 0 0), fEq (.slice none 0 0), aG i], aC b1 26 [fSl aN a0.Free, fSl aM a0.Nodes, fSl aK a0.Defs, aA .i64 a0.Main]]) ?_ ?_
 refine Z8 ?_
 revert H; refine cs (fun c9 H => ?_) fun c9 H => ?_
 refine Yt c9 ?_
 refine Yt c9 ?_
 refine Yt c9 ?_
 refine Yt c9 ?_
 refine Yt c9 ?_
 refine Yt c9 ?_
 refine Yt c9 ?_
 refine Yy (dF rfl hh c9 hh) ?_
 refine Z2 ?_
 refine dI (φs' := [fSl aN a0.Free, fSl aM a0.Nodes, fSl aK a0.Defs, aA .i64 a0.Main, fEq (.slice none 0 0), fEq (.slice none 0 0), fEq (.slice none 0 0), aG true]) trivial rfl rfl (has rfl) (has rfl) (aD trivial) (sz rfl) rfl rfl ?_
 refine Z3 ?_
 exact Tm (true) (ij H)
 refine Yg c9 (cI 2 rfl hh (fa rfl) rfl) ?_
 refine Yh 1 rfl c9 (bW rfl hh (sc rfl) rfl Ent.rfl) ?_
 refine Yg c9 (bV rfl hh) ?_
 revert H; refine bs fun y5 h7 H => ?_
 refine Yg c9 (cD rfl hh hh (el rfl) h7) ?_
 refine Yg c9 (aCp rfl hh (ag rfl)) ?_
 revert H; refine bs fun y6 h8 H => ?_
 refine Tc (aGF _ _ _ h8) ?_
 refine Yg c9 (jP rfl hh) ?_
 refine Yy (cJ rfl hh c9 hh) ?_
 refine Z2 ?_
 refine dI (φs' := [fSl aN a0.Free, fSl aM a0.Nodes, fSl aK a0.Defs, aA .i64 a0.Main, fEq (.slice none 0 0), fEq (.slice none 0 0), fEq (.slice none 0 0), aG (!y6)]) trivial rfl rfl (has rfl) (has rfl) (aD trivial) (sz rfl) rfl rfl ?_
 refine Z3 ?_
 exact Tm (!y6) (ij H)
 clear H; intro x12 hi; subst o4; have H := Hr4; clear Hr4; try dsimp only at H
 try dsimp only
 revert H; refine B2 fun z3 h9 H => ?_
 refine Yy (fO rfl hh hh h9) ?_
 refine Z2 ?_
 exact Tm ((k2, z3, x12)) ⟨H, ls⟩
 refine dB (has rfl) c8 ?_
 refine Z5 ?_
 exact Tm (x11) (ij H)
 clear H; intro x7 hi; subst o3; have H := Hr3; clear Hr3; try dsimp only at H
 try dsimp only
 refine aH ?_
 revert H; refine bs fun y7 h10 H => ?_
 revert H; refine bs fun y8 h11 H => ?_
 revert H; refine bs fun y9 h12 H => ?_
 apply bI (ods := [_, _, _, _, _, _, _, _, _, _, _, _, _, _, _, _, _, _, _, _, _, _, _, _]) 24 3 5 bH rfl rfl rfl
 refine ND ?_
 refine M6 ?_
 intros
 refine Mn 2 (fun b3 => .slice (some ⟨b3, 0, none⟩) y7.length y7.length) (fun b3 => aE (.slice (some ⟨b3, 0, none⟩) y7.length y7.length) 3 (aB .i64) y7) rfl (lW (t := (aB .i64)) (z := 0) rfl (has rfl) (et rfl) rfl sH rfl h10) (fun b3 u1 => ?_)
 refine M3 ?_
 intros
 refine Mn 3 (fun b4 => .slice (some ⟨b4, 0, none⟩) y8.length y8.length) (fun b4 => aE (.slice (some ⟨b4, 0, none⟩) y8.length y8.length) 3 (aB .i64) y8) rfl (lW (t := (aB .i64)) (z := 0) rfl (has rfl) (et rfl) rfl sH rfl h11) (fun b4 u2 => ?_)
 refine M3 ?_
 intros
 refine Mn 4 (fun b5 => .slice (some ⟨b5, 0, none⟩) y9.length y9.length) (fun b5 => aE (.slice (some ⟨b5, 0, none⟩) y9.length y9.length) 3 (aB .i64) y9) rfl (lW (t := (aB .i64)) (z := 0) rfl (has rfl) (et rfl) rfl sH rfl h12) (fun b5 u3 => ?_)
 refine M2 ?_
 intros
 refine kM (od := od1 6 [0] true (fun b3 _ => fAny) (fun b3 _ => [aC b2 62 [fSl aN a0.Free, fSl aM a0.Nodes, fSl aK a0.Defs, aA .i64 a0.Main, fEq (.slice (some ⟨b3, 0, none⟩) y7.length y7.length), fEq (.slice none 0 0), fEq (.slice none 0 0), aG x7]])) (p := 0) (φs' := [fSl aN a0.Free, fSl aM a0.Nodes, fSl aK a0.Defs, aA .i64 a0.Main, fEq (.slice (some ⟨b3, 0, none⟩) y7.length y7.length), fEq (.slice none 0 0), fEq (.slice none 0 0), aG x7]) rfl (fun _ => rfl) (fun _ => rfl) trivial rfl rfl rfl (has rfl) (has rfl) (aD trivial) (sz rfl) rfl rfl (fun _ => ?_)
 refine M2 ?_
 intros
 refine kM (od := od2 6 10 [0] true (fun b3 _ b4 _ => fAny) (fun b3 _ b4 _ => [aC b2 62 [fSl aN a0.Free, fSl aM a0.Nodes, fSl aK a0.Defs, aA .i64 a0.Main, fEq (.slice (some ⟨b3, 0, none⟩) y7.length y7.length), fEq (.slice (some ⟨b4, 0, none⟩) y8.length y8.length), fEq (.slice none 0 0), aG x7]])) (p := 0) (φs' := [fSl aN a0.Free, fSl aM a0.Nodes, fSl aK a0.Defs, aA .i64 a0.Main, fEq (.slice (some ⟨b3, 0, none⟩) y7.length y7.length), fEq (.slice (some ⟨b4, 0, none⟩) y8.length y8.length), fEq (.slice none 0 0), aG x7]) rfl (fun _ => rfl) (fun _ => rfl) trivial rfl rfl rfl (has rfl) (has rfl) (aD trivial) (sz rfl) rfl rfl (fun _ => ?_)
 refine M2 ?_
 intros
 refine kM (od := od3 6 10 14 [0] true (fun b3 _ b4 _ b5 _ => fAny) (fun b3 _ b4 _ b5 _ => [aC b2 62 [fSl aN a0.Free, fSl aM a0.Nodes, fSl aK a0.Defs, aA .i64 a0.Main, fEq (.slice (some ⟨b3, 0, none⟩) y7.length y7.length), fEq (.slice (some ⟨b4, 0, none⟩) y8.length y8.length), fEq (.slice (some ⟨b5, 0, none⟩) y9.length y9.length), aG x7]])) (p := 0) (φs' := [fSl aN a0.Free, fSl aM a0.Nodes, fSl aK a0.Defs, aA .i64 a0.Main, fEq (.slice (some ⟨b3, 0, none⟩) y7.length y7.length), fEq (.slice (some ⟨b4, 0, none⟩) y8.length y8.length), fEq (.slice (some ⟨b5, 0, none⟩) y9.length y9.length), aG x7]) rfl (fun _ => rfl) (fun _ => rfl) trivial rfl rfl rfl (has rfl) (has rfl) (aD trivial) (sz rfl) rfl rfl (fun _ => ?_)
 refine Z1 ?_
 generalize hv_v1 : (Value.slice (some ⟨b3, 0, none⟩) _ _) = v1; clear hv_v1
 refine aW 2 rfl (fun hc_v1 => ?_)
 generalize hv_v2 : (Value.slice (some ⟨b4, 0, none⟩) _ _) = v2; clear hv_v2
 refine aW 3 rfl (fun hc_v2 => ?_)
 generalize hv_v3 : (Value.slice (some ⟨b5, 0, none⟩) _ _) = v3; clear hv_v3
 refine aW 4 rfl (fun hc_v3 => ?_)
 refine Z1 ?_
 refine aH ?_
 refine Z6 ?_
 revert H; refine cs (fun c10 H => ?_) fun c10 H => ?_
 refine dC (has rfl) c10 ?_
 refine Z5 ?_
 refine eI ?_
 refine cW (φ := fSl (aB .i64) y7) (v := v1) [101] cT (by intro s hs; simp only [List.mem_cons, List.not_mem_nil, or_false] at hs; rcases hs with rfl <;> rfl) ?_
 refine iG (φs' := [fSl aN a0.Free, fSl aM a0.Nodes, fSl aK a0.Defs, aA .i64 a0.Main, fSl (aB .i64) y7, fEq v2, fEq v3, aG x7]) (i := 4) rfl rfl ?_
 refine cY ?_
 refine eI ?_
 refine cW (φ := fSl (aB .i64) y8) (v := v2) [105] cT (by intro s hs; simp only [List.mem_cons, List.not_mem_nil, or_false] at hs; rcases hs with rfl <;> rfl) ?_
 refine iG (φs' := [fSl aN a0.Free, fSl aM a0.Nodes, fSl aK a0.Defs, aA .i64 a0.Main, fSl (aB .i64) y7, fSl (aB .i64) y8, fEq v3, aG x7]) (i := 5) rfl rfl ?_
 refine cY ?_
 refine eI ?_
 refine cW (φ := fSl (aB .i64) y9) (v := v3) [109] cT (by intro s hs; simp only [List.mem_cons, List.not_mem_nil, or_false] at hs; rcases hs with rfl <;> rfl) ?_
 refine iG (φs' := [fSl aN a0.Free, fSl aM a0.Nodes, fSl aK a0.Defs, aA .i64 a0.Main, fSl (aB .i64) y7, fSl (aB .i64) y8, fSl (aB .i64) y9, aG x7]) (i := 6) rfl rfl ?_
 refine cY ?_
 refine cW (φ := aF tE (⟨(⟨a0.Free, a0.Nodes, a0.Defs, a0.Main⟩ : ScopeProg), y7, y8, y9, x7⟩ : Ref03_look)) (v := ptr b2) [3, 95, 96, 97, 110, 112, 114, 116, 117, 120, 2] (hZ aL.rfl) (by intro s hs; simp only [List.mem_cons, List.not_mem_nil, or_false] at hs; rcases hs with rfl | rfl | rfl | rfl | rfl | rfl | rfl | rfl | rfl | rfl | rfl <;> rfl) ?_
 refine cY ?_
 cases H
 refine aI [] (by decide) ?_
 exact To
 refine dB (has rfl) c10 ?_
 refine Z9 ?_
 refine bJ ?_
 refine bJ ?_
 refine bJ ?_
 refine eD ?_
 refine gA (x := (⟨(⟨a0.Free, a0.Nodes, a0.Defs, a0.Main⟩ : ScopeProg), y7, y8, y9, x7⟩ : Ref03_look)) ?_
 revert H; refine bs fun y10 h13 H => ?_
 refine Tc (aGM _ _ _ _ _ _ h13) ?_
 refine sE (fun v4 v5 v6 => ?_)
 refine aW 1 rfl (fun hc_v4 => ?_)
 refine aW 2 rfl (fun hc_v5 => ?_)
 refine aW 3 rfl (fun hc_v6 => ?_)
 revert H; refine B1 fun o5 H Hr5 => ?_
 refine aX (ι := Bool) (fun i => o5 = i) (fun i => [(3, fEq (ptr b2))]) (fun i => [aC b2 62 [fSl aN y10.p.Free, fSl aM y10.p.Nodes, fSl aK y10.p.Defs, aA .i64 y10.p.Main, fEq v4, fEq v5, fEq v6, aG i], aC b1 26 [fSl aN a0.Free, fSl aM a0.Nodes, fSl aK a0.Defs, aA .i64 a0.Main], aE v4 3 (aB .i64) y10.sizes, aE v5 3 (aB .i64) y10.owner, aE v6 3 (aB .i64) y10.users]) ?_ ?_
 refine Z4 ?_
 refine aI [0, 4, 1, 2, 3] (by decide) ?_
 refine Tl (ι := Nat × Int × Bool) (fun i => jO y10 i.1 i.2.1 i.2.2 = _) (fun i => i.1) (fun i => [(3, fEq (ptr b2)), (6, aA .i64 i.2.1)]) (fun i => [aC b2 62 [fSl aN y10.p.Free, fSl aM y10.p.Nodes, fSl aK y10.p.Defs, aA .i64 y10.p.Main, fEq v4, fEq v5, fEq v6, aG i.2.2], aC b1 26 [fSl aN a0.Free, fSl aM a0.Nodes, fSl aK a0.Defs, aA .i64 a0.Main], aE v4 3 (aB .i64) y10.sizes, aE v5 3 (aB .i64) y10.owner, aE v6 3 (aB .i64) y10.users]) (fuel, 0, y10.bad) H ?_
 clear H; rintro ⟨k3, x16, x17⟩ H
 replace H : jO y10 k3 x16 x17 = _ := H
 try dsimp only
 obtain _ | k3 := k3
 rw [jO] at H; cases H
 rw [jO] at H
 refine aH ?_
 revert H; refine I9 (fun c11 H => ?_) fun c11 H => ?_
 refine dC (has rfl) c11 ?_
 revert H; refine B2 fun o6 H Hr6 => ?_
 refine aX (ι := Bool) (fun i => o6 = i) (fun i => [(3, fEq (ptr b2)), (6, aA .i64 x16)]) (fun i => [aC b2 62 [fSl aN y10.p.Free, fSl aM y10.p.Nodes, fSl aK y10.p.Defs, aA .i64 y10.p.Main, fEq v4, fEq v5, fEq v6, aG i], aC b1 26 [fSl aN a0.Free, fSl aM a0.Nodes, fSl aK a0.Defs, aA .i64 a0.Main], aE v4 3 (aB .i64) y10.sizes, aE v5 3 (aB .i64) y10.owner, aE v6 3 (aB .i64) y10.users]) ?_ ?_
 refine Z8 ?_
 revert H; refine cs (fun c12 H => ?_) fun c12 H => ?_
 refine Yt c12 ?_
 refine Yt c12 ?_
 refine Yt c12 ?_
 refine Yt c12 ?_
 refine Yt c12 ?_
 refine Yt c12 ?_
 refine Yt c12 ?_
 refine Yt c12 ?_
 refine Yy (dF rfl hh c12 hh) ?_
 refine Z2 ?_
 refine dI (φs' := [fSl aN y10.p.Free, fSl aM y10.p.Nodes, fSl aK y10.p.Defs, aA .i64 y10.p.Main, fEq v4, fEq v5, fEq v6, aG true]) trivial rfl rfl (has rfl) (has rfl) (aD trivial) (sz rfl) rfl rfl ?_
 refine Z3 ?_
 exact Tm (true) (ij H)
 refine Yg c12 (bV rfl hh) ?_
 refine Yg c12 (kE rfl (has rfl) (fun m v h => ⟨_, h⟩)) ?_
 refine Yg c12 (cI 5 rfl hh (fa rfl) rfl) ?_
 refine Yh 0 rfl c12 (bW rfl hh (sc rfl) rfl Ent.rfl) ?_
 refine Yg c12 (bV rfl hh) ?_
 revert H; refine bs fun y11 h14 H => ?_
 refine Yh 3 rfl c12 (jU rfl hh hh (el rfl) h14) ?_
 refine Yh 3 rfl c12 (jV rfl rfl hh (sc rfl) (bN h14) rfl) ?_
 refine Yg c12 (o_eql rfl hh hh) ?_
 refine Yy (cJ rfl hh c12 hh) ?_
 refine Z2 ?_
 refine dI (φs' := [fSl aN y10.p.Free, fSl aM y10.p.Nodes, fSl aK y10.p.Defs, aA .i64 y10.p.Main, fEq v4, fEq v5, fEq v6, aG (decide (y11 = 0))]) trivial rfl rfl (has rfl) (has rfl) (aD trivial) (sz rfl) rfl rfl ?_
 refine Z3 ?_
 exact Tm (decide (y11 = 0)) (ij H)
 clear H; intro x18 hi; subst o6; have H := Hr6; clear Hr6; try dsimp only at H
 try dsimp only
 revert H; refine B2 fun z4 h15 H => ?_
 refine Yy (fO rfl hh hh h15) ?_
 refine Z2 ?_
 exact Tm ((k3, z4, x18)) ⟨H, ls⟩
 refine dB (has rfl) c11 ?_
 refine Z5 ?_
 exact Tm (x17) (ij H)
 clear H; intro x13 hi; subst o5; have H := Hr5; clear Hr5; try dsimp only at H
 try dsimp only
 revert H; refine bs fun o7 H Hr7 => ?_
 refine aX (ι := Bool) (fun i => o7 = i) (fun i => [(3, fEq (ptr b2))]) (fun i => [aC b2 62 [fSl aN y10.p.Free, fSl aM y10.p.Nodes, fSl aK y10.p.Defs, aA .i64 y10.p.Main, fEq v4, fEq v5, fEq v6, aG i], aC b1 26 [fSl aN a0.Free, fSl aM a0.Nodes, fSl aK a0.Defs, aA .i64 a0.Main], aE v4 3 (aB .i64) y10.sizes, aE v5 3 (aB .i64) y10.owner, aE v6 3 (aB .i64) y10.users]) ?_ ?_
 refine Z4 ?_
 refine Tl (ι := Nat × Int × Bool) (fun i => kB y10 i.1 i.2.1 i.2.2 = _) (fun i => i.1) (fun i => [(3, fEq (ptr b2)), (7, aA .i64 i.2.1)]) (fun i => [aC b2 62 [fSl aN y10.p.Free, fSl aM y10.p.Nodes, fSl aK y10.p.Defs, aA .i64 y10.p.Main, fEq v4, fEq v5, fEq v6, aG i.2.2], aC b1 26 [fSl aN a0.Free, fSl aM a0.Nodes, fSl aK a0.Defs, aA .i64 a0.Main], aE v4 3 (aB .i64) y10.sizes, aE v5 3 (aB .i64) y10.owner, aE v6 3 (aB .i64) y10.users]) (fuel, 0, x13) H ?_
 clear H; rintro ⟨k4, x22, x23⟩ H
 replace H : kB y10 k4 x22 x23 = _ := H
 try dsimp only
 obtain _ | k4 := k4
 rw [kB] at H; cases H
 rw [kB] at H
 refine aH ?_
 revert H; refine I9 (fun c13 H => ?_) fun c13 H => ?_
 refine dC (has rfl) c13 ?_
 revert H; refine B2 fun o8 H Hr8 => ?_
 refine aX (ι := Bool) (fun i => o8 = i) (fun i => [(3, fEq (ptr b2)), (7, aA .i64 x22)]) (fun i => [aC b2 62 [fSl aN y10.p.Free, fSl aM y10.p.Nodes, fSl aK y10.p.Defs, aA .i64 y10.p.Main, fEq v4, fEq v5, fEq v6, aG i], aC b1 26 [fSl aN a0.Free, fSl aM a0.Nodes, fSl aK a0.Defs, aA .i64 a0.Main], aE v4 3 (aB .i64) y10.sizes, aE v5 3 (aB .i64) y10.owner, aE v6 3 (aB .i64) y10.users]) ?_ ?_
 refine Z8 ?_
 revert H; refine cs (fun c14 H => ?_) fun c14 H => ?_
 refine Yt c14 ?_
 refine Yt c14 ?_
 refine Yt c14 ?_
 refine Yt c14 ?_
 refine Yt c14 ?_
 refine Yt c14 ?_
 refine Yt c14 ?_
 refine Yt c14 ?_
 refine Yy (dF rfl hh c14 hh) ?_
 refine Z2 ?_
 refine dI (φs' := [fSl aN y10.p.Free, fSl aM y10.p.Nodes, fSl aK y10.p.Defs, aA .i64 y10.p.Main, fEq v4, fEq v5, fEq v6, aG true]) trivial rfl rfl (has rfl) (has rfl) (aD trivial) (sz rfl) rfl rfl ?_
 refine Z3 ?_
 exact Tm (true) (ij H)
 refine Yg c14 (bV rfl hh) ?_
 refine Yg c14 (kE rfl (has rfl) (fun m v h => ⟨_, h⟩)) ?_
 refine Yg c14 (cI 6 rfl hh (fa rfl) rfl) ?_
 refine Yh 0 rfl c14 (bW rfl hh (sc rfl) rfl Ent.rfl) ?_
 refine Yg c14 (bV rfl hh) ?_
 revert H; refine bs fun y12 h16 H => ?_
 refine Yh 4 rfl c14 (jU rfl hh hh (el rfl) h16) ?_
 refine Yh 4 rfl c14 (jV rfl rfl hh (sc rfl) (bN h16) rfl) ?_
 refine Yg c14 (o_eql rfl hh hh) ?_
 refine Yy (cJ rfl hh c14 hh) ?_
 refine Z2 ?_
 refine dI (φs' := [fSl aN y10.p.Free, fSl aM y10.p.Nodes, fSl aK y10.p.Defs, aA .i64 y10.p.Main, fEq v4, fEq v5, fEq v6, aG (decide (y12 = 0))]) trivial rfl rfl (has rfl) (has rfl) (aD trivial) (sz rfl) rfl rfl ?_
 refine Z3 ?_
 exact Tm (decide (y12 = 0)) (ij H)
 clear H; intro x24 hi; subst o8; have H := Hr8; clear Hr8; try dsimp only at H
 try dsimp only
 revert H; refine B2 fun z5 h17 H => ?_
 refine Yy (fO rfl hh hh h17) ?_
 refine Z2 ?_
 exact Tm ((k4, z5, x24)) ⟨H, ls⟩
 refine dB (has rfl) c13 ?_
 refine Z5 ?_
 exact Tm (x23) (ij H)
 clear H; intro x19 hi; subst o7; have H := Hr7; clear Hr7; try dsimp only at H
 try dsimp only
 refine Z5 ?_
 refine eI ?_
 refine cW (φ := fSl (aB .i64) y10.sizes) (v := v4) [] cT (fun _ h => nomatch h) ?_
 refine iG (φs' := [fSl aN y10.p.Free, fSl aM y10.p.Nodes, fSl aK y10.p.Defs, aA .i64 y10.p.Main, fSl (aB .i64) y10.sizes, fEq v5, fEq v6, aG x19]) (i := 4) rfl rfl ?_
 refine cY ?_
 refine eI ?_
 refine cW (φ := fSl (aB .i64) y10.owner) (v := v5) [] cT (fun _ h => nomatch h) ?_
 refine iG (φs' := [fSl aN y10.p.Free, fSl aM y10.p.Nodes, fSl aK y10.p.Defs, aA .i64 y10.p.Main, fSl (aB .i64) y10.sizes, fSl (aB .i64) y10.owner, fEq v6, aG x19]) (i := 5) rfl rfl ?_
 refine cY ?_
 refine eI ?_
 refine cW (φ := fSl (aB .i64) y10.users) (v := v6) [] cT (fun _ h => nomatch h) ?_
 refine iG (φs' := [fSl aN y10.p.Free, fSl aM y10.p.Nodes, fSl aK y10.p.Defs, aA .i64 y10.p.Main, fSl (aB .i64) y10.sizes, fSl (aB .i64) y10.owner, fSl (aB .i64) y10.users, aG x19]) (i := 6) rfl rfl ?_
 refine cY ?_
 refine cW (φ := aF tE (⟨(⟨y10.p.Free, y10.p.Nodes, y10.p.Defs, y10.p.Main⟩ : ScopeProg), y10.sizes, y10.owner, y10.users, x19⟩ : Ref03_look)) (v := ptr b2) [3, 180, 2] (hZ aL.rfl) (by intro s hs; simp only [List.mem_cons, List.not_mem_nil, or_false] at hs; rcases hs with rfl | rfl | rfl <;> rfl) ?_
 refine cY ?_
 cases H
 refine aI [] (by decide) ?_
 exact To
 exact fk
 kernel_rfl
def xO (fuel : Nat) (a0 : ScopeProg) : Option (Int) :=
 (uN fuel (⟨a0.Free, a0.Nodes, a0.Defs, a0.Main⟩ : ScopeProg)).bind fun y1 =>
 bif y1.bad then
  some 2
 else
  some 0
theorem aGb (fuel : Nat)  (a0 : ScopeProg) (r : Int) (H : xO fuel a0 = some r) : FnS Try.prog 6 [fSt dM a0] [] (aA .i64 r) (fun _ => []) := by
 unfold xO at H
 refine bF Try.func6 rfl Try.ntmps6 rfl (fun β => ?_)
 refine Z1 ?_
 refine aT trivial rfl rfl (cG rfl (has rfl) bO) (fun b1 => ?_)
 refine Z2 ?_
 refine aH ?_
 revert H; refine B2 fun y1 h1 H => ?_
 refine Tc (aGW _ _ _ h1) ?_
 refine Z4 ?_
 revert H; refine cs (fun c1 H => ?_) fun c1 H => ?_
 refine Z5 ?_
 cases H
 refine aI [] (by decide) ?_
 exact To
 refine Z7 ?_
 cases H
 refine aI [] (by decide) ?_
 exact To
theorem aEc (p0 : Nat) (e0 : Int) : FnD Try.prog 72 [fEq (ptr p0)] [aC p0 29 [aA .i64 e0]] (.returning) [aC p0 29 [aA .i64 e0]] := by
 refine FnD_of Try.func72 rfl Try.ntmps72 rfl (fun β c₀ cs hc => ?_)
 refine aDB (v := .nilIface) (cs' := c₀ :: cs) (by simp [recoverD, hc]) rfl rfl rfl rfl rfl rfl ⟨rfl, rfl⟩ ?_
 refine T_inS ?_
 refine Z2 ?_
 refine Yy (zP rfl hh aFd (rfl : iQ _ = some true)) ?_
 refine Z3 ?_
 exact T_endD (u' := .returning) (.inr rfl) rfl (by cases c₀; cases hc; rfl) rfl rfl
theorem aC6 (p0 : Nat) (e0 e1 : Int) : FnD Try.prog 72 [fEq (ptr p0)] [aC p0 29 [aA .i64 e0]] (.panicking [{ v := (.iface 149 (.agg #[.int .i64 e1])), recovered := false }]) [aC p0 29 [aA .i64 e1]] := by
 refine FnD_of Try.func72 rfl Try.ntmps72 rfl (fun β c₀ cs hc => ?_)
 refine aDB (v := (.iface 149 (.agg #[.int .i64 e1]))) (cs' := { c₀ with mode := .panicking [{ v := (.iface 149 (.agg #[.int .i64 e1])), recovered := true }] } :: cs) (by simp [recoverD, hc]) rfl rfl rfl rfl rfl rfl ⟨rfl, rfl⟩ ?_
 refine T_inS ?_
 refine Z2 ?_
 refine Yy (zP rfl hh aFd (rfl : iQ _ = some false)) ?_
 refine Z4 ?_
 refine Yy (aIn rfl hh aFk aHO) ?_
 refine Z2 ?_
 refine lI 11 rfl (sJ [(.int .i64 e1)]) ?_
 refine Z1 ?_
 refine aT trivial rfl rfl (cN rfl aH7 rfl) (fun b1 => ?_)
 refine dP (φs' := [aA .i64 e1]) trivial rfl rfl (has rfl) (has rfl) (aO (aD trivial) bY) (sz rfl) rfl rfl rfl ?_
 refine Z2 ?_
 refine aH ?_
 refine Z12 ?_
 refine dN ?_
 refine dI (φs' := [aA .i64 e1]) trivial rfl rfl (has rfl) (has rfl) (aD trivial) (sz rfl) rfl rfl ?_
 refine Z1 ?_
 refine aI [0] (by decide) ?_
 exact T_endD (u' := .panicking [{ v := (.iface 149 (.agg #[.int .i64 e1])), recovered := true }]) (.inr rfl) rfl rfl rfl rfl
def bT (a0 : Bool) : Option (Unit ⊕ Value) :=
 bif a0 then
  some (Sum.inl ())
 else
  some (Sum.inr (.iface 149 (.agg ([(.int .i64 2)] : List Value).toArray)))
theorem bA  (a0 : Bool) (r : Unit ⊕ Value) (H : bT a0 = some r) : FnE Try.prog 84 [aG a0] [] r (fun r => dH []) (fun r => []) := by
 unfold bT at H
 refine rI Try.func84 rfl Try.ntmps84 rfl (fun β => ?_)
 refine Z4 ?_
 revert H; refine cs (fun c1 H => ?_) fun c1 H => ?_
 refine Z2 ?_
 cases H
 refine pW ?_
 exact fI (.inr rfl) rfl rfl
 refine Z2 ?_
 refine Yy (dR (ψs := [aA .i64 2]) rfl aGR rfl (aU.cons (has rfl) (aS (aD trivial)) aU.nil) rfl) ?_
 refine Yy (mL rfl (dA rfl (yJ [(.int .i64 2)])) aFk) ?_
 refine T_panic trivial rfl (has rfl) ?_
 cases H
 exact bZ
def zA  : Option (aQ ByteArray Bool) :=
 some (aQ.upd (aQ.upd (aQ.upd (aQ.upd (aQ.upd (aQ.upd (aQ.upd (aQ.upd (aQ.upd (aQ.upd (aQ.none : aQ ByteArray Bool) ({ data := #[97, 110, 100] }) true) ({ data := #[100, 101, 102] }) true) ({ data := #[101, 108, 115, 101] }) true) ({ data := #[103, 111] }) true) ({ data := #[105, 102] }) true) ({ data := #[105, 110] }) true) ({ data := #[112, 108, 97, 99, 101] }) true) ({ data := #[115, 116, 111, 112] }) true) ({ data := #[116, 104, 101, 110] }) true) ({ data := #[119, 97, 116, 99, 104] }) true)
theorem aGo   (r : aQ ByteArray Bool) (H : zA = some r) : FnS Try.prog 93 [] [] (fW kStr (fun y => aG y) r) (fun _ => []) := by
 unfold zA at H
 refine bF Try.func93 rfl Try.ntmps93 rfl (fun β => ?_)
 refine Z4 ?_
 refine aT trivial rfl rfl (yO (fun y => aG y) kStr rfl) (fun b1 => ?_)
 refine jB (k := { data := #[97, 110, 100] }) (y := true) trivial (.inr rfl) rfl (has rfl) (has rfl) rfl (has rfl) rfl lO ?_
 refine jB (k := { data := #[100, 101, 102] }) (y := true) trivial (.inr rfl) rfl (has rfl) (has rfl) rfl (has rfl) rfl lO ?_
 refine jB (k := { data := #[101, 108, 115, 101] }) (y := true) trivial (.inr rfl) rfl (has rfl) (has rfl) rfl (has rfl) rfl lO ?_
 refine jB (k := { data := #[103, 111] }) (y := true) trivial (.inr rfl) rfl (has rfl) (has rfl) rfl (has rfl) rfl lO ?_
 refine jB (k := { data := #[105, 102] }) (y := true) trivial (.inr rfl) rfl (has rfl) (has rfl) rfl (has rfl) rfl lO ?_
 refine jB (k := { data := #[105, 110] }) (y := true) trivial (.inr rfl) rfl (has rfl) (has rfl) rfl (has rfl) rfl lO ?_
 refine jB (k := { data := #[112, 108, 97, 99, 101] }) (y := true) trivial (.inr rfl) rfl (has rfl) (has rfl) rfl (has rfl) rfl lO ?_
 refine jB (k := { data := #[115, 116, 111, 112] }) (y := true) trivial (.inr rfl) rfl (has rfl) (has rfl) rfl (has rfl) rfl lO ?_
 refine jB (k := { data := #[116, 104, 101, 110] }) (y := true) trivial (.inr rfl) rfl (has rfl) (has rfl) rfl (has rfl) rfl lO ?_
 refine jB (k := { data := #[119, 97, 116, 99, 104] }) (y := true) trivial (.inr rfl) rfl (has rfl) (has rfl) rfl (has rfl) rfl lO ?_
 refine Z4 ?_
 refine cW (φ := fW kStr (fun y => aG y) (aQ.upd (aQ.upd (aQ.upd (aQ.upd (aQ.upd (aQ.upd (aQ.upd (aQ.upd (aQ.upd (aQ.upd (aQ.none : aQ ByteArray Bool) ({ data := #[97, 110, 100] }) true) ({ data := #[100, 101, 102] }) true) ({ data := #[101, 108, 115, 101] }) true) ({ data := #[103, 111] }) true) ({ data := #[105, 102] }) true) ({ data := #[105, 110] }) true) ({ data := #[112, 108, 97, 99, 101] }) true) ({ data := #[115, 116, 111, 112] }) true) ({ data := #[116, 104, 101, 110] }) true) ({ data := #[119, 97, 116, 99, 104] }) true)) (v := .map (some b1)) [0, 1, 2] aCz (by intro s hs; simp only [List.mem_cons, List.not_mem_nil, or_false] at hs; rcases hs with rfl | rfl | rfl <;> rfl) ?_
 refine cY ?_
 cases H
 exact To
def lF (a0 : ByteArray) : Nat → Int → Option ((Unit) ⊕ (Bool))
| 0, _ => none
| k + 1, x2 =>
 if x2 < (a0.size : Int) then
  (sidx a0 x2).bind fun z1 =>
  if z1 < 97 then
   (some false).bind fun r => some (Sum.inr r)
  else
   (sidx a0 x2).bind fun z2 =>
   if 122 < z2 then
    (some false).bind fun r => some (Sum.inr r)
   else
    (chk (x2 + 1)).bind fun z3 =>
    lF a0 k z3
 else
  some (Sum.inl ())
def rO (fuel : Nat) (a0 : ByteArray) : Option (Bool) :=
 (lF a0 fuel 0).bind fun o => match o with
 | Sum.inr r => some r
 | Sum.inl _ =>
 (if 0 < (a0.size : Int) then
  if (a0.size : Int) ≤ 8 then
   (zA).bind fun y1 =>
   some (!((y1.get a0).getD false))
  else
   some false
 else
  some false).bind fun x3 =>
 some x3
theorem aF2 (fuel : Nat)  (a0 : ByteArray) (r : Bool) (H : rO fuel a0 = some r) : FnS Try.prog 85 [gR a0] [] (aG r) (fun _ => []) := by
 unfold rO at H
 refine bF Try.func85 rfl Try.ntmps85 rfl (fun β => ?_)
 revert H; refine B3 fun o1 H Hr1 => ?_
 refine aX (ι := Unit) (fun i => o1 = Sum.inl ()) (fun i => [(0, gR a0)]) (fun i => []) ?_ ?_
 refine Z2 ?_
 refine Yy (tV rfl hh oB) ?_
 refine Z3 ?_
 refine Tl (ι := Nat × Int) (fun i => lF a0 i.1 i.2 = _) (fun i => i.1) (fun i => [(0, gR a0), (5, aA .i64 (a0.size : Int)), (6, aA .i64 i.2)]) (fun i => []) (fuel, 0) H ?_
 clear H; rintro ⟨k1, x2⟩ H
 replace H : lF a0 k1 x2 = _ := H
 try dsimp only
 obtain _ | k1 := k1
 rw [lF] at H; cases H
 rw [lF] at H
 refine Z3 ?_
 refine aH ?_
 revert H; refine is (fun c1 H => ?_) fun c1 H => ?_
 refine Z3 ?_
 refine aH ?_
 revert H; refine B8 fun z1 h1 H => ?_
 refine Yy (zE rfl hh hh oB h1) ?_
 revert H; refine I2 (fun c2 H => ?_) fun c2 H => ?_
 refine Z12 ?_
 revert H; refine B4 fun r1 H e1 => ?_
 cases e1; cases Hr1
 cases H
 exact To
 revert H; refine B2 fun z2 h2 H => ?_
 refine Yg c2 (zE rfl hh hh oB h2) ?_
 revert H; refine I3 (fun c3 H => ?_) fun c3 H => ?_
 revert H; refine B10 fun r2 H e2 => ?_
 cases e2; cases Hr1
 cases H
 exact To
 revert H; refine B5 fun z3 h3 H => ?_
 refine Z3 ?_
 exact Tm ((k1, z3)) ⟨H, ls⟩
 refine Z6 ?_
 exact Tm (()) (ij H)
 clear H; intro i hi; subst o1; have H := Hr1; clear Hr1; try dsimp only at H
 try dsimp only
 revert H; refine bs fun o2 H Hr2 => ?_
 refine aX (ι := Bool) (fun i => o2 = i) (fun i => [(2, aG i)]) (fun i => []) ?_ ?_
 refine Z2 ?_
 refine Yy (tV rfl hh oB) ?_
 revert H; refine I2 (fun c4 H => ?_) fun c4 H => ?_
 refine Z1 ?_
 refine Yg c4 (tV rfl hh oB) ?_
 revert H; refine I3 (fun c5 H => ?_) fun c5 H => ?_
 revert H; refine bs fun y1 h4 H => ?_
 refine Tc (aGo _ h4) ?_
 refine Z1 ?_
 refine Yg c5 (o_lookup (zα := false) (k := a0) rfl hh hh rfl lO Ent.rfl) ?_
 refine Z4 ?_
 exact Tm (!((y1.get a0).getD false)) (ij H)
 refine Z7 ?_
 exact Tm (false) (ij H)
 refine Z12 ?_
 exact Tm (false) (ij H)
 clear H; intro x3 hi; subst o2; have H := Hr2; clear Hr2; try dsimp only at H
 try dsimp only
 refine Z1 ?_
 cases H
 exact To
end Go.Proofs.Ytmnbfgeljmhekaa
set_option maxRecDepth 100000
set_option maxHeartbeats 2000000
namespace Go.Proofs.Ytmnbfgeljmhekaa
open Go.SX Go.SW Go.Dt
attribute [local irreducible] Code.wpIn wpListIn Exit.then Exit.inBlock
def jW (a0 : Int) : Option (Value) :=
 (if a0 = 1 then
  some (decide (a0 = 1))
 else
  some (decide (a0 = 7))).bind fun x1 =>
 bif x1 then
  some ((.iface 175 (.int .i64 0)) : Value)
 else
  if a0 = 3 then
   some ((.iface 175 (.int .i64 2)) : Value)
  else
   if a0 = 2 then
    some ((.iface 168 (.agg ([] : List Value).toArray)) : Value)
   else
    if a0 = 5 then
     some ((.iface 171 (.agg ([] : List Value).toArray)) : Value)
    else
     (if a0 = 6 then
      some (decide (a0 = 6))
     else
      some (decide (a0 = 8))).bind fun x2 =>
     bif x2 then
      some ((.iface 169 (.agg ([] : List Value).toArray)) : Value)
     else
      if a0 = 4 then
       some ((.iface 170 (.agg ([] : List Value).toArray)) : Value)
      else
       some (Go.Value.nilIface : Value)
theorem aIc  (a0 : Int) (r : Value) (H : jW a0 = some r) : FnS Try.prog 94 [aA .i64 a0] [] (eF r) (fun _ => []) := by
 unfold jW at H
 refine bF Try.func94 rfl Try.ntmps94 rfl (fun β => ?_)
 refine Z3 ?_
 refine aH ?_
 revert H; refine B4 fun o1 H Hr1 => ?_
 refine aX (ι := Bool) (fun i => o1 = i) (fun i => [(3, aA .i64 a0), (4, aG i)]) (fun i => []) ?_ ?_
 revert H; refine I4 (fun c1 H => ?_) fun c1 H => ?_
 refine Z3 ?_
 exact Tm (decide (a0 = 1)) (ij H)
 refine Z5 ?_
 exact Tm (decide (a0 = 7)) (ij H)
 clear H; intro x1 hi; subst o1; have H := Hr1; clear Hr1; try dsimp only at H
 try dsimp only
 revert H; refine cs (fun c2 H => ?_) fun c2 H => ?_
 refine Z2 ?_
 refine Yy (mL rfl hh aEf) ?_
 refine Z5 ?_
 cases H
 exact qI rfl (kD rfl (rL trivial)) rfl
 revert H; refine I5 (fun c3 H => ?_) fun c3 H => ?_
 refine Z2 ?_
 refine Yy (mL rfl hh aEf) ?_
 refine Z5 ?_
 cases H
 exact qI rfl (kD rfl (rL trivial)) rfl
 revert H; refine I5 (fun c4 H => ?_) fun c4 H => ?_
 refine Z2 ?_
 refine Yy (dR (ψs := []) rfl aHK rfl aU.nil rfl) ?_
 refine Yy (mL rfl (dA rfl (yJ [])) aFy) ?_
 refine Z5 ?_
 cases H
 exact qI rfl (kD rfl (rL trivial)) rfl
 revert H; refine I5 (fun c5 H => ?_) fun c5 H => ?_
 refine Z2 ?_
 refine Yy (dR (ψs := []) rfl aII rfl aU.nil rfl) ?_
 refine Yy (mL rfl (dA rfl (yJ [])) aD4) ?_
 refine Z5 ?_
 cases H
 exact qI rfl (kD rfl (rL trivial)) rfl
 revert H; refine B1 fun o2 H Hr2 => ?_
 refine aX (ι := Bool) (fun i => o2 = i) (fun i => [(3, aA .i64 a0), (19, aG i)]) (fun i => []) ?_ ?_
 revert H; refine I4 (fun c6 H => ?_) fun c6 H => ?_
 refine Z3 ?_
 exact Tm (decide (a0 = 6)) (ij H)
 refine Z5 ?_
 exact Tm (decide (a0 = 8)) (ij H)
 clear H; intro x2 hi; subst o2; have H := Hr2; clear Hr2; try dsimp only at H
 try dsimp only
 revert H; refine cs (fun c7 H => ?_) fun c7 H => ?_
 refine Z2 ?_
 refine Yy (dR (ψs := []) rfl aIa rfl aU.nil rfl) ?_
 refine Yy (mL rfl (dA rfl (yJ [])) aET) ?_
 refine Z5 ?_
 cases H
 exact qI rfl (kD rfl (rL trivial)) rfl
 revert H; refine I5 (fun c8 H => ?_) fun c8 H => ?_
 refine Z2 ?_
 refine Yy (dR (ψs := []) rfl aGK rfl aU.nil rfl) ?_
 refine Yy (mL rfl (dA rfl (yJ [])) aEb) ?_
 refine Z5 ?_
 cases H
 exact qI rfl (kD rfl (rL trivial)) rfl
 refine Z8 ?_
 cases H
 exact qI rfl (kD rfl (rL trivial)) rfl
def pD (rec_scope_exp_1 : ScopeExp → Int → Int → Int → Option (Int ⊕ Value)) (a0 : ScopeExp) (a1 : Int) (w1 : Int) : Nat → Int → Int → Option (Int ⊕ Value)
| 0, _, _ => none
| k + 1, x4, x5 =>
 if x4 < (a0.Kids.length : Int) then
  (idx a0.Kids x4).bind fun y12 =>
  (chk (a1 + 1)).bind fun z2 =>
  (rec_scope_exp_1 (⟨y12.Op, y12.N, y12.Kids⟩ : ScopeExp) z2 x5 w1).bind fun y13 =>
  match y13 with
  | Sum.inr pv12 => some (Sum.inr pv12)
  | Sum.inl y13 =>
  (chk (x4 + 1)).bind fun z3 =>
  pD rec_scope_exp_1 a0 a1 w1 k z3 y13
 else
  some (Sum.inl x5)
def nP : Nat → ScopeExp → Int → Int → Int → Option (Int ⊕ Value)
| 0, _, _, _, _ => none
| fuel + 1, a0, a1, w0, w1 =>
 (chk (w0 + 1)).bind fun z1 =>
 (if z1 ≤ 60 then
  (bT (decide (a1 ≤ 12))).bind fun y1 =>
  match y1 with
  | Sum.inr pv1 => (some (Sum.inr pv1)).bind fun r => some (Sum.inr r)
  | Sum.inl y1 =>
  some (Sum.inl ())
 else
  (bT false).bind fun y2 =>
  match y2 with
  | Sum.inr pv2 => (some (Sum.inr pv2)).bind fun r => some (Sum.inr r)
  | Sum.inl y2 =>
  some (Sum.inl ())).bind fun o => match o with
 | Sum.inr r => some r
 | Sum.inl _ =>
 (if a0.Op = 1 then
  if (-1000000000) ≤ a0.N then
   if a0.N ≤ 1000000000 then
    (bT (decide ((a0.Kids.length : Int) = 0))).bind fun y3 =>
    match y3 with
    | Sum.inr pv3 => (some (Sum.inr pv3)).bind fun r => some (Sum.inr r)
    | Sum.inl y3 =>
    some (Sum.inl ())
   else
    (bT false).bind fun y4 =>
    match y4 with
    | Sum.inr pv4 => (some (Sum.inr pv4)).bind fun r => some (Sum.inr r)
    | Sum.inl y4 =>
    some (Sum.inl ())
  else
   (bT false).bind fun y5 =>
   match y5 with
   | Sum.inr pv5 => (some (Sum.inr pv5)).bind fun r => some (Sum.inr r)
   | Sum.inl y5 =>
   some (Sum.inl ())
 else
  if a0.Op = 2 then
   if 0 ≤ a0.N then
    if a0.N < w1 then
     (bT (decide ((a0.Kids.length : Int) = 0))).bind fun y6 =>
     match y6 with
     | Sum.inr pv6 => (some (Sum.inr pv6)).bind fun r => some (Sum.inr r)
     | Sum.inl y6 =>
     some (Sum.inl ())
    else
     (bT false).bind fun y7 =>
     match y7 with
     | Sum.inr pv7 => (some (Sum.inr pv7)).bind fun r => some (Sum.inr r)
     | Sum.inl y7 =>
     some (Sum.inl ())
   else
    (bT false).bind fun y8 =>
    match y8 with
    | Sum.inr pv8 => (some (Sum.inr pv8)).bind fun r => some (Sum.inr r)
    | Sum.inl y8 =>
    some (Sum.inl ())
  else
   (if a0.Op = 3 then
    some (decide (a0.Op = 3))
   else
    if a0.Op = 4 then
     some (decide (a0.Op = 4))
    else
     if a0.Op = 5 then
      some (decide (a0.Op = 5))
     else
      if a0.Op = 6 then
       some (decide (a0.Op = 6))
      else
       some (decide (a0.Op = 7))).bind fun x1 =>
   bif x1 then
    if a0.N = 0 then
     (bT (decide ((a0.Kids.length : Int) = 2))).bind fun y9 =>
     match y9 with
     | Sum.inr pv9 => (some (Sum.inr pv9)).bind fun r => some (Sum.inr r)
     | Sum.inl y9 =>
     some (Sum.inl ())
    else
     (bT false).bind fun y10 =>
     match y10 with
     | Sum.inr pv10 => (some (Sum.inr pv10)).bind fun r => some (Sum.inr r)
     | Sum.inl y10 =>
     some (Sum.inl ())
   else
    (bT false).bind fun y11 =>
    match y11 with
    | Sum.inr pv11 => (some (Sum.inr pv11)).bind fun r => some (Sum.inr r)
    | Sum.inl y11 =>
    some (Sum.inl ())).bind fun o => match o with
 | Sum.inr r => some r
 | Sum.inl _ =>
 pD (nP fuel) a0 a1 w1 fuel 0 z1
theorem aDT : ∀ (fuel : Nat), (∀ (q0 : Nat) (q2 : Nat) (a0 : ScopeExp) (a1 : Int) (w0 : Int) (w1 : Int) (r : Int ⊕ Value) (H : nP fuel a0 a1 w0 w1 = some r), FnE Try.prog 100 [fSt bD a0, aA .i64 a1, fEq (.pointer (some ⟨q0, 0, none⟩)), aF (aB .i64) w1, fEq (.pointer (some ⟨q2, 0, none⟩))] [aC q0 3 [aA .i64 w0], aC q2 172 [cX 100 [fEq (.pointer (some ⟨q0, 0, none⟩)), aF (aB .i64) w1, fEq (.pointer (some ⟨q2, 0, none⟩))]]] r (fun r => dH []) (fun r => [aC q0 3 [aA .i64 r], aC q2 172 [cX 100 [fEq (.pointer (some ⟨q0, 0, none⟩)), aF (aB .i64) w1, fEq (.pointer (some ⟨q2, 0, none⟩))]]])) := by
 intro fuel
 induction fuel with
 | zero => exact fun q0 q2 a0 a1 w0 w1 r H => (by rw [nP] at H; cases H)
 | succ fuel ih =>
 have ih_scope_exp_1 := ih
 refine ?_
 intro q0 q2 a0 a1 w0 w1 r H
 rw [nP] at H
 refine rI Try.func100 rfl Try.ntmps100 rfl (fun β => ?_)
 refine Z1 ?_
 refine aT trivial rfl rfl (cG rfl (has rfl) bO) (fun b1 => ?_)
 revert H; refine B3 fun z1 h1 H => ?_
 refine Z1 ?_
 refine dN ?_
 refine dI (φs' := [aA .i64 z1]) trivial rfl rfl (has rfl) (has rfl) (aD trivial) (sz rfl) rfl rfl ?_
 revert H; refine B1 fun o1 H Hr1 => ?_
 refine aX (ι := Unit) (fun i => o1 = Sum.inl ()) (fun i => [(1, aA .i64 a1), (2, fEq (ptr q0)), (3, aF (aB .i64) w1), (4, fEq (ptr q2)), (5, fEq (ptr b1))]) (fun i => [aC q0 3 [aA .i64 z1], aC b1 94 [aA .i64 a0.Op, aA .i64 a0.N, fZ a0.Kids], aC q2 172 [cX 100 [fEq (ptr q0), aF (aB .i64) w1, fEq (ptr q2)]]]) ?_ ?_
 revert H; refine I4 (fun c1 H => ?_) fun c1 H => ?_
 revert H; refine B3 fun y1 h2 H => ?_
 rcases y1 with y1 | pv1 <;> dsimp only at H
 refine Tc (bA _ _ h2).s ?_
 refine Z1 ?_
 exact Tm (()) (ij H)
 refine Tp (bA _ _ h2).pan ?_
 revert H; refine B1 fun r1 H e1 => ?_
 cases e1; cases Hr1
 cases H
 exact bZ
 revert H; refine B3 fun y2 h3 H => ?_
 rcases y2 with y2 | pv2 <;> dsimp only at H
 refine Tc (bA _ _ h3).s ?_
 refine Z1 ?_
 exact Tm (()) (ij H)
 refine Tp (bA _ _ h3).pan ?_
 revert H; refine B1 fun r2 H e2 => ?_
 cases e2; cases Hr1
 cases H
 exact bZ
 clear H; intro i hi; subst o1; have H := Hr1; clear Hr1; try dsimp only at H
 try dsimp only
 revert H; refine bs fun o2 H Hr2 => ?_
 refine aX (ι := Unit) (fun i => o2 = Sum.inl ()) (fun i => [(1, aA .i64 a1), (2, fEq (ptr q0)), (4, fEq (ptr q2)), (5, fEq (ptr b1))]) (fun i => [aC q0 3 [aA .i64 z1], aC b1 94 [aA .i64 a0.Op, aA .i64 a0.N, fZ a0.Kids], aC q2 172 [cX 100 [fEq (ptr q0), aF (aB .i64) w1, fEq (ptr q2)]]]) ?_ ?_
 revert H; refine I9 (fun c2 H => ?_) fun c2 H => ?_
 revert H; refine I6 (fun c3 H => ?_) fun c3 H => ?_
 revert H; refine I5 (fun c4 H => ?_) fun c4 H => ?_
 refine Z1 ?_
 refine Yh 1 rfl c4 (bW rfl hh (sc rfl) rfl (jA iK)) ?_
 revert H; refine B3 fun y3 h4 H => ?_
 rcases y3 with y3 | pv3 <;> dsimp only at H
 refine Tc (bA _ _ h4).s ?_
 refine Z3 ?_
 exact Tm (()) (ij H)
 refine Tp (bA _ _ h4).pan ?_
 revert H; refine B2 fun r3 H e3 => ?_
 cases e3; cases Hr2
 cases H
 exact bZ
 revert H; refine B5 fun y4 h5 H => ?_
 rcases y4 with y4 | pv4 <;> dsimp only at H
 refine Tc (bA _ _ h5).s ?_
 refine Z3 ?_
 exact Tm (()) (ij H)
 refine Tp (bA _ _ h5).pan ?_
 revert H; refine B2 fun r4 H e4 => ?_
 cases e4; cases Hr2
 cases H
 exact bZ
 revert H; refine B10 fun y5 h6 H => ?_
 rcases y5 with y5 | pv5 <;> dsimp only at H
 refine Tc (bA _ _ h6).s ?_
 refine Z3 ?_
 exact Tm (()) (ij H)
 refine Tp (bA _ _ h6).pan ?_
 revert H; refine B2 fun r5 H e5 => ?_
 cases e5; cases Hr2
 cases H
 exact bZ
 revert H; refine I5 (fun c5 H => ?_) fun c5 H => ?_
 revert H; refine I6 (fun c6 H => ?_) fun c6 H => ?_
 revert H; refine I6 (fun c7 H => ?_) fun c7 H => ?_
 refine Z1 ?_
 refine Yh 1 rfl c7 (bW rfl hh (sc rfl) rfl (jA iK)) ?_
 revert H; refine B3 fun y6 h7 H => ?_
 rcases y6 with y6 | pv6 <;> dsimp only at H
 refine Tc (bA _ _ h7).s ?_
 refine Z3 ?_
 exact Tm (()) (ij H)
 refine Tp (bA _ _ h7).pan ?_
 revert H; refine B2 fun r6 H e6 => ?_
 cases e6; cases Hr2
 cases H
 exact bZ
 revert H; refine B5 fun y7 h8 H => ?_
 rcases y7 with y7 | pv7 <;> dsimp only at H
 refine Tc (bA _ _ h8).s ?_
 refine Z3 ?_
 exact Tm (()) (ij H)
 refine Tp (bA _ _ h8).pan ?_
 revert H; refine B2 fun r7 H e7 => ?_
 cases e7; cases Hr2
 cases H
 exact bZ
 revert H; refine B11 fun y8 h9 H => ?_
 rcases y8 with y8 | pv8 <;> dsimp only at H
 refine Tc (bA _ _ h9).s ?_
 refine Z3 ?_
 exact Tm (()) (ij H)
 refine Tp (bA _ _ h9).pan ?_
 revert H; refine B2 fun r8 H e8 => ?_
 cases e8; cases Hr2
 cases H
 exact bZ
 revert H; refine B1 fun o3 H Hr3 => ?_
 refine aX (ι := Bool) (fun i => o3 = i) (fun i => [(1, aA .i64 a1), (2, fEq (ptr q0)), (4, fEq (ptr q2)), (5, fEq (ptr b1)), (56, aG i)]) (fun i => [aC q0 3 [aA .i64 z1], aC b1 94 [aA .i64 a0.Op, aA .i64 a0.N, fZ a0.Kids], aC q2 172 [cX 100 [fEq (ptr q0), aF (aB .i64) w1, fEq (ptr q2)]]]) ?_ ?_
 revert H; refine I4 (fun c8 H => ?_) fun c8 H => ?_
 refine Z3 ?_
 exact Tm (decide (a0.Op = 3)) (ij H)
 revert H; refine I5 (fun c9 H => ?_) fun c9 H => ?_
 refine Z3 ?_
 exact Tm (decide (a0.Op = 4)) (ij H)
 revert H; refine I5 (fun c10 H => ?_) fun c10 H => ?_
 refine Z3 ?_
 exact Tm (decide (a0.Op = 5)) (ij H)
 revert H; refine I5 (fun c11 H => ?_) fun c11 H => ?_
 refine Z3 ?_
 exact Tm (decide (a0.Op = 6)) (ij H)
 refine Z5 ?_
 exact Tm (decide (a0.Op = 7)) (ij H)
 clear H; intro x1 hi; subst o3; have H := Hr3; clear Hr3; try dsimp only at H
 try dsimp only
 revert H; refine cs (fun c12 H => ?_) fun c12 H => ?_
 revert H; refine I6 (fun c13 H => ?_) fun c13 H => ?_
 refine Z1 ?_
 refine Yh 1 rfl c13 (bW rfl hh (sc rfl) rfl (jA iK)) ?_
 revert H; refine B3 fun y9 h10 H => ?_
 rcases y9 with y9 | pv9 <;> dsimp only at H
 refine Tc (bA _ _ h10).s ?_
 refine Z3 ?_
 exact Tm (()) (ij H)
 refine Tp (bA _ _ h10).pan ?_
 revert H; refine B2 fun r9 H e9 => ?_
 cases e9; cases Hr2
 cases H
 exact bZ
 revert H; refine B5 fun y10 h11 H => ?_
 rcases y10 with y10 | pv10 <;> dsimp only at H
 refine Tc (bA _ _ h11).s ?_
 refine Z3 ?_
 exact Tm (()) (ij H)
 refine Tp (bA _ _ h11).pan ?_
 revert H; refine B2 fun r10 H e10 => ?_
 cases e10; cases Hr2
 cases H
 exact bZ
 revert H; refine B2 fun y11 h12 H => ?_
 rcases y11 with y11 | pv11 <;> dsimp only at H
 refine Tc (bA _ _ h12).s ?_
 refine Z3 ?_
 exact Tm (()) (ij H)
 refine Tp (bA _ _ h12).pan ?_
 revert H; refine B2 fun r11 H e11 => ?_
 cases e11; cases Hr2
 cases H
 exact bZ
 clear H; intro i hi; subst o2; have H := Hr2; clear Hr2; try dsimp only at H
 try dsimp only
 refine Z2 ?_
 refine Yo 1 rfl (bW rfl hh (sc rfl) rfl (jA iK)) ?_
 refine Z4 ?_
 refine Tl (ι := Nat × Int × Int) (fun i => pD (nP fuel) a0 a1 w1 i.1 i.2.1 i.2.2 = _) (fun i => i.1) (fun i => [(1, aA .i64 a1), (2, fEq (ptr q0)), (4, fEq (ptr q2)), (73, fSl bD a0.Kids), (74, aA .i64 (a0.Kids.length : Int)), (75, aA .i64 i.2.1)]) (fun i => [aC q0 3 [aA .i64 i.2.2], aC b1 94 [aA .i64 a0.Op, aA .i64 a0.N, fZ a0.Kids], aC q2 172 [cX 100 [fEq (ptr q0), aF (aB .i64) w1, fEq (ptr q2)]]]) (fuel, 0, z1) H ?_
 clear H; rintro ⟨k1, x4, x5⟩ H
 replace H : pD (nP fuel) a0 a1 w1 k1 x4 x5 = _ := H
 try dsimp only
 obtain _ | k1 := k1
 rw [pD] at H; cases H
 rw [pD] at H
 refine Z3 ?_
 refine aH ?_
 revert H; refine is (fun c14 H => ?_) fun c14 H => ?_
 refine Z3 ?_
 refine aH ?_
 revert H; refine B2 fun y12 h13 H => ?_
 refine Z2 ?_
 refine aT trivial rfl rfl (cN rfl aCw rfl) (fun b2 => ?_)
 refine dP (φs' := [aA .i64 y12.Op, aA .i64 y12.N, fZ y12.Kids]) trivial rfl rfl (has rfl) (has rfl) (aO (aD trivial) (aO (aD trivial) (aO (aAe) bY))) (sz rfl) rfl rfl rfl ?_
 revert H; refine B5 fun z2 h14 H => ?_
 refine Z1 ?_
 refine eD ?_
 refine eI ?_
 revert H; refine bs fun y13 h15 H => ?_
 rcases y13 with y13 | pv12 <;> dsimp only at H
 refine zU trivial rfl rfl rfl (has rfl) (aJ.cons (has rfl) (aJ.cons (has rfl) aJ.nil)) rfl (cb rfl) (ih_scope_exp_1 q0 q2 (⟨y12.Op, y12.N, y12.Kids⟩ : ScopeExp) z2 x5 w1 (Sum.inl y13) h15).s rfl ?_
 revert H; refine B4 fun z3 h16 H => ?_
 refine Z3 ?_
 refine aI [0, 3, 1] (by decide) ?_
 exact Tm ((k1, z3, y13)) ⟨H, ls⟩
 refine aAW trivial rfl (has rfl) (aJ.cons (has rfl) (aJ.cons (has rfl) aJ.nil)) rfl (cb rfl) (ih_scope_exp_1 q0 q2 (⟨y12.Op, y12.N, y12.Kids⟩ : ScopeExp) z2 x5 w1 (Sum.inr pv12) h15).pan rfl ?_
 refine Z4 ?_
 cases H
 exact bZ
 refine Z5 ?_
 cases H
 refine pW ?_
 refine aI [0, 2] (by decide) ?_
 exact fI (.inr rfl) rfl rfl
def xA (fuel : Nat) (a0 : ScopeExp) (a1 : Int) : Option (Unit ⊕ Value) :=
 (nP fuel (⟨a0.Op, a0.N, a0.Kids⟩ : ScopeExp) 1 0 a1).bind fun y1 =>
 match y1 with
 | Sum.inr pv1 => some (Sum.inr pv1)
 | Sum.inl y1 =>
 some (Sum.inl ())
theorem aFw (fuel : Nat)  (a0 : ScopeExp) (a1 : Int) (r : Unit ⊕ Value) (H : xA fuel a0 a1 = some r) : FnE Try.prog 95 [fSt bD a0, aA .i64 a1] [] r (fun r => dH []) (fun r => []) := by
 unfold xA at H
 refine rI Try.func95 rfl Try.ntmps95 rfl (fun β => ?_)
 refine Z1 ?_
 refine aT trivial rfl rfl (cG rfl (has rfl) bO) (fun b1 => ?_)
 refine aT trivial rfl rfl (cG rfl (has rfl) (aS (aD trivial))) (fun b2 => ?_)
 refine Z2 ?_
 refine aT trivial rfl rfl (cN rfl sH rfl) (fun b3 => ?_)
 refine dI (φs' := [aA .i64 0]) trivial rfl rfl (has rfl) (has rfl) (aD trivial) (sz rfl) rfl rfl ?_
 refine Z2 ?_
 refine aT trivial rfl rfl (cN rfl aHV rfl) (fun b4 => ?_)
 refine Z2 ?_
 refine eI ?_
 refine cW (φ := aF (aB .i64) a1) (v := ptr b2) [3] (hZ aL.rfl) (by intro s hs; simp only [List.mem_cons, List.not_mem_nil, or_false] at hs; rcases hs with rfl <;> rfl) ?_
 refine cY ?_
 refine Yy (uG rfl (aJ.cons hh (aJ.cons hh (aJ.cons hh aJ.nil)))) ?_
 refine dI (φs' := [cX 100 [fEq (ptr b3), aF (aB .i64) a1, fEq (ptr b4)]]) trivial rfl rfl (has rfl) (has rfl) (leaf_clo) (sz rfl) rfl rfl ?_
 refine Z4 ?_
 refine dN ?_
 revert H; refine bs fun y1 h1 H => ?_
 rcases y1 with y1 | pv1 <;> dsimp only at H
 refine zU trivial rfl rfl rfl (has rfl) (aJ.cons (has rfl) (aJ.cons (has rfl) aJ.nil)) rfl (cb rfl) (aDT fuel b3 b4 (⟨a0.Op, a0.N, a0.Kids⟩ : ScopeExp) 1 0 a1 (Sum.inl y1) h1).s rfl ?_
 refine Z1 ?_
 cases H
 refine pW ?_
 refine aI [] (by decide) ?_
 exact fI (.inr rfl) rfl rfl
 refine aAW trivial rfl (has rfl) (aJ.cons (has rfl) (aJ.cons (has rfl) aJ.nil)) rfl (cb rfl) (aDT fuel b3 b4 (⟨a0.Op, a0.N, a0.Kids⟩ : ScopeExp) 1 0 a1 (Sum.inr pv1) h1).pan rfl ?_
 cases H
 exact bZ
def nU (a0 : List Int) (a1 : Int) : Nat → Int → Option ((Unit) ⊕ (Int))
| 0, _ => none
| k + 1, x2 =>
 if x2 < (a0.length : Int) then
  (idx a0 x2).bind fun y1 =>
  if a1 = y1 then
   (some x2).bind fun r => some (Sum.inr r)
  else
   (chk (x2 + 1)).bind fun z1 =>
   nU a0 a1 k z1
 else
  some (Sum.inl ())
def aAg (fuel : Nat) (a0 : List Int) (a1 : Int) : Option (Int) :=
 (nU a0 a1 fuel 0).bind fun o => match o with
 | Sum.inr r => some r
 | Sum.inl _ =>
 some (-1)
theorem aF1 (fuel : Nat)  (a0 : List Int) (a1 : Int) (r : Int) (H : aAg fuel a0 a1 = some r) : FnS Try.prog 103 [fSl (aB .i64) a0, aA .i64 a1] [] (aA .i64 r) (fun _ => []) := by
 unfold aAg at H
 refine bF Try.func103 rfl Try.ntmps103 rfl (fun β => ?_)
 revert H; refine B3 fun o1 H Hr1 => ?_
 refine aX (ι := Unit) (fun i => o1 = Sum.inl ()) (fun i => []) (fun i => []) ?_ ?_
 refine Z6 ?_
 refine Tl (ι := Nat × Int) (fun i => nU a0 a1 i.1 i.2 = _) (fun i => i.1) (fun i => [(0, fSl (aB .i64) a0), (1, aA .i64 a1), (7, aA .i64 (a0.length : Int)), (8, aA .i64 i.2)]) (fun i => []) (fuel, 0) H ?_
 clear H; rintro ⟨k1, x2⟩ H
 replace H : nU a0 a1 k1 x2 = _ := H
 try dsimp only
 obtain _ | k1 := k1
 rw [nU] at H; cases H
 rw [nU] at H
 refine Z3 ?_
 refine aH ?_
 revert H; refine is (fun c1 H => ?_) fun c1 H => ?_
 refine Z3 ?_
 refine aH ?_
 revert H; refine B9 fun y1 h1 H => ?_
 revert H; refine I4 (fun c2 H => ?_) fun c2 H => ?_
 revert H; refine B11 fun r1 H e1 => ?_
 cases e1; cases Hr1
 cases H
 exact To
 revert H; refine B5 fun z1 h2 H => ?_
 refine Z3 ?_
 exact Tm ((k1, z1)) ⟨H, ls⟩
 refine Z6 ?_
 exact Tm (()) (ij H)
 clear H; intro i hi; subst o1; have H := Hr1; clear Hr1; try dsimp only at H
 try dsimp only
 refine Z4 ?_
 cases H
 exact To
def wX (fuel : Nat) (a0 : List Int) (a1 : Int) : Option (Bool) :=
 (aAg fuel a0 a1).bind fun y1 =>
 some (decide (0 ≤ y1))
theorem aIr (fuel : Nat)  (a0 : List Int) (a1 : Int) (r : Bool) (H : wX fuel a0 a1 = some r) : FnS Try.prog 102 [fSl (aB .i64) a0, aA .i64 a1] [] (aG r) (fun _ => []) := by
 unfold wX at H
 refine bF Try.func102 rfl Try.ntmps102 rfl (fun β => ?_)
 revert H; refine B6 fun y1 h1 H => ?_
 refine Tc (aF1 _ _ _ _ h1) ?_
 refine Z4 ?_
 cases H
 exact To
end Go.Proofs.Ytmnbfgeljmhekaa
set_option maxRecDepth 100000
set_option maxHeartbeats 2000000
namespace Go.Proofs.Ytmnbfgeljmhekaa
open Go.SX Go.SW Go.Dt
attribute [local irreducible] Code.wpIn wpListIn Exit.then Exit.inBlock
def uT (a0 : Int) (w0 : ScopeDef) : Option (Unit ⊕ Value) :=
 if 0 ≤ a0 then
  (bT (decide (a0 ≤ (w0.Spots.length : Int)))).bind fun y1 =>
  match y1 with
  | Sum.inr pv1 => some (Sum.inr pv1)
  | Sum.inl y1 =>
  some (Sum.inl ())
 else
  (bT false).bind fun y2 =>
  match y2 with
  | Sum.inr pv2 => some (Sum.inr pv2)
  | Sum.inl y2 =>
  some (Sum.inl ())
theorem aAt  (a0 : Int) (w0 : ScopeDef) (r : Unit ⊕ Value) (H : uT a0 w0 = some r) : FnE Try.prog 101 [aA .i64 a0, aF aK w0] [] r (fun r => dH []) (fun r => []) := by
 unfold uT at H
 refine rI Try.func101 rfl Try.ntmps101 rfl (fun β => ?_)
 revert H; refine I4 (fun c1 H => ?_) fun c1 H => ?_
 revert H; refine B6 fun y1 h1 H => ?_
 rcases y1 with y1 | pv1 <;> dsimp only at H
 refine Tc (bA _ _ h1).s ?_
 refine Z1 ?_
 cases H
 refine pW ?_
 exact fI (.inr rfl) rfl rfl
 refine Tp (bA _ _ h1).pan ?_
 cases H
 exact bZ
 revert H; refine B6 fun y2 h2 H => ?_
 rcases y2 with y2 | pv2 <;> dsimp only at H
 refine Tc (bA _ _ h2).s ?_
 refine Z1 ?_
 cases H
 refine pW ?_
 exact fI (.inr rfl) rfl rfl
 refine Tp (bA _ _ h2).pan ?_
 cases H
 exact bZ
def oU (a0 : ScopeDef) : Nat → Int → Option ((Unit) ⊕ (Unit ⊕ Value))
| 0, _ => none
| k + 1, x2 =>
 if x2 < (((⟨a0.Chans, a0.Spots, a0.Rules⟩ : ScopeDef).Chans).length : Int) then
  ((idx ((⟨a0.Chans, a0.Spots, a0.Rules⟩ : ScopeDef).Chans) x2).bind fun y4 =>
  (uT y4.At (⟨a0.Chans, a0.Spots, a0.Rules⟩ : ScopeDef)).bind fun y5 =>
  match y5 with
  | Sum.inr pv4 => ((some (Sum.inr pv4)).bind fun r => some (Sum.inr r)).bind fun r => some (Sum.inr r)
  | Sum.inl y5 =>
  if 0 ≤ y4.Many then
   (bT (decide (y4.Many ≤ 3))).bind fun y6 =>
   match y6 with
   | Sum.inr pv5 => ((some (Sum.inr pv5)).bind fun r => some (Sum.inr r)).bind fun r => some (Sum.inr r)
   | Sum.inl y6 =>
   some (Sum.inl ())
  else
   (bT false).bind fun y7 =>
   match y7 with
   | Sum.inr pv6 => ((some (Sum.inr pv6)).bind fun r => some (Sum.inr r)).bind fun r => some (Sum.inr r)
   | Sum.inl y7 =>
   some (Sum.inl ())).bind fun o => match o with
  | Sum.inr r => some r
  | Sum.inl _ =>
  (chk (x2 + 1)).bind fun z1 =>
  oU a0 k z1
 else
  some (Sum.inl ())
def oW (a0 : ScopeDef) : Nat → Int → Option ((Unit) ⊕ (Unit ⊕ Value))
| 0, _ => none
| k + 1, x4 =>
 if x4 < (((⟨a0.Chans, a0.Spots, a0.Rules⟩ : ScopeDef).Spots).length : Int) then
  ((idx ((⟨a0.Chans, a0.Spots, a0.Rules⟩ : ScopeDef).Spots) x4).bind fun y8 =>
  if 0 ≤ y8.In then
   (bT (decide (y8.In ≤ x4))).bind fun y9 =>
   match y9 with
   | Sum.inr pv7 => ((some (Sum.inr pv7)).bind fun r => some (Sum.inr r)).bind fun r => some (Sum.inr r)
   | Sum.inl y9 =>
   some (Sum.inl ())
  else
   (bT false).bind fun y10 =>
   match y10 with
   | Sum.inr pv8 => ((some (Sum.inr pv8)).bind fun r => some (Sum.inr r)).bind fun r => some (Sum.inr r)
   | Sum.inl y10 =>
   some (Sum.inl ())).bind fun o => match o with
  | Sum.inr r => some r
  | Sum.inl _ =>
  (chk (x4 + 1)).bind fun z2 =>
  oW a0 k z2
 else
  some (Sum.inl ())
def kV (fuel : Nat) (a0 : ScopeDef) (y11 : ScopeRule) : Nat → Int → (aQ Int Bool) → Option ((aQ Int Bool) ⊕ ((aQ Int Bool) ⊕ (Unit ⊕ Value)))
| 0, _, _ => none
| k + 1, x13, x14 =>
 if x13 < (y11.Joins.length : Int) then
  (idx y11.Joins x13).bind fun y15 =>
  (if 0 ≤ y15 then
   if y15 < (((⟨a0.Chans, a0.Spots, a0.Rules⟩ : ScopeDef).Chans).length : Int) then
    (idx ((⟨a0.Chans, a0.Spots, a0.Rules⟩ : ScopeDef).Chans) y15).bind fun y16 =>
    if y16.At = y11.At then
     (slc y11.Joins 0 x13).bind fun y17 =>
     (wX fuel y17 y15).bind fun y18 =>
     (bT (!y18)).bind fun y19 =>
     match y19 with
     | Sum.inr pv12 => (((some (Sum.inr pv12)).bind fun r => some (Sum.inr r)).bind fun r => some (Sum.inr r)).bind fun r => some (Sum.inr r)
     | Sum.inl y19 =>
     some (Sum.inl ())
    else
     (bT false).bind fun y20 =>
     match y20 with
     | Sum.inr pv13 => (((some (Sum.inr pv13)).bind fun r => some (Sum.inr r)).bind fun r => some (Sum.inr r)).bind fun r => some (Sum.inr r)
     | Sum.inl y20 =>
     some (Sum.inl ())
   else
    (bT false).bind fun y21 =>
    match y21 with
    | Sum.inr pv14 => (((some (Sum.inr pv14)).bind fun r => some (Sum.inr r)).bind fun r => some (Sum.inr r)).bind fun r => some (Sum.inr r)
    | Sum.inl y21 =>
    some (Sum.inl ())
  else
   (bT false).bind fun y22 =>
   match y22 with
   | Sum.inr pv15 => (((some (Sum.inr pv15)).bind fun r => some (Sum.inr r)).bind fun r => some (Sum.inr r)).bind fun r => some (Sum.inr r)
   | Sum.inl y22 =>
   some (Sum.inl ())).bind fun o => match o with
  | Sum.inr r => some r
  | Sum.inl _ =>
  (chk (x13 + 1)).bind fun z3 =>
  kV fuel a0 y11 k z3 (aQ.upd x14 y15 true)
 else
  some (Sum.inl x14)
def mX (fuel : Nat) (a0 : ScopeDef) : Nat → Int → (aQ Int Bool) → Option ((aQ Int Bool) ⊕ (Unit ⊕ Value))
| 0, _, _ => none
| k + 1, x8, x9 =>
 if x8 < (((⟨a0.Chans, a0.Spots, a0.Rules⟩ : ScopeDef).Rules).length : Int) then
  ((idx ((⟨a0.Chans, a0.Spots, a0.Rules⟩ : ScopeDef).Rules) x8).bind fun y11 =>
  (uT y11.At (⟨a0.Chans, a0.Spots, a0.Rules⟩ : ScopeDef)).bind fun y12 =>
  match y12 with
  | Sum.inr pv9 => ((some (Sum.inr pv9)).bind fun r => some (Sum.inr r)).bind fun r => some (Sum.inr r)
  | Sum.inl y12 =>
  (if 0 < (y11.Joins.length : Int) then
   (bT (decide ((y11.Joins.length : Int) ≤ 3))).bind fun y13 =>
   match y13 with
   | Sum.inr pv10 => (((some (Sum.inr pv10)).bind fun r => some (Sum.inr r)).bind fun r => some (Sum.inr r)).bind fun r => some (Sum.inr r)
   | Sum.inl y13 =>
   some (Sum.inl ())
  else
   (bT false).bind fun y14 =>
   match y14 with
   | Sum.inr pv11 => (((some (Sum.inr pv11)).bind fun r => some (Sum.inr r)).bind fun r => some (Sum.inr r)).bind fun r => some (Sum.inr r)
   | Sum.inl y14 =>
   some (Sum.inl ())).bind fun o => match o with
  | Sum.inr r => some r
  | Sum.inl _ =>
  kV fuel a0 y11 fuel 0 x9).bind fun o => match o with
  | Sum.inr r => some r
  | Sum.inl x10 =>
  (chk (x8 + 1)).bind fun z4 =>
  mX fuel a0 k z4 x10
 else
  some (Sum.inl x9)
def sV (fuel : Nat) (a0 : ScopeDef) : Option (Unit ⊕ Value) :=
 (if (a0.Chans.length : Int) ≤ 30 then
  if (a0.Spots.length : Int) ≤ 30 then
   (bT (decide ((a0.Rules.length : Int) ≤ 30))).bind fun y1 =>
   match y1 with
   | Sum.inr pv1 => (some (Sum.inr pv1)).bind fun r => some (Sum.inr r)
   | Sum.inl y1 =>
   some (Sum.inl ())
  else
   (bT false).bind fun y2 =>
   match y2 with
   | Sum.inr pv2 => (some (Sum.inr pv2)).bind fun r => some (Sum.inr r)
   | Sum.inl y2 =>
   some (Sum.inl ())
 else
  (bT false).bind fun y3 =>
  match y3 with
  | Sum.inr pv3 => (some (Sum.inr pv3)).bind fun r => some (Sum.inr r)
  | Sum.inl y3 =>
  some (Sum.inl ())).bind fun o => match o with
 | Sum.inr r => some r
 | Sum.inl _ =>
 (oU a0 fuel 0).bind fun o => match o with
 | Sum.inr r => some r
 | Sum.inl _ =>
 (oW a0 fuel 0).bind fun o => match o with
 | Sum.inr r => some r
 | Sum.inl _ =>
 (mX fuel a0 fuel 0 (aQ.none : aQ Int Bool)).bind fun o => match o with
 | Sum.inr r => some r
 | Sum.inl x5 =>
 (bT (decide ((x5.size : Int) = (((⟨a0.Chans, a0.Spots, a0.Rules⟩ : ScopeDef).Chans).length : Int)))).bind fun y23 =>
 match y23 with
 | Sum.inr pv16 => some (Sum.inr pv16)
 | Sum.inl y23 =>
 some (Sum.inl ())
theorem aFu (fuel : Nat)  (a0 : ScopeDef) (r : Unit ⊕ Value) (H : sV fuel a0 = some r) : FnE Try.prog 96 [fSt aK a0] [] r (fun r => dH []) (fun r => []) := by
 unfold sV at H
 refine rI Try.func96 rfl Try.ntmps96 rfl (fun β => ?_)
 refine Z1 ?_
 refine aT trivial rfl rfl (cG rfl (has rfl) bO) (fun b1 => ?_)
 revert H; refine B1 fun o1 H Hr1 => ?_
 refine aX (ι := Unit) (fun i => o1 = Sum.inl ()) (fun i => [(1, fEq (ptr b1))]) (fun i => [aC b1 52 [fSl bE a0.Chans, fSl cB a0.Spots, fSl bK a0.Rules]]) ?_ ?_
 revert H; refine I6 (fun c1 H => ?_) fun c1 H => ?_
 revert H; refine I6 (fun c2 H => ?_) fun c2 H => ?_
 revert H; refine B5 fun y1 h1 H => ?_
 rcases y1 with y1 | pv1 <;> dsimp only at H
 refine Tc (bA _ _ h1).s ?_
 refine Z1 ?_
 exact Tm (()) (ij H)
 refine Tp (bA _ _ h1).pan ?_
 revert H; refine B1 fun r1 H e1 => ?_
 cases e1; cases Hr1
 cases H
 exact bZ
 revert H; refine B5 fun y2 h2 H => ?_
 rcases y2 with y2 | pv2 <;> dsimp only at H
 refine Tc (bA _ _ h2).s ?_
 refine Z1 ?_
 exact Tm (()) (ij H)
 refine Tp (bA _ _ h2).pan ?_
 revert H; refine B1 fun r2 H e2 => ?_
 cases e2; cases Hr1
 cases H
 exact bZ
 revert H; refine B11 fun y3 h3 H => ?_
 rcases y3 with y3 | pv3 <;> dsimp only at H
 refine Tc (bA _ _ h3).s ?_
 refine Z1 ?_
 exact Tm (()) (ij H)
 refine Tp (bA _ _ h3).pan ?_
 revert H; refine B1 fun r3 H e3 => ?_
 cases e3; cases Hr1
 cases H
 exact bZ
 clear H; intro i hi; subst o1; have H := Hr1; clear Hr1; try dsimp only at H
 try dsimp only
 refine Z1 ?_
 refine cW (φ := aF aK (⟨a0.Chans, a0.Spots, a0.Rules⟩ : ScopeDef)) (v := ptr b1) [1] (hZ aL.rfl) (by intro s hs; simp only [List.mem_cons, List.not_mem_nil, or_false] at hs; rcases hs with rfl <;> rfl) ?_
 refine cY ?_
 refine Yy (uG rfl (aJ.cons hh aJ.nil)) ?_
 revert H; refine B2 fun o2 H Hr2 => ?_
 refine aX (ι := Unit) (fun i => o2 = Sum.inl ()) (fun i => [(1, aF aK (⟨a0.Chans, a0.Spots, a0.Rules⟩ : ScopeDef)), (2, cX 101 [aF aK (⟨a0.Chans, a0.Spots, a0.Rules⟩ : ScopeDef)])]) (fun i => []) ?_ ?_
 refine Z7 ?_
 refine Tl (ι := Nat × Int) (fun i => oU a0 i.1 i.2 = _) (fun i => i.1) (fun i => [(1, aF aK (⟨a0.Chans, a0.Spots, a0.Rules⟩ : ScopeDef)), (2, cX 101 [aF aK (⟨a0.Chans, a0.Spots, a0.Rules⟩ : ScopeDef)]), (31, fSl bE ((⟨a0.Chans, a0.Spots, a0.Rules⟩ : ScopeDef).Chans)), (32, aA .i64 (((⟨a0.Chans, a0.Spots, a0.Rules⟩ : ScopeDef).Chans).length : Int)), (33, aA .i64 i.2)]) (fun i => []) (fuel, 0) H ?_
 clear H; rintro ⟨k1, x2⟩ H
 replace H : oU a0 k1 x2 = _ := H
 try dsimp only
 obtain _ | k1 := k1
 rw [oU] at H; cases H
 rw [oU] at H
 refine Z3 ?_
 refine aH ?_
 revert H; refine is (fun c3 H => ?_) fun c3 H => ?_
 revert H; refine B3 fun o3 H Hr3 => ?_
 refine aX (ι := Unit) (fun i => o3 = Sum.inl ()) (fun i => [(1, aF aK (⟨a0.Chans, a0.Spots, a0.Rules⟩ : ScopeDef)), (2, cX 101 [aF aK (⟨a0.Chans, a0.Spots, a0.Rules⟩ : ScopeDef)]), (31, fSl bE ((⟨a0.Chans, a0.Spots, a0.Rules⟩ : ScopeDef).Chans)), (32, aA .i64 (((⟨a0.Chans, a0.Spots, a0.Rules⟩ : ScopeDef).Chans).length : Int)), (33, aA .i64 x2)]) (fun i => []) ?_ ?_
 revert H; refine B2 fun y4 h4 H => ?_
 refine Z2 ?_
 refine aT trivial rfl rfl (cN rfl aBV rfl) (fun b2 => ?_)
 refine dP (φs' := [aA .i64 y4.At, aA .i64 y4.Many]) trivial rfl rfl (has rfl) (has rfl) (aO (aD trivial) (aO (aD trivial) bY)) (sz rfl) rfl rfl rfl ?_
 revert H; refine B5 fun y5 h5 H => ?_
 rcases y5 with y5 | pv4 <;> dsimp only at H
 refine zU trivial rfl rfl rfl (has rfl) (aJ.cons (has rfl) aJ.nil) rfl (cb rfl) (aAt y4.At (⟨a0.Chans, a0.Spots, a0.Rules⟩ : ScopeDef) (Sum.inl y5) h5).s rfl ?_
 revert H; refine I6 (fun c4 H => ?_) fun c4 H => ?_
 revert H; refine B4 fun y6 h6 H => ?_
 rcases y6 with y6 | pv5 <;> dsimp only at H
 refine Tc (bA _ _ h6).s ?_
 refine Z3 ?_
 refine aI [] (by decide) ?_
 exact Tm (()) (ij H)
 refine Tp (bA _ _ h6).pan ?_
 revert H; refine B2 fun r4 H e4 => ?_
 cases e4; cases Hr3
 revert H; refine B3 fun r5 H e5 => ?_
 cases e5; cases Hr2
 cases H
 exact bZ
 revert H; refine B4 fun y7 h7 H => ?_
 rcases y7 with y7 | pv6 <;> dsimp only at H
 refine Tc (bA _ _ h7).s ?_
 refine Z3 ?_
 refine aI [] (by decide) ?_
 exact Tm (()) (ij H)
 refine Tp (bA _ _ h7).pan ?_
 revert H; refine B2 fun r6 H e6 => ?_
 cases e6; cases Hr3
 revert H; refine B3 fun r7 H e7 => ?_
 cases e7; cases Hr2
 cases H
 exact bZ
 refine aAW trivial rfl (has rfl) (aJ.cons (has rfl) aJ.nil) rfl (cb rfl) (aAt y4.At (⟨a0.Chans, a0.Spots, a0.Rules⟩ : ScopeDef) (Sum.inr pv4) h5).pan rfl ?_
 revert H; refine B3 fun r8 H e8 => ?_
 cases e8; cases Hr3
 revert H; refine B3 fun r9 H e9 => ?_
 cases e9; cases Hr2
 cases H
 exact bZ
 clear H; intro i hi; subst o3; have H := Hr3; clear Hr3; try dsimp only at H
 try dsimp only
 revert H; refine B1 fun z1 h8 H => ?_
 refine Z3 ?_
 exact Tm ((k1, z1)) ⟨H, ls⟩
 refine Z6 ?_
 exact Tm (()) (ij H)
 clear H; intro i hi; subst o2; have H := Hr2; clear Hr2; try dsimp only at H
 try dsimp only
 revert H; refine bs fun o4 H Hr4 => ?_
 refine aX (ι := Unit) (fun i => o4 = Sum.inl ()) (fun i => [(1, aF aK (⟨a0.Chans, a0.Spots, a0.Rules⟩ : ScopeDef)), (2, cX 101 [aF aK (⟨a0.Chans, a0.Spots, a0.Rules⟩ : ScopeDef)])]) (fun i => []) ?_ ?_
 refine Z7 ?_
 refine Tl (ι := Nat × Int) (fun i => oW a0 i.1 i.2 = _) (fun i => i.1) (fun i => [(1, aF aK (⟨a0.Chans, a0.Spots, a0.Rules⟩ : ScopeDef)), (2, cX 101 [aF aK (⟨a0.Chans, a0.Spots, a0.Rules⟩ : ScopeDef)]), (52, fSl cB ((⟨a0.Chans, a0.Spots, a0.Rules⟩ : ScopeDef).Spots)), (53, aA .i64 (((⟨a0.Chans, a0.Spots, a0.Rules⟩ : ScopeDef).Spots).length : Int)), (54, aA .i64 i.2)]) (fun i => []) (fuel, 0) H ?_
 clear H; rintro ⟨k2, x4⟩ H
 replace H : oW a0 k2 x4 = _ := H
 try dsimp only
 obtain _ | k2 := k2
 rw [oW] at H; cases H
 rw [oW] at H
 refine Z3 ?_
 refine aH ?_
 revert H; refine is (fun c5 H => ?_) fun c5 H => ?_
 revert H; refine B3 fun o5 H Hr5 => ?_
 refine aX (ι := Unit) (fun i => o5 = Sum.inl ()) (fun i => [(1, aF aK (⟨a0.Chans, a0.Spots, a0.Rules⟩ : ScopeDef)), (2, cX 101 [aF aK (⟨a0.Chans, a0.Spots, a0.Rules⟩ : ScopeDef)]), (52, fSl cB ((⟨a0.Chans, a0.Spots, a0.Rules⟩ : ScopeDef).Spots)), (53, aA .i64 (((⟨a0.Chans, a0.Spots, a0.Rules⟩ : ScopeDef).Spots).length : Int)), (54, aA .i64 x4)]) (fun i => []) ?_ ?_
 revert H; refine B3 fun y8 h9 H => ?_
 refine Z2 ?_
 refine aT trivial rfl rfl (cN rfl aCn rfl) (fun b3 => ?_)
 refine Z1 ?_
 refine dP (φs' := [aA .i64 y8.In, aA .i64 y8.Node]) trivial rfl rfl (has rfl) (has rfl) (aO (aD trivial) (aO (aD trivial) bY)) (sz rfl) rfl rfl rfl ?_
 revert H; refine I6 (fun c6 H => ?_) fun c6 H => ?_
 revert H; refine B5 fun y9 h10 H => ?_
 rcases y9 with y9 | pv7 <;> dsimp only at H
 refine Tc (bA _ _ h10).s ?_
 refine Z3 ?_
 refine aI [] (by decide) ?_
 exact Tm (()) (ij H)
 refine Tp (bA _ _ h10).pan ?_
 revert H; refine B2 fun r10 H e10 => ?_
 cases e10; cases Hr5
 revert H; refine B3 fun r11 H e11 => ?_
 cases e11; cases Hr4
 cases H
 exact bZ
 revert H; refine B5 fun y10 h11 H => ?_
 rcases y10 with y10 | pv8 <;> dsimp only at H
 refine Tc (bA _ _ h11).s ?_
 refine Z3 ?_
 refine aI [] (by decide) ?_
 exact Tm (()) (ij H)
 refine Tp (bA _ _ h11).pan ?_
 revert H; refine B2 fun r12 H e12 => ?_
 cases e12; cases Hr5
 revert H; refine B3 fun r13 H e13 => ?_
 cases e13; cases Hr4
 cases H
 exact bZ
 clear H; intro i hi; subst o5; have H := Hr5; clear Hr5; try dsimp only at H
 try dsimp only
 revert H; refine B1 fun z2 h12 H => ?_
 refine Z3 ?_
 exact Tm ((k2, z2)) ⟨H, ls⟩
 refine Z6 ?_
 exact Tm (()) (ij H)
 clear H; intro i hi; subst o4; have H := Hr4; clear Hr4; try dsimp only at H
 try dsimp only
 refine Z1 ?_
 refine aT trivial rfl rfl (yO (fun y => aG y) cP rfl) (fun b4 => ?_)
 revert H; refine B2 fun o6 H Hr6 => ?_
 refine aX (ι := aQ Int Bool) (fun i => o6 = Sum.inl i) (fun i => [(1, aF aK (⟨a0.Chans, a0.Spots, a0.Rules⟩ : ScopeDef)), (7, fEq (.map (some b4)))]) (fun i => [iA cP (fun y => aG y) b4 i]) ?_ ?_
 refine Z7 ?_
 refine Tl (ι := Nat × Int × aQ Int Bool) (fun i => mX fuel a0 i.1 i.2.1 i.2.2 = _) (fun i => i.1) (fun i => [(1, aF aK (⟨a0.Chans, a0.Spots, a0.Rules⟩ : ScopeDef)), (2, cX 101 [aF aK (⟨a0.Chans, a0.Spots, a0.Rules⟩ : ScopeDef)]), (7, fEq (.map (some b4))), (72, fSl bK ((⟨a0.Chans, a0.Spots, a0.Rules⟩ : ScopeDef).Rules)), (73, aA .i64 (((⟨a0.Chans, a0.Spots, a0.Rules⟩ : ScopeDef).Rules).length : Int)), (74, aA .i64 i.2.1)]) (fun i => [iA cP (fun y => aG y) b4 i.2.2]) (fuel, 0, (aQ.none : aQ Int Bool)) H ?_
 clear H; rintro ⟨k3, x8, x9⟩ H
 replace H : mX fuel a0 k3 x8 x9 = _ := H
 try dsimp only
 obtain _ | k3 := k3
 rw [mX] at H; cases H
 rw [mX] at H
 refine Z3 ?_
 refine aH ?_
 revert H; refine is (fun c7 H => ?_) fun c7 H => ?_
 revert H; refine B3 fun o7 H Hr7 => ?_
 refine aX (ι := aQ Int Bool) (fun i => o7 = Sum.inl i) (fun i => [(1, aF aK (⟨a0.Chans, a0.Spots, a0.Rules⟩ : ScopeDef)), (2, cX 101 [aF aK (⟨a0.Chans, a0.Spots, a0.Rules⟩ : ScopeDef)]), (7, fEq (.map (some b4))), (72, fSl bK ((⟨a0.Chans, a0.Spots, a0.Rules⟩ : ScopeDef).Rules)), (73, aA .i64 (((⟨a0.Chans, a0.Spots, a0.Rules⟩ : ScopeDef).Rules).length : Int)), (74, aA .i64 x8)]) (fun i => [iA cP (fun y => aG y) b4 i]) ?_ ?_
 revert H; refine B2 fun y11 h13 H => ?_
 refine Z2 ?_
 refine aT trivial rfl rfl (cN rfl sU rfl) (fun b5 => ?_)
 refine dP (φs' := [aA .i64 y11.At, fSl (aB .i64) y11.Joins, aA .i64 y11.Node]) trivial rfl rfl (has rfl) (has rfl) (aO (aD trivial) (aO (bC) (aO (aD trivial) bY))) (sz rfl) rfl rfl rfl ?_
 revert H; refine B5 fun y12 h14 H => ?_
 rcases y12 with y12 | pv9 <;> dsimp only at H
 refine zU trivial rfl rfl rfl (has rfl) (aJ.cons (has rfl) aJ.nil) rfl (cb rfl) (aAt y11.At (⟨a0.Chans, a0.Spots, a0.Rules⟩ : ScopeDef) (Sum.inl y12) h14).s rfl ?_
 revert H; refine B1 fun o8 H Hr8 => ?_
 refine aX (ι := Unit) (fun i => o8 = Sum.inl ()) (fun i => [(1, aF aK (⟨a0.Chans, a0.Spots, a0.Rules⟩ : ScopeDef)), (2, cX 101 [aF aK (⟨a0.Chans, a0.Spots, a0.Rules⟩ : ScopeDef)]), (7, fEq (.map (some b4))), (72, fSl bK ((⟨a0.Chans, a0.Spots, a0.Rules⟩ : ScopeDef).Rules)), (73, aA .i64 (((⟨a0.Chans, a0.Spots, a0.Rules⟩ : ScopeDef).Rules).length : Int)), (74, aA .i64 x8), (9, fEq (ptr b5))]) (fun i => [aC b5 48 [aA .i64 y11.At, fSl (aB .i64) y11.Joins, aA .i64 y11.Node], iA cP (fun y => aG y) b4 x9]) ?_ ?_
 revert H; refine I6 (fun c8 H => ?_) fun c8 H => ?_
 revert H; refine B5 fun y13 h15 H => ?_
 rcases y13 with y13 | pv10 <;> dsimp only at H
 refine Tc (bA _ _ h15).s ?_
 refine Z1 ?_
 exact Tm (()) (ij H)
 refine Tp (bA _ _ h15).pan ?_
 revert H; refine B1 fun r14 H e14 => ?_
 cases e14; cases Hr8
 revert H; refine B2 fun r15 H e15 => ?_
 cases e15; cases Hr7
 revert H; refine B3 fun r16 H e16 => ?_
 cases e16; cases Hr6
 cases H
 exact bZ
 revert H; refine B5 fun y14 h16 H => ?_
 rcases y14 with y14 | pv11 <;> dsimp only at H
 refine Tc (bA _ _ h16).s ?_
 refine Z1 ?_
 exact Tm (()) (ij H)
 refine Tp (bA _ _ h16).pan ?_
 revert H; refine B1 fun r17 H e17 => ?_
 cases e17; cases Hr8
 revert H; refine B2 fun r18 H e18 => ?_
 cases e18; cases Hr7
 revert H; refine B3 fun r19 H e19 => ?_
 cases e19; cases Hr6
 cases H
 exact bZ
 clear H; intro i hi; subst o8; have H := Hr8; clear Hr8; try dsimp only at H
 try dsimp only
 refine Z7 ?_
 refine Tl (ι := Nat × Int × aQ Int Bool) (fun i => kV fuel a0 y11 i.1 i.2.1 i.2.2 = _) (fun i => i.1) (fun i => [(1, aF aK (⟨a0.Chans, a0.Spots, a0.Rules⟩ : ScopeDef)), (2, cX 101 [aF aK (⟨a0.Chans, a0.Spots, a0.Rules⟩ : ScopeDef)]), (7, fEq (.map (some b4))), (72, fSl bK ((⟨a0.Chans, a0.Spots, a0.Rules⟩ : ScopeDef).Rules)), (73, aA .i64 (((⟨a0.Chans, a0.Spots, a0.Rules⟩ : ScopeDef).Rules).length : Int)), (74, aA .i64 x8), (9, fEq (ptr b5)), (94, fSl (aB .i64) y11.Joins), (95, aA .i64 (y11.Joins.length : Int)), (96, aA .i64 i.2.1)]) (fun i => [aC b5 48 [aA .i64 y11.At, fSl (aB .i64) y11.Joins, aA .i64 y11.Node], iA cP (fun y => aG y) b4 i.2.2]) (fuel, 0, x9) H ?_
 clear H; rintro ⟨k4, x13, x14⟩ H
 replace H : kV fuel a0 y11 k4 x13 x14 = _ := H
 try dsimp only
 obtain _ | k4 := k4
 rw [kV] at H; cases H
 rw [kV] at H
 refine Z3 ?_
 refine aH ?_
 revert H; refine is (fun c9 H => ?_) fun c9 H => ?_
 refine Z3 ?_
 refine aH ?_
 revert H; refine B3 fun y15 h17 H => ?_
 revert H; refine B5 fun o9 H Hr9 => ?_
 refine aX (ι := Unit) (fun i => o9 = Sum.inl ()) (fun i => [(1, aF aK (⟨a0.Chans, a0.Spots, a0.Rules⟩ : ScopeDef)), (2, cX 101 [aF aK (⟨a0.Chans, a0.Spots, a0.Rules⟩ : ScopeDef)]), (7, fEq (.map (some b4))), (72, fSl bK ((⟨a0.Chans, a0.Spots, a0.Rules⟩ : ScopeDef).Rules)), (73, aA .i64 (((⟨a0.Chans, a0.Spots, a0.Rules⟩ : ScopeDef).Rules).length : Int)), (74, aA .i64 x8), (9, fEq (ptr b5)), (94, fSl (aB .i64) y11.Joins), (95, aA .i64 (y11.Joins.length : Int)), (96, aA .i64 x13), (11, aA .i64 y15)]) (fun i => [aC b5 48 [aA .i64 y11.At, fSl (aB .i64) y11.Joins, aA .i64 y11.Node], iA cP (fun y => aG y) b4 x14]) ?_ ?_
 revert H; refine is (fun c10 H => ?_) fun c10 H => ?_
 revert H; refine is (fun c11 H => ?_) fun c11 H => ?_
 revert H; refine bs fun y16 h18 H => ?_
 revert H; refine is (fun c12 H => ?_) fun c12 H => ?_
 revert H; refine bs fun y17 h19 H => ?_
 revert H; refine bs fun y18 h20 H => ?_
 apply bI (ods := [_, _, _, _, _, _, _, _, _, _, _, _, _, _, _, _, _, _, _, _, _, _, _, _, _, _, _, _, _]) 29 0 2 bH rfl rfl rfl
 refine ND ?_
 refine M8 ?_
 intros
 refine M8 ?_
 intros
 refine M8 ?_
 intros
 refine Mg c12 (o_slice (t := (aB .i64)) rfl hh aBL (aCJ hh) (el rfl) h19) fun _ => ?_
 refine M1 ?_
 intros
 refine Nc (aIr _ _ _ _ h20) fun _ => ?_
 refine M2 ?_
 intros
 revert H; refine B1 fun y19 h21 H => ?_
 rcases y19 with y19 | pv12 <;> dsimp only at H
 refine Tc (bA _ _ h21).s ?_
 refine Z1 ?_
 exact Tm (()) (ij H)
 refine Tp (bA _ _ h21).pan ?_
 revert H; refine B1 fun r20 H e20 => ?_
 cases e20; cases Hr9
 revert H; refine B6 fun r21 H e21 => ?_
 cases e21; cases Hr7
 revert H; refine B3 fun r22 H e22 => ?_
 cases e22; cases Hr6
 cases H
 exact bZ
 exact fk
 kernel_rfl
 apply bI (ods := [_, _, _, _, _, _, _, _, _, _, _, _, _, _, _, _, _, _, _, _, _, _, _, _, _, _, _, _, _]) 29 0 2 bH rfl rfl rfl
 refine ND ?_
 refine M8 ?_
 intros
 refine M8 ?_
 intros
 refine M8 ?_
 intros
 refine M5 ?_
 intros
 revert H; refine B1 fun y20 h22 H => ?_
 rcases y20 with y20 | pv13 <;> dsimp only at H
 refine Tc (bA _ _ h22).s ?_
 refine Z1 ?_
 exact Tm (()) (ij H)
 refine Tp (bA _ _ h22).pan ?_
 revert H; refine B1 fun r23 H e23 => ?_
 cases e23; cases Hr9
 revert H; refine B6 fun r24 H e24 => ?_
 cases e24; cases Hr7
 revert H; refine B3 fun r25 H e25 => ?_
 cases e25; cases Hr6
 cases H
 exact bZ
 exact fk
 kernel_rfl
 apply bI (ods := [_, _, _, _, _, _, _, _, _, _, _, _, _, _, _, _, _, _, _, _, _, _, _, _, _, _, _, _, _]) 29 0 2 bH rfl rfl rfl
 refine ND ?_
 refine M8 ?_
 intros
 refine M8 ?_
 intros
 refine M8 ?_
 intros
 refine M5 ?_
 intros
 revert H; refine B1 fun y21 h23 H => ?_
 rcases y21 with y21 | pv14 <;> dsimp only at H
 refine Tc (bA _ _ h23).s ?_
 refine Z1 ?_
 exact Tm (()) (ij H)
 refine Tp (bA _ _ h23).pan ?_
 revert H; refine B1 fun r26 H e26 => ?_
 cases e26; cases Hr9
 revert H; refine B6 fun r27 H e27 => ?_
 cases e27; cases Hr7
 revert H; refine B3 fun r28 H e28 => ?_
 cases e28; cases Hr6
 cases H
 exact bZ
 exact fk
 kernel_rfl
 apply bI (ods := [_, _, _, _, _, _, _, _, _, _, _, _, _, _, _, _, _, _, _, _, _, _, _, _, _, _, _, _, _]) 29 0 2 bH rfl rfl rfl
 refine ND ?_
 refine M8 ?_
 intros
 refine M8 ?_
 intros
 refine M8 ?_
 intros
 refine M5 ?_
 intros
 revert H; refine B1 fun y22 h24 H => ?_
 rcases y22 with y22 | pv15 <;> dsimp only at H
 refine Tc (bA _ _ h24).s ?_
 refine Z1 ?_
 exact Tm (()) (ij H)
 refine Tp (bA _ _ h24).pan ?_
 revert H; refine B1 fun r29 H e29 => ?_
 cases e29; cases Hr9
 revert H; refine B6 fun r30 H e30 => ?_
 cases e30; cases Hr7
 revert H; refine B3 fun r31 H e31 => ?_
 cases e31; cases Hr6
 cases H
 exact bZ
 exact fk
 kernel_rfl
 clear H; intro i hi; subst o9; have H := Hr9; clear Hr9; try dsimp only at H
 try dsimp only
 refine Z3 ?_
 refine dN ?_
 refine jB (k := y15) (y := true) trivial (.inl rfl) rfl (has rfl) (has rfl) rfl (has rfl) rfl aDc ?_
 revert H; refine B4 fun z3 h25 H => ?_
 refine Z3 ?_
 refine aI [1, 0] (by decide) ?_
 exact Tm ((k4, z3, aQ.upd x14 y15 true)) ⟨H, ls⟩
 refine Z7 ?_
 refine aI [1] (by decide) ?_
 exact Tm (x14) (ij H)
 refine aAW trivial rfl (has rfl) (aJ.cons (has rfl) aJ.nil) rfl (cb rfl) (aAt y11.At (⟨a0.Chans, a0.Spots, a0.Rules⟩ : ScopeDef) (Sum.inr pv9) h14).pan rfl ?_
 revert H; refine B3 fun r32 H e32 => ?_
 cases e32; cases Hr7
 revert H; refine B3 fun r33 H e33 => ?_
 cases e33; cases Hr6
 cases H
 exact bZ
 clear H; intro x10 hi; subst o7; have H := Hr7; clear Hr7; try dsimp only at H
 try dsimp only
 revert H; refine B1 fun z4 h26 H => ?_
 refine Z3 ?_
 exact Tm ((k3, z4, x10)) ⟨H, ls⟩
 refine Z6 ?_
 exact Tm (x9) (ij H)
 clear H; intro x5 hi; subst o6; have H := Hr6; clear Hr6; try dsimp only at H
 try dsimp only
 refine Z2 ?_
 refine Yo 0 rfl (o_lenMO rfl hh aDc) ?_
 revert H; refine B4 fun y23 h27 H => ?_
 rcases y23 with y23 | pv16 <;> dsimp only at H
 refine Tc (bA _ _ h27).s ?_
 refine Z1 ?_
 cases H
 refine pW ?_
 refine aI [] (by decide) ?_
 exact fI (.inr rfl) rfl rfl
 refine Tp (bA _ _ h27).pan ?_
 cases H
 exact bZ
def tL (a0 : ScopeDef) : Option (Int) :=
 (chk ((a0.Chans.length : Int) + (a0.Spots.length : Int))).bind fun z1 =>
 some z1
theorem aGX  (a0 : ScopeDef) (r : Int) (H : tL a0 = some r) : FnS Try.prog 97 [fSt aK a0] [] (aA .i64 r) (fun _ => []) := by
 unfold tL at H
 refine bF Try.func97 rfl Try.ntmps97 rfl (fun β => ?_)
 refine Z1 ?_
 refine aT trivial rfl rfl (cG rfl (has rfl) bO) (fun b1 => ?_)
 revert H; refine B9 fun z1 h1 H => ?_
 refine Z4 ?_
 cases H
 refine aI [] (by decide) ?_
 exact To
def pB (a0 : ScopeDef) (a1 : ScopeRule) : Nat → Int → Int → Option (Int)
| 0, _, _ => none
| k + 1, x4, x5 =>
 if x5 < (a1.Joins.length : Int) then
  (idx a1.Joins x5).bind fun y1 =>
  (idx a0.Chans y1).bind fun y2 =>
  (chk (x4 + y2.Many)).bind fun z1 =>
  (chk (x5 + 1)).bind fun z2 =>
  pB a0 a1 k z1 z2
 else
  some x4
def xI (fuel : Nat) (a0 : ScopeDef) (a1 : ScopeRule) : Option (Int) :=
 (pB a0 a1 fuel 0 0).bind fun x1 =>
 some x1
theorem aHG (fuel : Nat)  (a0 : ScopeDef) (a1 : ScopeRule) (r : Int) (H : xI fuel a0 a1 = some r) : FnS Try.prog 98 [fSt aK a0, fSt bK a1] [] (aA .i64 r) (fun _ => []) := by
 unfold xI at H
 refine bF Try.func98 rfl Try.ntmps98 rfl (fun β => ?_)
 refine Z1 ?_
 refine aT trivial rfl rfl (cG rfl (has rfl) bO) (fun b1 => ?_)
 refine aT trivial rfl rfl (cG rfl (has rfl) bO) (fun b2 => ?_)
 revert H; refine B5 fun o1 H Hr1 => ?_
 refine aX (ι := Int) (fun i => o1 = i) (fun i => [(5, aA .i64 i)]) (fun i => [aC b2 48 [aA .i64 a1.At, fSl (aB .i64) a1.Joins, aA .i64 a1.Node], aC b1 52 [fSl bE a0.Chans, fSl cB a0.Spots, fSl bK a0.Rules]]) ?_ ?_
 refine Z7 ?_
 refine Tl (ι := Nat × Int × Int) (fun i => pB a0 a1 i.1 i.2.1 i.2.2 = _) (fun i => i.1) (fun i => [(2, fEq (ptr b1)), (5, aA .i64 i.2.1), (9, fSl (aB .i64) a1.Joins), (10, aA .i64 (a1.Joins.length : Int)), (11, aA .i64 i.2.2)]) (fun i => [aC b2 48 [aA .i64 a1.At, fSl (aB .i64) a1.Joins, aA .i64 a1.Node], aC b1 52 [fSl bE a0.Chans, fSl cB a0.Spots, fSl bK a0.Rules]]) (fuel, 0, 0) H ?_
 clear H; rintro ⟨k1, x4, x5⟩ H
 replace H : pB a0 a1 k1 x4 x5 = _ := H
 try dsimp only
 obtain _ | k1 := k1
 rw [pB] at H; cases H
 rw [pB] at H
 refine Z3 ?_
 refine aH ?_
 revert H; refine is (fun c1 H => ?_) fun c1 H => ?_
 refine Z3 ?_
 refine aH ?_
 revert H; refine B2 fun y1 h1 H => ?_
 revert H; refine B9 fun y2 h2 H => ?_
 revert H; refine B3 fun z1 h3 H => ?_
 revert H; refine B6 fun z2 h4 H => ?_
 refine Z3 ?_
 exact Tm ((k1, z1, z2)) ⟨H, ls⟩
 refine Z6 ?_
 exact Tm (x4) (ij H)
 clear H; intro x1 hi; subst o1; have H := Hr1; clear Hr1; try dsimp only at H
 try dsimp only
 refine Z5 ?_
 cases H
 refine aI [] (by decide) ?_
 exact To
end Go.Proofs.Ytmnbfgeljmhekaa
set_option maxRecDepth 100000
set_option maxHeartbeats 2000000
namespace Go.Proofs.Ytmnbfgeljmhekaa
open Go.SX Go.SW Go.Dt
attribute [local irreducible] Code.wpIn wpListIn Exit.then Exit.inBlock
def aCx (a0 : Scope_speaks) : Option (Int) :=
 some 0
theorem aG7  (a0 : Scope_speaks) (r : Int) (H : aCx a0 = some r) : FnS Try.prog 119 [fSt aFZ a0] [] (aA .i64 r) (fun _ => []) := by
 unfold aCx at H
 refine bF Try.func119 rfl Try.ntmps119 rfl (fun β => ?_)
 refine Z1 ?_
 refine aT trivial rfl rfl (cG rfl (has rfl) bO) (fun b1 => ?_)
 refine Z6 ?_
 cases H
 refine aI [] (by decide) ?_
 exact To
def aBq (a0 : Scope_travels) : Option (Int) :=
 some 1
theorem aGz  (a0 : Scope_travels) (r : Int) (H : aBq a0 = some r) : FnS Try.prog 120 [fSt aHA a0] [] (aA .i64 r) (fun _ => []) := by
 unfold aBq at H
 refine bF Try.func120 rfl Try.ntmps120 rfl (fun β => ?_)
 refine Z1 ?_
 refine aT trivial rfl rfl (cG rfl (has rfl) bO) (fun b1 => ?_)
 refine Z6 ?_
 cases H
 refine aI [] (by decide) ?_
 exact To
def aB7 (a0 : Scope_declares) : Option (Int) :=
 some 1
theorem aHe  (a0 : Scope_declares) (r : Int) (H : aB7 a0 = some r) : FnS Try.prog 121 [fSt aIx a0] [] (aA .i64 r) (fun _ => []) := by
 unfold aB7 at H
 refine bF Try.func121 rfl Try.ntmps121 rfl (fun β => ?_)
 refine Z1 ?_
 refine aT trivial rfl rfl (cG rfl (has rfl) bO) (fun b1 => ?_)
 refine Z6 ?_
 cases H
 refine aI [] (by decide) ?_
 exact To
def aCe (a0 : Scope_decides) : Option (Int) :=
 some 2
theorem aHZ  (a0 : Scope_decides) (r : Int) (H : aCe a0 = some r) : FnS Try.prog 122 [fSt aHp a0] [] (aA .i64 r) (fun _ => []) := by
 unfold aCe at H
 refine bF Try.func122 rfl Try.ntmps122 rfl (fun β => ?_)
 refine Z1 ?_
 refine aT trivial rfl rfl (cG rfl (has rfl) bO) (fun b1 => ?_)
 refine Z6 ?_
 cases H
 refine aI [] (by decide) ?_
 exact To
def aCN (a0 : Int) : Option (Int) :=
 some a0
theorem aHS  (a0 : Int) (r : Int) (H : aCN a0 = some r) : FnS Try.prog 123 [aA .i64 a0] [] (aA .i64 r) (fun _ => []) := by
 unfold aCN at H
 refine bF Try.func123 rfl Try.ntmps123 rfl (fun β => ?_)
 refine Z8 ?_
 cases H
 exact To
def nQ : Value → Option Int
 | .iface 168 (.agg ⟨[]⟩) => aCx ⟨⟩
 | .iface 169 (.agg ⟨[]⟩) => aBq ⟨⟩
 | .iface 170 (.agg ⟨[]⟩) => aB7 ⟨⟩
 | .iface 171 (.agg ⟨[]⟩) => aCe ⟨⟩
 | .iface 175 (.int .i64 n) => aCN n
 | _ => none
theorem aH6 (v : Value) (r : Int) (H : nQ v = some r) : Inv Try.prog v "cabotage/scope.kids" [] (aA .i64 r) := by
 unfold nQ at H
 split at H
 ·exact ⟨_, _, 119, rfl, fun w => by kernel_rfl, (cb rfl), (aG7 ⟨⟩ r H).args (aL.cons (sJ []) aL.nil)⟩
 ·exact ⟨_, _, 120, rfl, fun w => by kernel_rfl, (cb rfl), (aGz ⟨⟩ r H).args (aL.cons (sJ []) aL.nil)⟩
 ·exact ⟨_, _, 121, rfl, fun w => by kernel_rfl, (cb rfl), (aHe ⟨⟩ r H).args (aL.cons (sJ []) aL.nil)⟩
 ·exact ⟨_, _, 122, rfl, fun w => by kernel_rfl, (cb rfl), (aHZ ⟨⟩ r H).args (aL.cons (sJ []) aL.nil)⟩
 ·rename_i n; exact ⟨_, _, 123, rfl, fun w => by kernel_rfl, (cb rfl), (aHS n r H).args aL.rfl⟩
 ·cases H
def nF (fuel : Nat) (a2 : Int) (y7 : ScopeNode) : Nat → Int → Option ((Unit) ⊕ (Scope_looker ⊕ Value))
| 0, _ => none
| k + 1, x8 =>
 if x8 < (y7.Args.length : Int) then
  (idx y7.Args x8).bind fun y27 =>
  (xA fuel (⟨y27.Op, y27.N, y27.Kids⟩ : ScopeExp) a2).bind fun y28 =>
  match y28 with
  | Sum.inr pv16 => (some (Sum.inr pv16)).bind fun r => some (Sum.inr r)
  | Sum.inl y28 =>
  (chk (x8 + 1)).bind fun z1 =>
  nF fuel a2 y7 k z1
 else
  some (Sum.inl ())
def nK (fuel : Nat) (rec_scope_looker_node : Scope_looker → Int → Int → Option (Scope_looker ⊕ Value)) (y30 : ScopeDef) (z2 : Int) : Nat → Int → (List ByteArray) → (List ScopeNode) → (List ScopeDef) → Int → (List Int) → (List Bool) → (List Bool) → Option ((List ByteArray × List ScopeNode × List ScopeDef × Int × List Int × List Bool × List Bool) ⊕ ((Int × List ByteArray × List ScopeNode × List ScopeDef × Int × List Int × List Bool × List Bool) ⊕ (Scope_looker ⊕ Value)))
| 0, _, _, _, _, _, _, _, _ => none
| k + 1, x32, x33, x34, x35, x36, x37, x38, x39 =>
 if x32 < (y30.Rules.length : Int) then
  (idx y30.Rules x32).bind fun y33 =>
  (xI fuel (⟨y30.Chans, y30.Spots, y30.Rules⟩ : ScopeDef) (⟨y33.At, y33.Joins, y33.Node⟩ : ScopeRule)).bind fun y34 =>
  (chk (z2 + y34)).bind fun z3 =>
  (rec_scope_looker_node (⟨(⟨x33, x34, x35, x36⟩ : ScopeProg), x37, x38, x39⟩ : Scope_looker) y33.Node z3).bind fun y35 =>
  match y35 with
  | Sum.inr pv18 => ((some (Sum.inr pv18)).bind fun r => some (Sum.inr r)).bind fun r => some (Sum.inr r)
  | Sum.inl y35 =>
  (chk (x32 + 1)).bind fun z4 =>
  nK fuel rec_scope_looker_node y30 z2 k z4 y35.p.Free y35.p.Nodes y35.p.Defs y35.p.Main y35.sizes y35.met y35.defs
 else
  some (Sum.inl (x33, x34, x35, x36, x37, x38, x39))
def nM (rec_scope_looker_node : Scope_looker → Int → Int → Option (Scope_looker ⊕ Value)) (y30 : ScopeDef) (z2 : Int) : Nat → Int → (List ByteArray) → (List ScopeNode) → (List ScopeDef) → Int → (List Int) → (List Bool) → (List Bool) → Option ((Int × List ByteArray × List ScopeNode × List ScopeDef × Int × List Int × List Bool × List Bool) ⊕ (Scope_looker ⊕ Value))
| 0, _, _, _, _, _, _, _, _ => none
| k + 1, x48, x49, x50, x51, x52, x53, x54, x55 =>
 if x48 < (y30.Spots.length : Int) then
  (idx y30.Spots x48).bind fun y36 =>
  (rec_scope_looker_node (⟨(⟨x49, x50, x51, x52⟩ : ScopeProg), x53, x54, x55⟩ : Scope_looker) y36.Node z2).bind fun y37 =>
  match y37 with
  | Sum.inr pv19 => (some (Sum.inr pv19)).bind fun r => some (Sum.inr r)
  | Sum.inl y37 =>
  (chk (x48 + 1)).bind fun z5 =>
  nM rec_scope_looker_node y30 z2 k z5 y37.p.Free y37.p.Nodes y37.p.Defs y37.p.Main y37.sizes y37.met y37.defs
 else
  some (Sum.inl (z2, x49, x50, x51, x52, x53, x54, x55))
def mU (rec_scope_looker_node : Scope_looker → Int → Int → Option (Scope_looker ⊕ Value)) (y7 : ScopeNode) (x9 : Int) : Nat → Int → (List ByteArray) → (List ScopeNode) → (List ScopeDef) → Int → (List Int) → (List Bool) → (List Bool) → Option (Scope_looker ⊕ Value)
| 0, _, _, _, _, _, _, _, _ => none
| k + 1, x64, x65, x66, x67, x68, x69, x70, x71 =>
 if x64 < (y7.Kids.length : Int) then
  (idx y7.Kids x64).bind fun y38 =>
  (rec_scope_looker_node (⟨(⟨x65, x66, x67, x68⟩ : ScopeProg), x69, x70, x71⟩ : Scope_looker) y38 x9).bind fun y39 =>
  match y39 with
  | Sum.inr pv20 => some (Sum.inr pv20)
  | Sum.inl y39 =>
  (chk (x64 + 1)).bind fun z6 =>
  mU rec_scope_looker_node y7 x9 k z6 y39.p.Free y39.p.Nodes y39.p.Defs y39.p.Main y39.sizes y39.met y39.defs
 else
  some (Sum.inl (⟨(⟨x65, x66, x67, x68⟩ : ScopeProg), x69, x70, x71⟩ : Scope_looker))
def fC : Nat → Scope_looker → Int → Int → Option (Scope_looker ⊕ Value)
| 0, _, _, _ => none
| fuel + 1, a0, a1, a2 =>
 (if 0 ≤ a1 then
  if a1 < (a0.p.Nodes.length : Int) then
   (idx a0.met a1).bind fun y1 =>
   (bT (!y1)).bind fun y2 =>
   match y2 with
   | Sum.inr pv1 => (some (Sum.inr pv1)).bind fun r => some (Sum.inr r)
   | Sum.inl y2 =>
   some (Sum.inl ())
  else
   (bT false).bind fun y3 =>
   match y3 with
   | Sum.inr pv2 => (some (Sum.inr pv2)).bind fun r => some (Sum.inr r)
   | Sum.inl y3 =>
   some (Sum.inl ())
 else
  (bT false).bind fun y4 =>
  match y4 with
  | Sum.inr pv3 => (some (Sum.inr pv3)).bind fun r => some (Sum.inr r)
  | Sum.inl y4 =>
  some (Sum.inl ())).bind fun o => match o with
 | Sum.inr r => some r
 | Sum.inl _ =>
 (idx a0.met a1).bind fun y5 =>
 (idx a0.sizes a1).bind fun y6 =>
 (idx a0.p.Nodes a1).bind fun y7 =>
 (jW y7.Op).bind fun y8 =>
 ((iQ y8).bind fun x1 =>
 bif !x1 then
  (nQ y8).bind fun y9 =>
  (bT (decide ((y7.Kids.length : Int) = y9))).bind fun y10 =>
  match y10 with
  | Sum.inr pv4 => (some (Sum.inr pv4)).bind fun r => some (Sum.inr r)
  | Sum.inl y10 =>
  some (Sum.inl ())
 else
  (bT false).bind fun y11 =>
  match y11 with
  | Sum.inr pv5 => (some (Sum.inr pv5)).bind fun r => some (Sum.inr r)
  | Sum.inl y11 =>
  some (Sum.inl ())).bind fun o => match o with
 | Sum.inr r => some r
 | Sum.inl _ =>
 ((eR 168 (.agg #[]) y8).bind fun y12 =>
 match y12 with
 | (u1, x3) =>
 bif x3 then
  if 0 ≤ y7.N then
   (bT (decide (y7.N < a2))).bind fun y13 =>
   match y13 with
   | Sum.inr pv6 => (some (Sum.inr pv6)).bind fun r => some (Sum.inr r)
   | Sum.inl y13 =>
   some (Sum.inl (min (y7.Args.length : Int) 3))
  else
   (bT false).bind fun y14 =>
   match y14 with
   | Sum.inr pv7 => (some (Sum.inr pv7)).bind fun r => some (Sum.inr r)
   | Sum.inl y14 =>
   some (Sum.inl (min (y7.Args.length : Int) 3))
 else
  (eR 169 (.agg #[]) y8).bind fun y15 =>
  match y15 with
  | (u2, x4) =>
  bif x4 then
   if 0 ≤ y7.N then
    (bT (decide (y7.N < a2))).bind fun y16 =>
    match y16 with
    | Sum.inr pv8 => (some (Sum.inr pv8)).bind fun r => some (Sum.inr r)
    | Sum.inl y16 =>
    some (Sum.inl 0)
   else
    (bT false).bind fun y17 =>
    match y17 with
    | Sum.inr pv9 => (some (Sum.inr pv9)).bind fun r => some (Sum.inr r)
    | Sum.inl y17 =>
    some (Sum.inl 0)
  else
   (eR 170 (.agg #[]) y8).bind fun y18 =>
   match y18 with
   | (u3, x5) =>
   bif x5 then
    if 0 ≤ y7.N then
     if y7.N < (a0.p.Defs.length : Int) then
      (idx a0.defs y7.N).bind fun y19 =>
      (bT (!y19)).bind fun y20 =>
      match y20 with
      | Sum.inr pv10 => (some (Sum.inr pv10)).bind fun r => some (Sum.inr r)
      | Sum.inl y20 =>
      some (Sum.inl 0)
     else
      (bT false).bind fun y21 =>
      match y21 with
      | Sum.inr pv11 => (some (Sum.inr pv11)).bind fun r => some (Sum.inr r)
      | Sum.inl y21 =>
      some (Sum.inl 0)
    else
     (bT false).bind fun y22 =>
     match y22 with
     | Sum.inr pv12 => (some (Sum.inr pv12)).bind fun r => some (Sum.inr r)
     | Sum.inl y22 =>
     some (Sum.inl 0)
   else
    (eR 171 (.agg #[]) y8).bind fun y23 =>
    match y23 with
    | (u4, x6) =>
    bif x6 then
     (bT (decide (y7.N = 0))).bind fun y24 =>
     match y24 with
     | Sum.inr pv13 => (some (Sum.inr pv13)).bind fun r => some (Sum.inr r)
     | Sum.inl y24 =>
     some (Sum.inl 1)
    else
     (bT (decide (y7.N = 0))).bind fun y25 =>
     match y25 with
     | Sum.inr pv14 => (some (Sum.inr pv14)).bind fun r => some (Sum.inr r)
     | Sum.inl y25 =>
     some (Sum.inl 0)).bind fun o => match o with
 | Sum.inr r => some r
 | Sum.inl x2 =>
 (bT (decide ((y7.Args.length : Int) = x2))).bind fun y26 =>
 match y26 with
 | Sum.inr pv15 => some (Sum.inr pv15)
 | Sum.inl y26 =>
 (nF fuel a2 y7 fuel 0).bind fun o => match o with
 | Sum.inr r => some r
 | Sum.inl _ =>
 (if y7.Op = 4 then
  (idx a0.defs y7.N).bind fun y29 =>
  (idx a0.p.Defs y7.N).bind fun y30 =>
  (sV fuel (⟨y30.Chans, y30.Spots, y30.Rules⟩ : ScopeDef)).bind fun y31 =>
  match y31 with
  | Sum.inr pv17 => (some (Sum.inr pv17)).bind fun r => some (Sum.inr r)
  | Sum.inl y31 =>
  (tL (⟨y30.Chans, y30.Spots, y30.Rules⟩ : ScopeDef)).bind fun y32 =>
  (chk (a2 + y32)).bind fun z2 =>
  (nK fuel (fC fuel) y30 z2 fuel 0 a0.p.Free a0.p.Nodes a0.p.Defs a0.p.Main (a0.sizes.set a1.toNat a2) (a0.met.set a1.toNat true) (a0.defs.set y7.N.toNat true)).bind fun o => match o with
  | Sum.inr r => some r
  | Sum.inl (x17, x18, x19, x20, x21, x22, x23) =>
  nM (fC fuel) y30 z2 fuel 0 x17 x18 x19 x20 x21 x22 x23
 else
  some (Sum.inl (a2, a0.p.Free, a0.p.Nodes, a0.p.Defs, a0.p.Main, a0.sizes.set a1.toNat a2, a0.met.set a1.toNat true, a0.defs))).bind fun o => match o with
 | Sum.inr r => some r
 | Sum.inl (x9, x10, x11, x12, x13, x14, x15, x16) =>
 mU (fC fuel) y7 x9 fuel 0 x10 x11 x12 x13 x14 x15 x16
theorem aEj : ∀ (fuel : Nat), (∀ (p0 : Nat) (a0 : Scope_looker) (a1 : Int) (a2 : Int) (r : Scope_looker ⊕ Value) (H : fC fuel a0 a1 a2 = some r), FnE Try.prog 86 [fEq (.pointer (some ⟨p0, 0, none⟩)), aA .i64 a1, aA .i64 a2] [zG p0 a0] r (fun r => dH []) (fun r => [zG p0 r])) := by
 intro fuel
 induction fuel with
 | zero => exact fun p0 a0 a1 a2 r H => (by rw [fC] at H; cases H)
 | succ fuel ih =>
 have ih_scope_looker_node := ih
 refine ?_
 intro p0 a0 a1 a2 r H
 rw [fC] at H
 refine rI Try.func86 rfl Try.ntmps86 rfl (fun β => ?_)
 refine xD (fun v1 v2 v3 => ?_)
 refine aW 1 rfl (fun hc_v1 => ?_)
 refine aW 2 rfl (fun hc_v2 => ?_)
 refine aW 3 rfl (fun hc_v3 => ?_)
 revert H; refine bs fun o1 H Hr1 => ?_
 refine aX (ι := Unit) (fun i => o1 = Sum.inl ()) (fun i => [(0, fEq (ptr p0)), (1, aA .i64 a1), (2, aA .i64 a2)]) (fun i => [aC p0 137 [fSl aN a0.p.Free, fSl aM a0.p.Nodes, fSl aK a0.p.Defs, aA .i64 a0.p.Main, fEq v1, fEq v2, fEq v3], aE v1 3 (aB .i64) a0.sizes, aE v2 4 cE a0.met, aE v3 4 cE a0.defs]) ?_ ?_
 revert H; refine I4 (fun c1 H => ?_) fun c1 H => ?_
 revert H; refine I10 (fun c2 H => ?_) fun c2 H => ?_
 revert H; refine B5 fun y1 h1 H => ?_
 refine Z1 ?_
 refine Yh 2 rfl c2 (jV rfl rfl hh (sc rfl) (bN h1) rfl) ?_
 revert H; refine B2 fun y2 h2 H => ?_
 rcases y2 with y2 | pv1 <;> dsimp only at H
 refine Tc (bA _ _ h2).s ?_
 refine Z1 ?_
 exact Tm (()) (ij H)
 refine Tp (bA _ _ h2).pan ?_
 revert H; refine B1 fun r1 H e1 => ?_
 cases e1; cases Hr1
 cases H
 exact bZ
 revert H; refine B9 fun y3 h3 H => ?_
 rcases y3 with y3 | pv2 <;> dsimp only at H
 refine Tc (bA _ _ h3).s ?_
 refine Z1 ?_
 exact Tm (()) (ij H)
 refine Tp (bA _ _ h3).pan ?_
 revert H; refine B1 fun r2 H e2 => ?_
 cases e2; cases Hr1
 cases H
 exact bZ
 refine Z12 ?_
 revert H; refine B7 fun y4 h4 H => ?_
 rcases y4 with y4 | pv3 <;> dsimp only at H
 refine Tc (bA _ _ h4).s ?_
 refine Z1 ?_
 exact Tm (()) (ij H)
 refine Tp (bA _ _ h4).pan ?_
 revert H; refine B1 fun r3 H e3 => ?_
 cases e3; cases Hr1
 cases H
 exact bZ
 clear H; intro i hi; subst o1; have H := Hr1; clear Hr1; try dsimp only at H
 try dsimp only
 refine aH ?_
 revert H; refine bs fun y5 h5 H => ?_
 revert H; refine bs fun y6 h6 H => ?_
 apply bI (ods := [_, _, _, _, _, _, _, _, _, _, _, _, _, _, _]) 15 0 4 bH rfl rfl rfl
 refine ND ?_
 refine M8 ?_
 intros
 refine M4 ?_
 intros
 refine rJ (od := odC [2] true (fAny) [aE v2 4 cE (a0.met.set a1.toNat true)]) (p := 2) (z' := true) rfl (fun _ => rfl) (fun _ => rfl) trivial rfl rfl rfl rfl (has rfl) (has rfl) (aD trivial) (sz rfl) (bN h5) rfl rfl (fun _ => ?_)
 refine M1 ?_
 intros
 refine rJ (od := odC [1] true (fAny) [aE v1 3 (aB .i64) (a0.sizes.set a1.toNat a2)]) (p := 1) (z' := a2) rfl (fun _ => rfl) (fun _ => rfl) trivial rfl rfl rfl rfl (has rfl) (has rfl) (aD trivial) (sz rfl) (bN h6) rfl rfl (fun _ => ?_)
 revert H; refine B9 fun y7 h7 H => ?_
 refine Z2 ?_
 refine aT trivial rfl rfl (cN rfl qE rfl) (fun b1 => ?_)
 refine dP (φs' := [aA .i64 y7.Op, aA .i64 y7.N, fSl bD y7.Args, fSl (aB .i64) y7.Kids]) trivial rfl rfl (has rfl) (has rfl) (aO (aD trivial) (aO (aD trivial) (aO (bC) (aO (bC) bY)))) (sz rfl) rfl rfl rfl ?_
 revert H; refine B4 fun y8 h8 H => ?_
 refine Tc (aIc _ _ h8) ?_
 revert H; refine B2 fun o2 H Hr2 => ?_
 refine aX (ι := Unit) (fun i => o2 = Sum.inl ()) (fun i => [(0, fEq (ptr p0)), (2, aA .i64 a2), (6, fEq (ptr b1)), (7, eF y8)]) (fun i => [aC b1 56 [aA .i64 y7.Op, aA .i64 y7.N, fSl bD y7.Args, fSl (aB .i64) y7.Kids], aC p0 137 [fSl aN a0.p.Free, fSl aM a0.p.Nodes, fSl aK a0.p.Defs, aA .i64 a0.p.Main, fEq v1, fEq v2, fEq v3], aE v1 3 (aB .i64) (a0.sizes.set a1.toNat a2), aE v2 4 cE (a0.met.set a1.toNat true), aE v3 4 cE a0.defs]) ?_ ?_
 revert H; refine bs fun x1 h9 H => ?_
 revert H; refine cs (fun c3 H => ?_) fun c3 H => ?_
 revert H; refine bs fun y9 h10 H => ?_
 apply bI (ods := [_, _, _, _, _, _, _, _, _, _]) 10 0 5 bH rfl rfl rfl
 refine ND ?_
 refine M1 ?_
 intros
 refine My (zP rfl (dA rfl gZ) aD0 h9) fun _ => ?_
 refine M5 ?_
 intros
 refine N_callI (od := odC [] true (aA .i64 y9) []) (Φ := aA .i64 y9) rfl (fun _ => rfl) ⟨_, _, rfl, rfl, c3⟩ rfl rfl (dA rfl gZ) aJ.nil (aH6 y8 y9 h10) (fun _ => ?_)
 refine M2 ?_
 intros
 revert H; refine B1 fun y10 h11 H => ?_
 rcases y10 with y10 | pv4 <;> dsimp only at H
 refine Tc (bA _ _ h11).s ?_
 refine Z1 ?_
 exact Tm (()) (ij H)
 refine Tp (bA _ _ h11).pan ?_
 revert H; refine B1 fun r4 H e4 => ?_
 cases e4; cases Hr2
 cases H
 exact bZ
 exact fk
 kernel_rfl
 apply bI (ods := [_, _, _, _, _, _, _, _, _, _]) 10 0 5 bH rfl rfl rfl
 refine ND ?_
 refine M1 ?_
 intros
 refine My (zP rfl (dA rfl gZ) aD0 h9) fun _ => ?_
 refine M8 ?_
 intros
 revert H; refine B1 fun y11 h12 H => ?_
 rcases y11 with y11 | pv5 <;> dsimp only at H
 refine Tc (bA _ _ h12).s ?_
 refine Z1 ?_
 exact Tm (()) (ij H)
 refine Tp (bA _ _ h12).pan ?_
 revert H; refine B1 fun r5 H e5 => ?_
 cases e5; cases Hr2
 cases H
 exact bZ
 exact fk
 kernel_rfl
 clear H; intro i hi; subst o2; have H := Hr2; clear Hr2; try dsimp only at H
 try dsimp only
 revert H; refine B3 fun o3 H Hr3 => ?_
 refine aX (ι := Int) (fun i => o3 = Sum.inl i) (fun i => [(0, fEq (ptr p0)), (2, aA .i64 a2), (6, fEq (ptr b1)), (8, aA .i64 i)]) (fun i => [aC b1 56 [aA .i64 y7.Op, aA .i64 y7.N, fSl bD y7.Args, fSl (aB .i64) y7.Kids], aC p0 137 [fSl aN a0.p.Free, fSl aM a0.p.Nodes, fSl aK a0.p.Defs, aA .i64 a0.p.Main, fEq v1, fEq v2, fEq v3], aE v1 3 (aB .i64) (a0.sizes.set a1.toNat a2), aE v2 4 cE (a0.met.set a1.toNat true), aE v3 4 cE a0.defs]) ?_ ?_
 revert H; refine B5 fun y12 h13 H => ?_
 obtain ⟨u1, x3⟩ := y12; dsimp only at H
 refine Yy (wL rfl (dA rfl gZ) aFy aG8 h13) ?_
 refine Z3 ?_
 revert H; refine cs (fun c4 H => ?_) fun c4 H => ?_
 refine Z12 ?_
 revert H; refine I1 (fun c5 H => ?_) fun c5 H => ?_
 revert H; refine B5 fun y13 h14 H => ?_
 rcases y13 with y13 | pv6 <;> dsimp only at H
 refine Tc (bA _ _ h14).s ?_
 refine Z3 ?_
 exact Tm (min (y7.Args.length : Int) 3) (ij H)
 refine Tp (bA _ _ h14).pan ?_
 revert H; refine B2 fun r6 H e6 => ?_
 cases e6; cases Hr3
 cases H
 exact bZ
 revert H; refine B5 fun y14 h15 H => ?_
 rcases y14 with y14 | pv7 <;> dsimp only at H
 refine Tc (bA _ _ h15).s ?_
 refine Z3 ?_
 exact Tm (min (y7.Args.length : Int) 3) (ij H)
 refine Tp (bA _ _ h15).pan ?_
 revert H; refine B2 fun r7 H e7 => ?_
 cases e7; cases Hr3
 cases H
 exact bZ
 revert H; refine B2 fun y15 h16 H => ?_
 obtain ⟨u2, x4⟩ := y15; dsimp only at H
 refine Yy (wL rfl (dA rfl gZ) aET aIB h16) ?_
 refine Z3 ?_
 revert H; refine cs (fun c6 H => ?_) fun c6 H => ?_
 revert H; refine I6 (fun c7 H => ?_) fun c7 H => ?_
 revert H; refine B5 fun y16 h17 H => ?_
 rcases y16 with y16 | pv8 <;> dsimp only at H
 refine Tc (bA _ _ h17).s ?_
 refine Z3 ?_
 exact Tm (0) (ij H)
 refine Tp (bA _ _ h17).pan ?_
 revert H; refine B2 fun r8 H e8 => ?_
 cases e8; cases Hr3
 cases H
 exact bZ
 revert H; refine B5 fun y17 h18 H => ?_
 rcases y17 with y17 | pv9 <;> dsimp only at H
 refine Tc (bA _ _ h18).s ?_
 refine Z3 ?_
 exact Tm (0) (ij H)
 refine Tp (bA _ _ h18).pan ?_
 revert H; refine B2 fun r9 H e9 => ?_
 cases e9; cases Hr3
 cases H
 exact bZ
 revert H; refine B2 fun y18 h19 H => ?_
 obtain ⟨u3, x5⟩ := y18; dsimp only at H
 refine Yy (wL rfl (dA rfl gZ) aEb aIu h19) ?_
 refine Z3 ?_
 revert H; refine cs (fun c8 H => ?_) fun c8 H => ?_
 revert H; refine I1 (fun c9 H => ?_) fun c9 H => ?_
 revert H; refine is (fun c10 H => ?_) fun c10 H => ?_
 revert H; refine bs fun y19 h20 H => ?_
 apply bI (ods := [_, _, _, _, _, _, _, _, _, _, _, _, _, _, _, _, _, _, _, _, _, _, _, _, _]) 25 0 5 bH rfl rfl rfl
 refine ND ?_
 refine M8 ?_
 intros
 refine M8 ?_
 intros
 refine M6 ?_
 intros
 refine eC (od := odC [4] false (aG y19) [dG]) (ps := [4]) (φ := aG y19) rfl (fun _ => rfl) ⟨_, _, rfl, rfl, c10⟩ rfl rfl (jV rfl rfl (has rfl) (sc rfl) (bN h20) rfl) (fun _ => ?_)
 refine M2 ?_
 intros
 revert H; refine B1 fun y20 h21 H => ?_
 rcases y20 with y20 | pv10 <;> dsimp only at H
 refine Tc (bA _ _ h21).s ?_
 refine Z3 ?_
 exact Tm (0) (ij H)
 refine Tp (bA _ _ h21).pan ?_
 revert H; refine B2 fun r10 H e10 => ?_
 cases e10; cases Hr3
 cases H
 exact bZ
 exact fk
 kernel_rfl
 apply bI (ods := [_, _, _, _, _, _, _, _, _, _, _, _, _, _, _, _, _, _, _, _, _, _, _, _, _]) 25 0 5 bH rfl rfl rfl
 refine ND ?_
 refine M8 ?_
 intros
 refine M8 ?_
 intros
 refine M8 ?_
 intros
 refine M1 ?_
 intros
 revert H; refine B1 fun y21 h22 H => ?_
 rcases y21 with y21 | pv11 <;> dsimp only at H
 refine Tc (bA _ _ h22).s ?_
 refine Z3 ?_
 exact Tm (0) (ij H)
 refine Tp (bA _ _ h22).pan ?_
 revert H; refine B2 fun r11 H e11 => ?_
 cases e11; cases Hr3
 cases H
 exact bZ
 exact fk
 kernel_rfl
 apply bI (ods := [_, _, _, _, _, _, _, _, _, _, _, _, _, _, _, _, _, _, _, _, _, _, _, _, _]) 25 0 5 bH rfl rfl rfl
 refine ND ?_
 refine M8 ?_
 intros
 refine M8 ?_
 intros
 refine M8 ?_
 intros
 refine M1 ?_
 intros
 revert H; refine B1 fun y22 h23 H => ?_
 rcases y22 with y22 | pv12 <;> dsimp only at H
 refine Tc (bA _ _ h23).s ?_
 refine Z3 ?_
 exact Tm (0) (ij H)
 refine Tp (bA _ _ h23).pan ?_
 revert H; refine B2 fun r12 H e12 => ?_
 cases e12; cases Hr3
 cases H
 exact bZ
 exact fk
 kernel_rfl
 revert H; refine B2 fun y23 h24 H => ?_
 obtain ⟨u4, x6⟩ := y23; dsimp only at H
 refine Yy (wL rfl (dA rfl gZ) aD4 aF6 h24) ?_
 refine Z3 ?_
 revert H; refine cs (fun c11 H => ?_) fun c11 H => ?_
 revert H; refine B8 fun y24 h25 H => ?_
 rcases y24 with y24 | pv13 <;> dsimp only at H
 refine Tc (bA _ _ h25).s ?_
 refine Z3 ?_
 exact Tm (1) (ij H)
 refine Tp (bA _ _ h25).pan ?_
 revert H; refine B2 fun r13 H e13 => ?_
 cases e13; cases Hr3
 cases H
 exact bZ
 revert H; refine B5 fun y25 h26 H => ?_
 rcases y25 with y25 | pv14 <;> dsimp only at H
 refine Tc (bA _ _ h26).s ?_
 refine Z3 ?_
 exact Tm (0) (ij H)
 refine Tp (bA _ _ h26).pan ?_
 revert H; refine B2 fun r14 H e14 => ?_
 cases e14; cases Hr3
 cases H
 exact bZ
 clear H; intro x2 hi; subst o3; have H := Hr3; clear Hr3; try dsimp only at H
 try dsimp only
 revert H; refine B6 fun y26 h27 H => ?_
 rcases y26 with y26 | pv15 <;> dsimp only at H
 refine Tc (bA _ _ h27).s ?_
 revert H; refine B1 fun o4 H Hr4 => ?_
 refine aX (ι := Unit) (fun i => o4 = Sum.inl ()) (fun i => [(0, fEq (ptr p0)), (2, aA .i64 a2), (6, fEq (ptr b1))]) (fun i => [aC b1 56 [aA .i64 y7.Op, aA .i64 y7.N, fSl bD y7.Args, fSl (aB .i64) y7.Kids], aC p0 137 [fSl aN a0.p.Free, fSl aM a0.p.Nodes, fSl aK a0.p.Defs, aA .i64 a0.p.Main, fEq v1, fEq v2, fEq v3], aE v1 3 (aB .i64) (a0.sizes.set a1.toNat a2), aE v2 4 cE (a0.met.set a1.toNat true), aE v3 4 cE a0.defs]) ?_ ?_
 refine Z7 ?_
 refine Tl (ι := Nat × Int) (fun i => nF fuel a2 y7 i.1 i.2 = _) (fun i => i.1) (fun i => [(0, fEq (ptr p0)), (2, aA .i64 a2), (6, fEq (ptr b1)), (154, fSl bD y7.Args), (155, aA .i64 (y7.Args.length : Int)), (156, aA .i64 i.2)]) (fun i => [aC b1 56 [aA .i64 y7.Op, aA .i64 y7.N, fSl bD y7.Args, fSl (aB .i64) y7.Kids], aC p0 137 [fSl aN a0.p.Free, fSl aM a0.p.Nodes, fSl aK a0.p.Defs, aA .i64 a0.p.Main, fEq v1, fEq v2, fEq v3], aE v1 3 (aB .i64) (a0.sizes.set a1.toNat a2), aE v2 4 cE (a0.met.set a1.toNat true), aE v3 4 cE a0.defs]) (fuel, 0) H ?_
 clear H; rintro ⟨k1, x8⟩ H
 replace H : nF fuel a2 y7 k1 x8 = _ := H
 try dsimp only
 obtain _ | k1 := k1
 rw [nF] at H; cases H
 rw [nF] at H
 refine Z3 ?_
 refine aH ?_
 revert H; refine is (fun c12 H => ?_) fun c12 H => ?_
 refine Z3 ?_
 refine aH ?_
 revert H; refine B2 fun y27 h28 H => ?_
 refine Z2 ?_
 refine aT trivial rfl rfl (cN rfl aCw rfl) (fun b2 => ?_)
 refine dP (φs' := [aA .i64 y27.Op, aA .i64 y27.N, fZ y27.Kids]) trivial rfl rfl (has rfl) (has rfl) (aO (aD trivial) (aO (aD trivial) (aO (aAe) bY))) (sz rfl) rfl rfl rfl ?_
 revert H; refine B4 fun y28 h29 H => ?_
 rcases y28 with y28 | pv16 <;> dsimp only at H
 refine Tc (aFw _ _ _ _ h29).s ?_
 revert H; refine B4 fun z1 h30 H => ?_
 refine Z3 ?_
 refine aI [1, 2, 3, 4, 5] (by decide) ?_
 exact Tm ((k1, z1)) ⟨H, ls⟩
 refine Tp (aFw _ _ _ _ h29).pan ?_
 revert H; refine B5 fun r15 H e15 => ?_
 cases e15; cases Hr4
 cases H
 exact bZ
 refine Z6 ?_
 exact Tm (()) (ij H)
 clear H; intro i hi; subst o4; have H := Hr4; clear Hr4; try dsimp only at H
 try dsimp only
 revert H; refine bs fun o5 H Hr5 => ?_
 refine aX (ι := Int × List ByteArray × List ScopeNode × List ScopeDef × Int × List Int × List Bool × List Bool × Value × Value × Value) (fun i => o5 = Sum.inl (i.1, i.2.1, i.2.2.1, i.2.2.2.1, i.2.2.2.2.1, i.2.2.2.2.2.1, i.2.2.2.2.2.2.1, i.2.2.2.2.2.2.2.1)) (fun i => [(0, fEq (ptr p0)), (2, aA .i64 i.1), (6, fEq (ptr b1))]) (fun i => [aC b1 56 [aA .i64 y7.Op, aA .i64 y7.N, fSl bD y7.Args, fSl (aB .i64) y7.Kids], aC p0 137 [fSl aN i.2.1, fSl aM i.2.2.1, fSl aK i.2.2.2.1, aA .i64 i.2.2.2.2.1, fEq i.2.2.2.2.2.2.2.2.1, fEq i.2.2.2.2.2.2.2.2.2.1, fEq i.2.2.2.2.2.2.2.2.2.2], aE i.2.2.2.2.2.2.2.2.1 3 (aB .i64) i.2.2.2.2.2.1, aE i.2.2.2.2.2.2.2.2.2.1 4 cE i.2.2.2.2.2.2.1, aE i.2.2.2.2.2.2.2.2.2.2 4 cE i.2.2.2.2.2.2.2.1]) ?_ ?_
 revert H; refine I5 (fun c13 H => ?_) fun c13 H => ?_
 refine Z1 ?_
 refine aH ?_
 revert H; refine bs fun y29 h31 H => ?_
 apply bI (ods := [_, _, _, _, _, _, _, _]) 8 0 5 bH rfl rfl rfl
 refine ND ?_
 refine M7 ?_
 intros
 refine rJ (od := odC [4] true (fAny) [aE v3 4 cE (a0.defs.set y7.N.toNat true)]) (p := 4) (z' := true) rfl (fun _ => rfl) (fun _ => rfl) trivial rfl rfl rfl rfl (has rfl) (has rfl) (aD trivial) (sz rfl) (bN h31) rfl rfl (fun _ => ?_)
 refine Z2 ?_
 refine aH ?_
 revert H; refine bs fun y30 h32 H => ?_
 apply bI (ods := [_, _, _, _, _, _, _, _, _, _, _]) 11 1 6 bH rfl rfl rfl
 refine ND ?_
 refine M8 ?_
 intros
 refine M1 ?_
 intros
 refine Mn 5 (fun b3 => ptr b3) (fun b3 => aC b3 52 [fEq (.slice none 0 0), fEq (.slice none 0 0), fEq (.slice none 0 0)]) rfl (cN rfl tJ rfl) (fun b3 u5 => ?_)
 refine wF (od := od1 9 [5] true (fun b3 _ => fAny) (fun b3 _ => [aC b3 52 [fSl bE y30.Chans, fSl cB y30.Spots, fSl bK y30.Rules]])) (p := 5) (φs' := [fSl bE y30.Chans, fSl cB y30.Spots, fSl bK y30.Rules]) rfl (fun _ => rfl) (fun _ => rfl) trivial rfl rfl rfl (has rfl) (has rfl) (aO (bC) (aO (bC) (aO (bC) bY))) (sz rfl) rfl rfl rfl (fun _ => ?_)
 revert H; refine B4 fun y31 h33 H => ?_
 rcases y31 with y31 | pv17 <;> dsimp only at H
 refine Tc (aFu _ _ _ h33).s ?_
 revert H; refine B4 fun y32 h34 H => ?_
 refine Tc (aGX _ _ h34) ?_
 revert H; refine bs fun z2 h35 H => ?_
 revert H; refine B3 fun o6 H Hr6 => ?_
 refine aX (ι := List ByteArray × List ScopeNode × List ScopeDef × Int × List Int × List Bool × List Bool × Value × Value × Value) (fun i => o6 = Sum.inl (i.1, i.2.1, i.2.2.1, i.2.2.2.1, i.2.2.2.2.1, i.2.2.2.2.2.1, i.2.2.2.2.2.2.1)) (fun i => [(0, fEq (ptr p0)), (2, aA .i64 z2), (6, fEq (ptr b1)), (11, fEq (ptr b3))]) (fun i => [aC b1 56 [aA .i64 y7.Op, aA .i64 y7.N, fSl bD y7.Args, fSl (aB .i64) y7.Kids], aC p0 137 [fSl aN i.1, fSl aM i.2.1, fSl aK i.2.2.1, aA .i64 i.2.2.2.1, fEq i.2.2.2.2.2.2.2.1, fEq i.2.2.2.2.2.2.2.2.1, fEq i.2.2.2.2.2.2.2.2.2], aC b3 52 [fSl bE y30.Chans, fSl cB y30.Spots, fSl bK y30.Rules], aE i.2.2.2.2.2.2.2.1 3 (aB .i64) i.2.2.2.2.1, aE i.2.2.2.2.2.2.2.2.1 4 cE i.2.2.2.2.2.1, aE i.2.2.2.2.2.2.2.2.2 4 cE i.2.2.2.2.2.2.1]) ?_ ?_
 refine Z7 ?_
 refine aI [0, 1, 5, 2, 3, 4] (by decide) ?_
 refine Tl (ι := Nat × Int × List ByteArray × List ScopeNode × List ScopeDef × Int × List Int × List Bool × List Bool × Value × Value × Value) (fun i => nK fuel (fC fuel) y30 z2 i.1 i.2.1 i.2.2.1 i.2.2.2.1 i.2.2.2.2.1 i.2.2.2.2.2.1 i.2.2.2.2.2.2.1 i.2.2.2.2.2.2.2.1 i.2.2.2.2.2.2.2.2.1 = _) (fun i => i.1) (fun i => [(0, fEq (ptr p0)), (2, aA .i64 z2), (6, fEq (ptr b1)), (11, fEq (ptr b3)), (190, fSl bK y30.Rules), (191, aA .i64 (y30.Rules.length : Int)), (192, aA .i64 i.2.1)]) (fun i => [aC b1 56 [aA .i64 y7.Op, aA .i64 y7.N, fSl bD y7.Args, fSl (aB .i64) y7.Kids], aC p0 137 [fSl aN i.2.2.1, fSl aM i.2.2.2.1, fSl aK i.2.2.2.2.1, aA .i64 i.2.2.2.2.2.1, fEq i.2.2.2.2.2.2.2.2.2.1, fEq i.2.2.2.2.2.2.2.2.2.2.1, fEq i.2.2.2.2.2.2.2.2.2.2.2], aC b3 52 [fSl bE y30.Chans, fSl cB y30.Spots, fSl bK y30.Rules], aE i.2.2.2.2.2.2.2.2.2.1 3 (aB .i64) i.2.2.2.2.2.2.1, aE i.2.2.2.2.2.2.2.2.2.2.1 4 cE i.2.2.2.2.2.2.2.1, aE i.2.2.2.2.2.2.2.2.2.2.2 4 cE i.2.2.2.2.2.2.2.2.1]) (fuel, 0, a0.p.Free, a0.p.Nodes, a0.p.Defs, a0.p.Main, a0.sizes.set a1.toNat a2, a0.met.set a1.toNat true, a0.defs.set y7.N.toNat true, v1, v2, v3) H ?_
 clear H; rintro ⟨k2, x32, x33, x34, x35, x36, x37, x38, x39, v13, v14, v15⟩ H
 replace H : nK fuel (fC fuel) y30 z2 k2 x32 x33 x34 x35 x36 x37 x38 x39 = _ := H
 try dsimp only
 obtain _ | k2 := k2
 rw [nK] at H; cases H
 rw [nK] at H
 refine aW 3 rfl (fun hc_v13 => ?_)
 refine aW 4 rfl (fun hc_v14 => ?_)
 refine aW 5 rfl (fun hc_v15 => ?_)
 refine Z3 ?_
 refine aH ?_
 revert H; refine is (fun c14 H => ?_) fun c14 H => ?_
 refine Z3 ?_
 refine aH ?_
 revert H; refine B2 fun y33 h36 H => ?_
 refine Z2 ?_
 refine aT trivial rfl rfl (cN rfl sU rfl) (fun b4 => ?_)
 refine dP (φs' := [aA .i64 y33.At, fSl (aB .i64) y33.Joins, aA .i64 y33.Node]) trivial rfl rfl (has rfl) (has rfl) (aO (aD trivial) (aO (bC) (aO (aD trivial) bY))) (sz rfl) rfl rfl rfl ?_
 revert H; refine B1 fun y34 h37 H => ?_
 revert H; refine bs fun z3 h38 H => ?_
 apply bI (ods := [_, _, _, _, _, _, _, _]) 8 0 7 bH rfl rfl rfl
 refine ND ?_
 refine M6 ?_
 intros
 refine Nc (aHG _ _ _ _ h37) fun _ => ?_
 refine M1 ?_
 intros
 refine Z1 ?_
 refine mQ ?_
 refine mQ ?_
 refine mQ ?_
 refine mY ?_
 refine wU (x := (⟨(⟨x33, x34, x35, x36⟩ : ScopeProg), x37, x38, x39⟩ : Scope_looker)) ?_
 revert H; refine bs fun y35 h39 H => ?_
 rcases y35 with y35 | pv18 <;> dsimp only at H
 refine Tc (ih_scope_looker_node _ _ _ _ _ h39).s ?_
 refine xD (fun v16 v17 v18 => ?_)
 refine aW 1 rfl (fun hc_v16 => ?_)
 refine aW 2 rfl (fun hc_v17 => ?_)
 refine aW 3 rfl (fun hc_v18 => ?_)
 revert H; refine B4 fun z4 h40 H => ?_
 refine Z3 ?_
 refine aI [5, 0, 6, 1, 2, 3] (by decide) ?_
 exact Tm ((k2, z4, y35.p.Free, y35.p.Nodes, y35.p.Defs, y35.p.Main, y35.sizes, y35.met, y35.defs, v16, v17, v18)) ⟨H, ls⟩
 refine Tp (ih_scope_looker_node _ _ _ _ _ h39).pan ?_
 revert H; refine B5 fun r16 H e16 => ?_
 cases e16; cases Hr6
 revert H; refine B1 fun r17 H e17 => ?_
 cases e17; cases Hr5
 cases H
 exact bZ
 exact fk
 kernel_rfl
 refine Z6 ?_
 exact Tm ((x33, x34, x35, x36, x37, x38, x39, v13, v14, v15)) (ij H)
 clear H; intro i hi; obtain ⟨x17, x18, x19, x20, x21, x22, x23, v7, v8, v9⟩ := i; subst o6; have H := Hr6; clear Hr6; try dsimp only at H
 try dsimp only
 refine aW 3 rfl (fun hc_v7 => ?_)
 refine aW 4 rfl (fun hc_v8 => ?_)
 refine aW 5 rfl (fun hc_v9 => ?_)
 refine Z7 ?_
 refine Tl (ι := Nat × Int × List ByteArray × List ScopeNode × List ScopeDef × Int × List Int × List Bool × List Bool × Value × Value × Value) (fun i => nM (fC fuel) y30 z2 i.1 i.2.1 i.2.2.1 i.2.2.2.1 i.2.2.2.2.1 i.2.2.2.2.2.1 i.2.2.2.2.2.2.1 i.2.2.2.2.2.2.2.1 i.2.2.2.2.2.2.2.2.1 = _) (fun i => i.1) (fun i => [(0, fEq (ptr p0)), (2, aA .i64 z2), (6, fEq (ptr b1)), (207, fSl cB y30.Spots), (208, aA .i64 (y30.Spots.length : Int)), (209, aA .i64 i.2.1)]) (fun i => [aC b1 56 [aA .i64 y7.Op, aA .i64 y7.N, fSl bD y7.Args, fSl (aB .i64) y7.Kids], aC p0 137 [fSl aN i.2.2.1, fSl aM i.2.2.2.1, fSl aK i.2.2.2.2.1, aA .i64 i.2.2.2.2.2.1, fEq i.2.2.2.2.2.2.2.2.2.1, fEq i.2.2.2.2.2.2.2.2.2.2.1, fEq i.2.2.2.2.2.2.2.2.2.2.2], aC b3 52 [fSl bE y30.Chans, fSl cB y30.Spots, fSl bK y30.Rules], aE i.2.2.2.2.2.2.2.2.2.1 3 (aB .i64) i.2.2.2.2.2.2.1, aE i.2.2.2.2.2.2.2.2.2.2.1 4 cE i.2.2.2.2.2.2.2.1, aE i.2.2.2.2.2.2.2.2.2.2.2 4 cE i.2.2.2.2.2.2.2.2.1]) (fuel, 0, x17, x18, x19, x20, x21, x22, x23, v7, v8, v9) H ?_
 clear H; rintro ⟨k3, x48, x49, x50, x51, x52, x53, x54, x55, v22, v23, v24⟩ H
 replace H : nM (fC fuel) y30 z2 k3 x48 x49 x50 x51 x52 x53 x54 x55 = _ := H
 try dsimp only
 obtain _ | k3 := k3
 rw [nM] at H; cases H
 rw [nM] at H
 refine aW 3 rfl (fun hc_v22 => ?_)
 refine aW 4 rfl (fun hc_v23 => ?_)
 refine aW 5 rfl (fun hc_v24 => ?_)
 refine Z3 ?_
 refine aH ?_
 revert H; refine is (fun c15 H => ?_) fun c15 H => ?_
 refine Z3 ?_
 refine aH ?_
 revert H; refine B2 fun y36 h41 H => ?_
 refine Z2 ?_
 refine aT trivial rfl rfl (cN rfl aCn rfl) (fun b5 => ?_)
 refine dP (φs' := [aA .i64 y36.In, aA .i64 y36.Node]) trivial rfl rfl (has rfl) (has rfl) (aO (aD trivial) (aO (aD trivial) bY)) (sz rfl) rfl rfl rfl ?_
 refine Z6 ?_
 refine mQ ?_
 refine mQ ?_
 refine mQ ?_
 refine mY ?_
 refine wU (x := (⟨(⟨x49, x50, x51, x52⟩ : ScopeProg), x53, x54, x55⟩ : Scope_looker)) ?_
 revert H; refine bs fun y37 h42 H => ?_
 rcases y37 with y37 | pv19 <;> dsimp only at H
 refine Tc (ih_scope_looker_node _ _ _ _ _ h42).s ?_
 refine xD (fun v25 v26 v27 => ?_)
 refine aW 1 rfl (fun hc_v25 => ?_)
 refine aW 2 rfl (fun hc_v26 => ?_)
 refine aW 3 rfl (fun hc_v27 => ?_)
 revert H; refine B4 fun z5 h43 H => ?_
 refine Z3 ?_
 refine aI [5, 0, 6, 1, 2, 3] (by decide) ?_
 exact Tm ((k3, z5, y37.p.Free, y37.p.Nodes, y37.p.Defs, y37.p.Main, y37.sizes, y37.met, y37.defs, v25, v26, v27)) ⟨H, ls⟩
 refine Tp (ih_scope_looker_node _ _ _ _ _ h42).pan ?_
 revert H; refine B5 fun r18 H e18 => ?_
 cases e18; cases Hr5
 cases H
 exact bZ
 refine Z6 ?_
 refine aI [0, 1, 3, 4, 5] (by decide) ?_
 exact Tm ((z2, x49, x50, x51, x52, x53, x54, x55, v22, v23, v24)) (ij H)
 refine Tp (aFu _ _ _ h33).pan ?_
 revert H; refine B2 fun r19 H e19 => ?_
 cases e19; cases Hr5
 cases H
 exact bZ
 exact fk
 kernel_rfl
 exact fk
 kernel_rfl
 refine Z3 ?_
 exact Tm ((a2, a0.p.Free, a0.p.Nodes, a0.p.Defs, a0.p.Main, a0.sizes.set a1.toNat a2, a0.met.set a1.toNat true, a0.defs, v1, v2, v3)) (ij H)
 clear H; intro i hi; obtain ⟨x9, x10, x11, x12, x13, x14, x15, x16, v4, v5, v6⟩ := i; subst o5; have H := Hr5; clear Hr5; try dsimp only at H
 try dsimp only
 refine aW 2 rfl (fun hc_v4 => ?_)
 refine aW 3 rfl (fun hc_v5 => ?_)
 refine aW 4 rfl (fun hc_v6 => ?_)
 refine Z7 ?_
 refine Tl (ι := Nat × Int × List ByteArray × List ScopeNode × List ScopeDef × Int × List Int × List Bool × List Bool × Value × Value × Value) (fun i => mU (fC fuel) y7 x9 i.1 i.2.1 i.2.2.1 i.2.2.2.1 i.2.2.2.2.1 i.2.2.2.2.2.1 i.2.2.2.2.2.2.1 i.2.2.2.2.2.2.2.1 i.2.2.2.2.2.2.2.2.1 = _) (fun i => i.1) (fun i => [(0, fEq (ptr p0)), (2, aA .i64 x9), (220, fSl (aB .i64) y7.Kids), (221, aA .i64 (y7.Kids.length : Int)), (222, aA .i64 i.2.1)]) (fun i => [aC b1 56 [aA .i64 y7.Op, aA .i64 y7.N, fSl bD y7.Args, fSl (aB .i64) y7.Kids], aC p0 137 [fSl aN i.2.2.1, fSl aM i.2.2.2.1, fSl aK i.2.2.2.2.1, aA .i64 i.2.2.2.2.2.1, fEq i.2.2.2.2.2.2.2.2.2.1, fEq i.2.2.2.2.2.2.2.2.2.2.1, fEq i.2.2.2.2.2.2.2.2.2.2.2], aE i.2.2.2.2.2.2.2.2.2.1 3 (aB .i64) i.2.2.2.2.2.2.1, aE i.2.2.2.2.2.2.2.2.2.2.1 4 cE i.2.2.2.2.2.2.2.1, aE i.2.2.2.2.2.2.2.2.2.2.2 4 cE i.2.2.2.2.2.2.2.2.1]) (fuel, 0, x10, x11, x12, x13, x14, x15, x16, v4, v5, v6) H ?_
 clear H; rintro ⟨k4, x64, x65, x66, x67, x68, x69, x70, x71, v31, v32, v33⟩ H
 replace H : mU (fC fuel) y7 x9 k4 x64 x65 x66 x67 x68 x69 x70 x71 = _ := H
 try dsimp only
 obtain _ | k4 := k4
 rw [mU] at H; cases H
 rw [mU] at H
 refine aW 2 rfl (fun hc_v31 => ?_)
 refine aW 3 rfl (fun hc_v32 => ?_)
 refine aW 4 rfl (fun hc_v33 => ?_)
 refine Z3 ?_
 refine aH ?_
 revert H; refine is (fun c16 H => ?_) fun c16 H => ?_
 refine Z3 ?_
 refine aH ?_
 revert H; refine B2 fun y38 h44 H => ?_
 refine Z8 ?_
 refine bJ ?_
 refine bJ ?_
 refine bJ ?_
 refine bJ ?_
 refine wU (x := (⟨(⟨x65, x66, x67, x68⟩ : ScopeProg), x69, x70, x71⟩ : Scope_looker)) ?_
 revert H; refine bs fun y39 h45 H => ?_
 rcases y39 with y39 | pv20 <;> dsimp only at H
 refine Tc (ih_scope_looker_node _ _ _ _ _ h45).s ?_
 refine xD (fun v34 v35 v36 => ?_)
 refine aW 1 rfl (fun hc_v34 => ?_)
 refine aW 2 rfl (fun hc_v35 => ?_)
 refine aW 3 rfl (fun hc_v36 => ?_)
 revert H; refine B4 fun z6 h46 H => ?_
 refine Z3 ?_
 refine aI [4, 0, 1, 2, 3] (by decide) ?_
 exact Tm ((k4, z6, y39.p.Free, y39.p.Nodes, y39.p.Defs, y39.p.Main, y39.sizes, y39.met, y39.defs, v34, v35, v36)) ⟨H, ls⟩
 refine Tp (ih_scope_looker_node _ _ _ _ _ h45).pan ?_
 refine Z4 ?_
 cases H
 exact bZ
 refine Z5 ?_
 refine bJ ?_
 refine bJ ?_
 refine bJ ?_
 refine bJ ?_
 refine wU (x := (⟨(⟨x65, x66, x67, x68⟩ : ScopeProg), x69, x70, x71⟩ : Scope_looker)) ?_
 cases H
 refine pW ?_
 refine aI [0] (by decide) ?_
 exact fI (.inr rfl) rfl rfl
 refine Tp (bA _ _ h27).pan ?_
 refine Z1 ?_
 cases H
 exact bZ
 exact fk
 kernel_rfl
end Go.Proofs.Ytmnbfgeljmhekaa
set_option maxRecDepth 100000
set_option maxHeartbeats 2000000
namespace Go.Proofs.Ytmnbfgeljmhekaa
open Go.SX Go.SW Go.Dt
attribute [local irreducible] Code.wpIn wpListIn Exit.then Exit.inBlock
def pR (a0 : List Bool) (a1 : Bool) : Nat → Int → Option ((Unit) ⊕ (Int))
| 0, _ => none
| k + 1, x2 =>
 if x2 < (a0.length : Int) then
  (idx a0 x2).bind fun y1 =>
  bif a1 == y1 then
   (some x2).bind fun r => some (Sum.inr r)
  else
   (chk (x2 + 1)).bind fun z1 =>
   pR a0 a1 k z1
 else
  some (Sum.inl ())
def yM (fuel : Nat) (a0 : List Bool) (a1 : Bool) : Option (Int) :=
 (pR a0 a1 fuel 0).bind fun o => match o with
 | Sum.inr r => some r
 | Sum.inl _ =>
 some (-1)
theorem aGe (fuel : Nat)  (a0 : List Bool) (a1 : Bool) (r : Int) (H : yM fuel a0 a1 = some r) : FnS Try.prog 99 [fSl cE a0, aG a1] [] (aA .i64 r) (fun _ => []) := by
 unfold yM at H
 refine bF Try.func99 rfl Try.ntmps99 rfl (fun β => ?_)
 revert H; refine B3 fun o1 H Hr1 => ?_
 refine aX (ι := Unit) (fun i => o1 = Sum.inl ()) (fun i => []) (fun i => []) ?_ ?_
 refine Z6 ?_
 refine Tl (ι := Nat × Int) (fun i => pR a0 a1 i.1 i.2 = _) (fun i => i.1) (fun i => [(0, fSl cE a0), (1, aG a1), (7, aA .i64 (a0.length : Int)), (8, aA .i64 i.2)]) (fun i => []) (fuel, 0) H ?_
 clear H; rintro ⟨k1, x2⟩ H
 replace H : pR a0 a1 k1 x2 = _ := H
 try dsimp only
 obtain _ | k1 := k1
 rw [pR] at H; cases H
 rw [pR] at H
 refine Z3 ?_
 refine aH ?_
 revert H; refine is (fun c1 H => ?_) fun c1 H => ?_
 refine Z3 ?_
 refine aH ?_
 revert H; refine B9 fun y1 h1 H => ?_
 refine Z2 ?_
 refine Yy (o_eqlB rfl hh hh aIO) ?_
 refine Z1 ?_
 revert H; refine cs (fun c2 H => ?_) fun c2 H => ?_
 revert H; refine B11 fun r1 H e1 => ?_
 cases e1; cases Hr1
 cases H
 exact To
 revert H; refine B5 fun z1 h2 H => ?_
 refine Z3 ?_
 exact Tm ((k1, z1)) ⟨H, ls⟩
 refine Z6 ?_
 exact Tm (()) (ij H)
 clear H; intro i hi; subst o1; have H := Hr1; clear Hr1; try dsimp only at H
 try dsimp only
 refine Z4 ?_
 cases H
 exact To
def vT (fuel : Nat) (a0 : List Bool) (a1 : Bool) : Option (Bool) :=
 (yM fuel a0 a1).bind fun y1 =>
 some (decide (0 ≤ y1))
theorem aC0 (fuel : Nat)  (a0 : List Bool) (a1 : Bool) (r : Bool) (H : vT fuel a0 a1 = some r) : FnS Try.prog 87 [fSl cE a0, aG a1] [] (aG r) (fun _ => []) := by
 unfold vT at H
 refine bF Try.func87 rfl Try.ntmps87 rfl (fun β => ?_)
 revert H; refine B6 fun y1 h1 H => ?_
 refine Tc (aGe _ _ _ _ h1) ?_
 refine Z4 ?_
 cases H
 exact To
def nA (fuel : Nat) (a0 : ScopeProg) : Nat → Int → Option ((Unit) ⊕ (Scope_looker ⊕ Value))
| 0, _ => none
| k + 1, x2 =>
 if x2 < (a0.Free.length : Int) then
  ((idx a0.Free x2).bind fun y4 =>
  (rO fuel y4).bind fun y5 =>
  bif y5 then
   if x2 = 0 then
    (bT true).bind fun y6 =>
    match y6 with
    | Sum.inr pv4 => ((some (Sum.inr pv4)).bind fun r => some (Sum.inr r)).bind fun r => some (Sum.inr r)
    | Sum.inl y6 =>
    some (Sum.inl ())
   else
    (chk (x2 - 1)).bind fun z1 =>
    (idx a0.Free z1).bind fun y7 =>
    (bT (slt y7 y4)).bind fun y8 =>
    match y8 with
    | Sum.inr pv5 => ((some (Sum.inr pv5)).bind fun r => some (Sum.inr r)).bind fun r => some (Sum.inr r)
    | Sum.inl y8 =>
    some (Sum.inl ())
  else
   (bT false).bind fun y9 =>
   match y9 with
   | Sum.inr pv6 => ((some (Sum.inr pv6)).bind fun r => some (Sum.inr r)).bind fun r => some (Sum.inr r)
   | Sum.inl y9 =>
   some (Sum.inl ())).bind fun o => match o with
  | Sum.inr r => some r
  | Sum.inl _ =>
  (chk (x2 + 1)).bind fun z2 =>
  nA fuel a0 k z2
 else
  some (Sum.inl ())
def sS (fuel : Nat) (a0 : ScopeProg) : Option (Scope_looker ⊕ Value) :=
 (if (a0.Free.length : Int) ≤ 12 then
  if (a0.Nodes.length : Int) ≤ 60 then
   (bT (decide ((a0.Defs.length : Int) ≤ 12))).bind fun y1 =>
   match y1 with
   | Sum.inr pv1 => (some (Sum.inr pv1)).bind fun r => some (Sum.inr r)
   | Sum.inl y1 =>
   some (Sum.inl ())
  else
   (bT false).bind fun y2 =>
   match y2 with
   | Sum.inr pv2 => (some (Sum.inr pv2)).bind fun r => some (Sum.inr r)
   | Sum.inl y2 =>
   some (Sum.inl ())
 else
  (bT false).bind fun y3 =>
  match y3 with
  | Sum.inr pv3 => (some (Sum.inr pv3)).bind fun r => some (Sum.inr r)
  | Sum.inl y3 =>
  some (Sum.inl ())).bind fun o => match o with
 | Sum.inr r => some r
 | Sum.inl _ =>
 (nA fuel a0 fuel 0).bind fun o => match o with
 | Sum.inr r => some r
 | Sum.inl _ =>
 (mk 0 (a0.Nodes.length : Int)).bind fun y10 =>
 (mk false (a0.Nodes.length : Int)).bind fun y11 =>
 (mk false (a0.Defs.length : Int)).bind fun y12 =>
 (fC fuel (⟨(⟨a0.Free, a0.Nodes, a0.Defs, a0.Main⟩ : ScopeProg), y10, y11, y12⟩ : Scope_looker) a0.Main (a0.Free.length : Int)).bind fun y13 =>
 match y13 with
 | Sum.inr pv7 => some (Sum.inr pv7)
 | Sum.inl y13 =>
 ((vT fuel y13.met false).bind fun y14 =>
 bif !y14 then
  (vT fuel y13.defs false).bind fun y15 =>
  (bT (!y15)).bind fun y16 =>
  match y16 with
  | Sum.inr pv8 => (some (Sum.inr pv8)).bind fun r => some (Sum.inr r)
  | Sum.inl y16 =>
  some (Sum.inl y13.defs)
 else
  (bT false).bind fun y17 =>
  match y17 with
  | Sum.inr pv9 => (some (Sum.inr pv9)).bind fun r => some (Sum.inr r)
  | Sum.inl y17 =>
  some (Sum.inl y13.defs)).bind fun o => match o with
 | Sum.inr r => some r
 | Sum.inl x3 =>
 some (Sum.inl (⟨(⟨y13.p.Free, y13.p.Nodes, y13.p.Defs, y13.p.Main⟩ : ScopeProg), y13.sizes, y13.met, x3⟩ : Scope_looker))
theorem zK (fuel : Nat)  (a0 : ScopeProg) (r : Scope_looker ⊕ Value) (H : sS fuel a0 = some r) : FnE Try.prog 73 [fSt dM a0] [] r (fun r => aF jR r) (fun r => []) := by
 unfold sS at H
 refine rI Try.func73 rfl Try.ntmps73 rfl (fun β => ?_)
 refine Z1 ?_
 refine aT trivial rfl rfl (cG rfl (has rfl) bO) (fun b1 => ?_)
 revert H; refine B2 fun o1 H Hr1 => ?_
 refine aX (ι := Unit) (fun i => o1 = Sum.inl ()) (fun i => [(1, fEq (ptr b1))]) (fun i => [aC b1 26 [fSl aN a0.Free, fSl aM a0.Nodes, fSl aK a0.Defs, aA .i64 a0.Main]]) ?_ ?_
 revert H; refine I6 (fun c1 H => ?_) fun c1 H => ?_
 revert H; refine I6 (fun c2 H => ?_) fun c2 H => ?_
 revert H; refine B5 fun y1 h1 H => ?_
 rcases y1 with y1 | pv1 <;> dsimp only at H
 refine Tc (bA _ _ h1).s ?_
 refine Z1 ?_
 exact Tm (()) (ij H)
 refine Tp (bA _ _ h1).pan ?_
 revert H; refine B1 fun r1 H e1 => ?_
 cases e1; cases Hr1
 cases H
 exact bZ
 revert H; refine B5 fun y2 h2 H => ?_
 rcases y2 with y2 | pv2 <;> dsimp only at H
 refine Tc (bA _ _ h2).s ?_
 refine Z1 ?_
 exact Tm (()) (ij H)
 refine Tp (bA _ _ h2).pan ?_
 revert H; refine B1 fun r2 H e2 => ?_
 cases e2; cases Hr1
 cases H
 exact bZ
 revert H; refine B11 fun y3 h3 H => ?_
 rcases y3 with y3 | pv3 <;> dsimp only at H
 refine Tc (bA _ _ h3).s ?_
 refine Z1 ?_
 exact Tm (()) (ij H)
 refine Tp (bA _ _ h3).pan ?_
 revert H; refine B1 fun r3 H e3 => ?_
 cases e3; cases Hr1
 cases H
 exact bZ
 clear H; intro i hi; subst o1; have H := Hr1; clear Hr1; try dsimp only at H
 try dsimp only
 revert H; refine bs fun o2 H Hr2 => ?_
 refine aX (ι := Unit) (fun i => o2 = Sum.inl ()) (fun i => [(1, fEq (ptr b1))]) (fun i => [aC b1 26 [fSl aN a0.Free, fSl aM a0.Nodes, fSl aK a0.Defs, aA .i64 a0.Main]]) ?_ ?_
 refine Z7 ?_
 refine Tl (ι := Nat × Int) (fun i => nA fuel a0 i.1 i.2 = _) (fun i => i.1) (fun i => [(1, fEq (ptr b1)), (24, fSl aN a0.Free), (25, aA .i64 (a0.Free.length : Int)), (26, aA .i64 i.2)]) (fun i => [aC b1 26 [fSl aN a0.Free, fSl aM a0.Nodes, fSl aK a0.Defs, aA .i64 a0.Main]]) (fuel, 0) H ?_
 clear H; rintro ⟨k1, x2⟩ H
 replace H : nA fuel a0 k1 x2 = _ := H
 try dsimp only
 obtain _ | k1 := k1
 rw [nA] at H; cases H
 rw [nA] at H
 refine Z3 ?_
 refine aH ?_
 revert H; refine is (fun c3 H => ?_) fun c3 H => ?_
 revert H; refine B3 fun o3 H Hr3 => ?_
 refine aX (ι := Unit) (fun i => o3 = Sum.inl ()) (fun i => [(1, fEq (ptr b1)), (24, fSl aN a0.Free), (25, aA .i64 (a0.Free.length : Int)), (26, aA .i64 x2)]) (fun i => [aC b1 26 [fSl aN a0.Free, fSl aM a0.Nodes, fSl aK a0.Defs, aA .i64 a0.Main]]) ?_ ?_
 revert H; refine B3 fun y4 h4 H => ?_
 revert H; refine B7 fun y5 h5 H => ?_
 refine Tc (aF2 _ _ _ h5) ?_
 refine Z1 ?_
 revert H; refine cs (fun c4 H => ?_) fun c4 H => ?_
 revert H; refine I3 (fun c5 H => ?_) fun c5 H => ?_
 revert H; refine B10 fun y6 h6 H => ?_
 rcases y6 with y6 | pv4 <;> dsimp only at H
 refine Tc (bA _ _ h6).s ?_
 refine Z3 ?_
 exact Tm (()) (ij H)
 refine Tp (bA _ _ h6).pan ?_
 revert H; refine B2 fun r4 H e4 => ?_
 cases e4; cases Hr3
 revert H; refine B3 fun r5 H e5 => ?_
 cases e5; cases Hr2
 cases H
 exact bZ
 revert H; refine B3 fun z1 h7 H => ?_
 revert H; refine B1 fun y7 h8 H => ?_
 refine Z3 ?_
 refine Yg c5 (o_lssS rfl hh hh) ?_
 revert H; refine B2 fun y8 h9 H => ?_
 rcases y8 with y8 | pv5 <;> dsimp only at H
 refine Tc (bA _ _ h9).s ?_
 refine Z3 ?_
 exact Tm (()) (ij H)
 refine Tp (bA _ _ h9).pan ?_
 revert H; refine B2 fun r6 H e6 => ?_
 cases e6; cases Hr3
 revert H; refine B3 fun r7 H e7 => ?_
 cases e7; cases Hr2
 cases H
 exact bZ
 refine Z3 ?_
 refine dO (⟨_, _, _, _, rfl, rfl, rfl, nu⟩) rfl rfl ?_
 refine dO (⟨_, _, _, _, rfl, rfl, rfl, nu⟩) rfl rfl ?_
 refine dO (⟨_, _, _, _, rfl, rfl, rfl, nu⟩) rfl rfl ?_
 refine dO (⟨_, _, _, _, rfl, rfl, rfl, nu⟩) rfl rfl ?_
 refine dO (⟨_, _, _, _, rfl, rfl, rfl, nu⟩) rfl rfl ?_
 refine dO (⟨_, _, _, _, rfl, rfl, rfl, nu⟩) rfl rfl ?_
 refine dO (⟨_, _, _, _, rfl, rfl, rfl, nu⟩) rfl rfl ?_
 refine dO (⟨_, _, _, _, rfl, rfl, rfl, nu⟩) rfl rfl ?_
 revert H; refine B2 fun y9 h10 H => ?_
 rcases y9 with y9 | pv6 <;> dsimp only at H
 refine Tc (bA _ _ h10).s ?_
 refine Z3 ?_
 exact Tm (()) (ij H)
 refine Tp (bA _ _ h10).pan ?_
 revert H; refine B2 fun r8 H e8 => ?_
 cases e8; cases Hr3
 revert H; refine B3 fun r9 H e9 => ?_
 cases e9; cases Hr2
 cases H
 exact bZ
 clear H; intro i hi; subst o3; have H := Hr3; clear Hr3; try dsimp only at H
 try dsimp only
 revert H; refine B1 fun z2 h11 H => ?_
 refine Z3 ?_
 exact Tm ((k1, z2)) ⟨H, ls⟩
 refine Z6 ?_
 exact Tm (()) (ij H)
 clear H; intro i hi; subst o2; have H := Hr2; clear Hr2; try dsimp only at H
 try dsimp only
 refine aH ?_
 revert H; refine bs fun y10 h12 H => ?_
 revert H; refine bs fun y11 h13 H => ?_
 revert H; refine bs fun y12 h14 H => ?_
 apply bI (ods := [_, _, _, _, _, _, _, _, _, _, _, _, _, _, _, _]) 16 4 5 bH rfl rfl rfl
 refine ND ?_
 refine M4 ?_
 intros
 refine Mn 1 (fun b2 => .slice (some ⟨b2, 0, none⟩) y10.length y10.length) (fun b2 => aE (.slice (some ⟨b2, 0, none⟩) y10.length y10.length) 3 (aB .i64) y10) rfl (lW (t := (aB .i64)) (z := 0) rfl (has rfl) (et rfl) rfl sH rfl h12) (fun b2 u1 => ?_)
 refine M3 ?_
 intros
 refine Mn 2 (fun b3 => .slice (some ⟨b3, 0, none⟩) y11.length y11.length) (fun b3 => aE (.slice (some ⟨b3, 0, none⟩) y11.length y11.length) 4 cE y11) rfl (lW (t := cE) (z := false) rfl (has rfl) (et rfl) rfl aCs rfl h13) (fun b3 u2 => ?_)
 refine M3 ?_
 intros
 refine Mn 3 (fun b4 => .slice (some ⟨b4, 0, none⟩) y12.length y12.length) (fun b4 => aE (.slice (some ⟨b4, 0, none⟩) y12.length y12.length) 4 cE y12) rfl (lW (t := cE) (z := false) rfl (has rfl) (et rfl) rfl aCs rfl h14) (fun b4 u3 => ?_)
 refine N_y (od := od3 4 8 12 [] false (fun b2 _ b3 _ b4 _ => fD [fSl aN a0.Free, fSl aM a0.Nodes, fSl aK a0.Defs, aA .i64 a0.Main, fEq (.slice (some ⟨b2, 0, none⟩) y10.length y10.length), fEq (.slice (some ⟨b3, 0, none⟩) y11.length y11.length), fEq (.slice (some ⟨b4, 0, none⟩) y12.length y12.length)]) (fun b2 _ b3 _ b4 _ => [])) (φ := fD [fSl aN a0.Free, fSl aM a0.Nodes, fSl aK a0.Defs, aA .i64 a0.Main, fEq (.slice (some ⟨b2, 0, none⟩) y10.length y10.length), fEq (.slice (some ⟨b3, 0, none⟩) y11.length y11.length), fEq (.slice (some ⟨b4, 0, none⟩) y12.length y12.length)]) rfl (fun _ => rfl) trivial rfl (dR (ψs := [fSl aN a0.Free, fSl aM a0.Nodes, fSl aK a0.Defs, aA .i64 a0.Main, fEq (.slice (some ⟨b2, 0, none⟩) y10.length y10.length), fEq (.slice (some ⟨b3, 0, none⟩) y11.length y11.length), fEq (.slice (some ⟨b4, 0, none⟩) y12.length y12.length)]) rfl aGv rfl (aU.cons (has rfl) bO (aU.cons (has rfl) (aS (aD trivial)) (aU.cons (has rfl) (aS (aD trivial)) (aU.cons (has rfl) (aS (aD trivial)) aU.nil)))) rfl) (fun _ => ?_)
 refine N_new (od := odN3 4 8 12 [4] true (fun b2 _ b3 _ b4 _ b5 _ => fEq (ptr b5)) (fun b2 _ b3 _ b4 _ b5 _ => [aC b5 137 [fSl aN a0.Free, fSl aM a0.Nodes, fSl aK a0.Defs, aA .i64 a0.Main, fEq (.slice (some ⟨b2, 0, none⟩) y10.length y10.length), fEq (.slice (some ⟨b3, 0, none⟩) y11.length y11.length), fEq (.slice (some ⟨b4, 0, none⟩) y12.length y12.length)]])) (p := 4) (f := fun b5 => ptr b5) (τ := fun b5 => aC b5 137 [fSl aN a0.Free, fSl aM a0.Nodes, fSl aK a0.Defs, aA .i64 a0.Main, fEq (.slice (some ⟨b2, 0, none⟩) y10.length y10.length), fEq (.slice (some ⟨b3, 0, none⟩) y11.length y11.length), fEq (.slice (some ⟨b4, 0, none⟩) y12.length y12.length)]) rfl (fun _ => rfl) (fun _ => rfl) trivial rfl rfl (cG rfl (has rfl) bO) (fun b5 u4 => ?_)
 refine D1 14 b5 _ (fun b5 _ => fEq (ptr b5)) rfl (aAD rfl hh) (fun _ => ?_)
 refine Z1 ?_
 generalize hv_v1 : (Value.slice (some ⟨b2, 0, none⟩) _ _) = v1; clear hv_v1
 refine aW 1 rfl (fun hc_v1 => ?_)
 generalize hv_v2 : (Value.slice (some ⟨b3, 0, none⟩) _ _) = v2; clear hv_v2
 refine aW 2 rfl (fun hc_v2 => ?_)
 generalize hv_v3 : (Value.slice (some ⟨b4, 0, none⟩) _ _) = v3; clear hv_v3
 refine aW 3 rfl (fun hc_v3 => ?_)
 refine Z8 ?_
 refine eD ?_
 refine eD ?_
 refine eD ?_
 refine bJ ?_
 refine wU (x := (⟨(⟨a0.Free, a0.Nodes, a0.Defs, a0.Main⟩ : ScopeProg), y10, y11, y12⟩ : Scope_looker)) ?_
 revert H; refine bs fun y13 h15 H => ?_
 rcases y13 with y13 | pv7 <;> dsimp only at H
 refine Tc (aEj _ _ _ _ _ _ h15).s ?_
 refine xD (fun v4 v5 v6 => ?_)
 refine aW 1 rfl (fun hc_v4 => ?_)
 refine aW 2 rfl (fun hc_v5 => ?_)
 refine aW 3 rfl (fun hc_v6 => ?_)
 revert H; refine B1 fun o4 H Hr4 => ?_
 refine aX (ι := List Bool) (fun i => o4 = Sum.inl i) (fun i => [(5, fEq (ptr b5))]) (fun i => [aC b5 137 [fSl aN y13.p.Free, fSl aM y13.p.Nodes, fSl aK y13.p.Defs, aA .i64 y13.p.Main, fEq v4, fSl cE y13.met, fSl cE i], aC b1 26 [fSl aN a0.Free, fSl aM a0.Nodes, fSl aK a0.Defs, aA .i64 a0.Main], aE v4 3 (aB .i64) y13.sizes]) ?_ ?_
 refine Z5 ?_
 refine eI ?_
 refine cW (φ := fSl cE y13.met) (v := v5) [74] cT (by intro s hs; simp only [List.mem_cons, List.not_mem_nil, or_false] at hs; rcases hs with rfl <;> rfl) ?_
 refine iG (φs' := [fSl aN y13.p.Free, fSl aM y13.p.Nodes, fSl aK y13.p.Defs, aA .i64 y13.p.Main, fEq v4, fSl cE y13.met, fEq v6]) (i := 5) rfl rfl ?_
 refine cY ?_
 revert H; refine bs fun y14 h16 H => ?_
 refine Tc (aC0 _ _ _ _ h16) ?_
 refine Z2 ?_
 revert H; refine cs (fun c6 H => ?_) fun c6 H => ?_
 refine Z4 ?_
 refine eI ?_
 refine cW (φ := fSl cE y13.defs) (v := v6) [81] cT (by intro s hs; simp only [List.mem_cons, List.not_mem_nil, or_false] at hs; rcases hs with rfl <;> rfl) ?_
 refine iG (φs' := [fSl aN y13.p.Free, fSl aM y13.p.Nodes, fSl aK y13.p.Defs, aA .i64 y13.p.Main, fEq v4, fSl cE y13.met, fSl cE y13.defs]) (i := 6) rfl rfl ?_
 refine cY ?_
 revert H; refine bs fun y15 h17 H => ?_
 refine Tc (aC0 _ _ _ _ h17) ?_
 revert H; refine B2 fun y16 h18 H => ?_
 rcases y16 with y16 | pv8 <;> dsimp only at H
 refine Tc (bA _ _ h18).s ?_
 refine Z1 ?_
 refine aI [0, 2, 1] (by decide) ?_
 exact Tm (y13.defs) (ij H)
 refine Tp (bA _ _ h18).pan ?_
 revert H; refine B1 fun r10 H e10 => ?_
 cases e10; cases Hr4
 cases H
 exact bZ
 revert H; refine B7 fun y17 h19 H => ?_
 rcases y17 with y17 | pv9 <;> dsimp only at H
 refine Tc (bA _ _ h19).s ?_
 refine Z1 ?_
 refine eI ?_
 refine cW (φ := fSl cE y13.defs) (v := v6) [] cT (fun _ h => nomatch h) ?_
 refine iG (φs' := [fSl aN y13.p.Free, fSl aM y13.p.Nodes, fSl aK y13.p.Defs, aA .i64 y13.p.Main, fEq v4, fSl cE y13.met, fSl cE y13.defs]) (i := 6) rfl rfl ?_
 refine cY ?_
 refine aI [0, 2, 1] (by decide) ?_
 exact Tm (y13.defs) (ij H)
 refine Tp (bA _ _ h19).pan ?_
 revert H; refine B1 fun r11 H e11 => ?_
 cases e11; cases Hr4
 cases H
 exact bZ
 clear H; intro x3 hi; subst o4; have H := Hr4; clear Hr4; try dsimp only at H
 try dsimp only
 refine Z5 ?_
 refine eI ?_
 refine cW (φ := fSl (aB .i64) y13.sizes) (v := v4) [] cT (fun _ h => nomatch h) ?_
 refine iG (φs' := [fSl aN y13.p.Free, fSl aM y13.p.Nodes, fSl aK y13.p.Defs, aA .i64 y13.p.Main, fSl (aB .i64) y13.sizes, fSl cE y13.met, fSl cE x3]) (i := 4) rfl rfl ?_
 refine cY ?_
 refine cW (φ := aF jR (⟨(⟨y13.p.Free, y13.p.Nodes, y13.p.Defs, y13.p.Main⟩ : ScopeProg), y13.sizes, y13.met, x3⟩ : Scope_looker)) (v := ptr b5) [5, 86, 2] (hZ aL.rfl) (by intro s hs; simp only [List.mem_cons, List.not_mem_nil, or_false] at hs; rcases hs with rfl | rfl | rfl <;> rfl) ?_
 refine cY ?_
 cases H
 refine pW ?_
 refine aI [] (by decide) ?_
 exact To
 refine Tp (aEj _ _ _ _ _ _ h15).pan ?_
 refine Z1 ?_
 cases H
 exact bZ
 exact fk
 kernel_rfl
def aAX (fuel : Nat) (a0 : ScopeProg) (a1 : Scope_looker → Option Bool) : Option (Bool × Int) :=
 (sS fuel (⟨a0.Free, a0.Nodes, a0.Defs, a0.Main⟩ : ScopeProg)).bind fun y1 =>
 match y1 with
 | Sum.inr pv1 => (unI 149 pv1).bind fun e1 => some (false, e1)
 | Sum.inl y1 =>
 (a1 y1).bind fun y2 =>
 some (y2, 0)
theorem aIs (fuel : Nat)  (a0 : ScopeProg) (a1 : Scope_looker → Option Bool) (r : Bool × Int) (H : aAX fuel a0 a1 = some r) : FnS Try.prog 49 [fSt dM a0, fFn Try.prog (fun (x : Scope_looker) => [aF jR x]) (fun (r : Bool) => aG r) a1] [] (dH [aG r.1, aA .i64 r.2]) (fun _ => []) := by
 unfold aAX at H
 refine vS Try.func49 rfl Try.ntmps49 rfl (fun β => ?_)
 refine Z1 ?_
 refine aT trivial rfl rfl (cG rfl (has rfl) bO) (fun b1 => ?_)
 refine Z1 ?_
 refine aT trivial rfl rfl (cN rfl aEF rfl) (fun b2 => ?_)
 refine Z2 ?_
 refine aE1 trivial rfl rfl (iH.cons (has rfl) iH.nil) ?_
 revert H; refine B4 fun y1 h1 H => ?_
 rcases y1 with y1 | pv1 <;> dsimp only at H
 refine Tc (zK _ _ _ h1).s ?_
 revert H; refine bs fun y2 h2 H => ?_
 refine uF y1 trivial rfl rfl rfl (has rfl) (aJ.cons (has rfl) aJ.nil) h2 ?_
 refine Z1 ?_
 refine dI (φs' := [aA .i64 0]) trivial rfl rfl (has rfl) (has rfl) (aD trivial) (sz rfl) rfl rfl ?_
 refine Z2 ?_
 cases H
 refine aI [0] (by decide) ?_
 exact aDd (zO (u := .returning) (by simp) rfl (bQ rfl) rfl (sc rfl) (cb rfl) (aEc b2 0) rfl rfl)
 refine Tp (zK _ _ _ h1).pan ?_
 refine Z1 ?_
 have H0 := H; clear H; obtain ⟨e1, h3, H⟩ := bind_some H0; clear H0; have hv_e1 := aDV h3; subst hv_e1
 cases H
 refine aI [0] (by decide) ?_
 exact aEt (zO (u := .panicking [{ v := .iface 149 (.agg #[.int .i64 e1]), recovered := false }]) (by simp) rfl (bQ rfl) rfl (sc rfl) (cb rfl) (aC6 b2 0 e1) rfl rfl)
def aAa (a0 : Scope_looker) : Option (Bool) :=
 some true
theorem aHs  (a0 : Scope_looker) (r : Bool) (H : aAa a0 = some r) : FnS Try.prog 50 [aF jR a0] [] (aG r) (fun _ => []) := by
 unfold aAa at H
 refine bF Try.func50 rfl Try.ntmps50 rfl (fun β => ?_)
 refine Z7 ?_
 cases H
 exact To
def rE (fuel : Nat) (a0 : ScopeProg) : Option (Int) :=
 (aAX fuel (⟨a0.Free, a0.Nodes, a0.Defs, a0.Main⟩ : ScopeProg) (fun x => aAa x)).bind fun y1 =>
 some y1.2
theorem aBA (fuel : Nat)  (a0 : ScopeProg) (r : Int) (H : rE fuel a0 = some r) : FnS Try.prog 21 [fSt dM a0] [] (aA .i64 r) (fun _ => []) := by
 unfold rE at H
 refine bF Try.func21 rfl Try.ntmps21 rfl (fun β => ?_)
 refine Z1 ?_
 refine aT trivial rfl rfl (cG rfl (has rfl) bO) (fun b1 => ?_)
 revert H; refine B4 fun y1 h1 H => ?_
 refine gU trivial rfl rfl rfl (has rfl) (aJ.cons (has rfl) (aJ.cons (dA rfl (mT (cb rfl) (fun x r hx => aHs x r hx))) aJ.nil)) rfl (cb rfl) (aIs fuel (⟨a0.Free, a0.Nodes, a0.Defs, a0.Main⟩ : ScopeProg) (fun x => aAa x) y1 h1) rfl ?_
 refine Z11 ?_
 cases H
 refine aI [] (by decide) ?_
 exact To
def zM (fuel : Nat) (a0 : ScopeProg) (a1 : Scope_looker → Option (List Int)) : Option ((List Int) × Int) :=
 (sS fuel (⟨a0.Free, a0.Nodes, a0.Defs, a0.Main⟩ : ScopeProg)).bind fun y1 =>
 match y1 with
 | Sum.inr pv1 => (unI 149 pv1).bind fun e1 => some ([], e1)
 | Sum.inl y1 =>
 (a1 y1).bind fun y2 =>
 some (y2, 0)
theorem aIj (fuel : Nat)  (a0 : ScopeProg) (a1 : Scope_looker → Option (List Int)) (r : (List Int) × Int) (H : zM fuel a0 a1 = some r) : FnS Try.prog 88 [fSt dM a0, fFn Try.prog (fun (x : Scope_looker) => [aF jR x]) (fun (r : List Int) => fSl (aB .i64) r) a1] [] (dH [fSl (aB .i64) r.1, aA .i64 r.2]) (fun _ => []) := by
 unfold zM at H
 refine vS Try.func88 rfl Try.ntmps88 rfl (fun β => ?_)
 refine Z1 ?_
 refine aT trivial rfl rfl (cG rfl (has rfl) bO) (fun b1 => ?_)
 refine Z1 ?_
 refine aT trivial rfl rfl (cN rfl aEF rfl) (fun b2 => ?_)
 refine Z2 ?_
 refine aE1 trivial rfl rfl (iH.cons (has rfl) iH.nil) ?_
 revert H; refine B4 fun y1 h1 H => ?_
 rcases y1 with y1 | pv1 <;> dsimp only at H
 refine Tc (zK _ _ _ h1).s ?_
 revert H; refine bs fun y2 h2 H => ?_
 refine uF y1 trivial rfl rfl rfl (has rfl) (aJ.cons (has rfl) aJ.nil) h2 ?_
 refine Z1 ?_
 refine dI (φs' := [aA .i64 0]) trivial rfl rfl (has rfl) (has rfl) (aD trivial) (sz rfl) rfl rfl ?_
 refine Z2 ?_
 cases H
 refine aI [0] (by decide) ?_
 exact aDd (zO (u := .returning) (by simp) rfl (bQ rfl) rfl (sc rfl) (cb rfl) (aEc b2 0) rfl rfl)
 refine Tp (zK _ _ _ h1).pan ?_
 refine Z1 ?_
 have H0 := H; clear H; obtain ⟨e1, h3, H⟩ := bind_some H0; clear H0; have hv_e1 := aDV h3; subst hv_e1
 cases H
 refine aI [0] (by decide) ?_
 exact aEt (zO (u := .panicking [{ v := .iface 149 (.agg #[.int .i64 e1]), recovered := false }]) (by simp) rfl (kD rfl eJ) rfl (sc rfl) (cb rfl) (aC6 b2 0 e1) rfl rfl)
def mG (a0 : Scope_looker) (w0 : ScopeProg) (w1 : Scope_looker × Int → Option Int) : Nat → (List Int) → Int → Option (List Int)
| 0, _, _ => none
| k + 1, x4, x5 =>
 if x5 < (w0.Nodes.length : Int) then
  (w1 (a0, x5)).bind fun y1 =>
  (dU (x4 ++ [y1])).bind fun z1 =>
  (chk (x5 + 1)).bind fun z2 =>
  mG a0 w0 w1 k z1 z2
 else
  some x4
def yD (fuel : Nat) (a0 : Scope_looker) (w0 : ScopeProg) (w1 : Scope_looker × Int → Option Int) : Option (List Int) :=
 (mG a0 w0 w1 fuel [] 0).bind fun x1 =>
 some x1
theorem aIF (fuel : Nat)  (a0 : Scope_looker) (w0 : ScopeProg) (w1 : Scope_looker × Int → Option Int) (r : List Int) (H : yD fuel a0 w0 w1 = some r) : FnS Try.prog 89 [aF jR a0, aF dM w0, aF (tFn Try.prog (fun (x : Scope_looker × Int) => [aF jR x.1, aA .i64 x.2]) (fun (r : Int) => aA .i64 r)) w1] [] (fSl (aB .i64) r) (fun _ => []) := by
 unfold yD at H
 refine bF Try.func89 rfl Try.ntmps89 rfl (fun β => ?_)
 revert H; refine B6 fun o1 H Hr1 => ?_
 refine aX (ι := List Int × Value) (fun i => o1 = i.1) (fun i => [(5, fEq i.2)]) (fun i => [aE i.2 3 (aB .i64) i.1]) ?_ ?_
 refine Z7 ?_
 refine xS (aB .i64) 3 ?_
 refine Tl (ι := Nat × List Int × Int × Value) (fun i => mG a0 w0 w1 i.1 i.2.1 i.2.2.1 = _) (fun i => i.1) (fun i => [(0, aF jR a0), (2, aF (tFn Try.prog (fun (x : Scope_looker × Int) => [aF jR x.1, aA .i64 x.2]) (fun (r : Int) => aA .i64 r)) w1), (5, fEq i.2.2.2), (9, aA .i64 (w0.Nodes.length : Int)), (10, aA .i64 i.2.2.1)]) (fun i => [aE i.2.2.2 3 (aB .i64) i.2.1]) (fuel, [], 0, (.slice none 0 0)) H ?_
 clear H; rintro ⟨k1, x4, x5, v3⟩ H
 replace H : mG a0 w0 w1 k1 x4 x5 = _ := H
 try dsimp only
 obtain _ | k1 := k1
 rw [mG] at H; cases H
 rw [mG] at H
 refine aW 0 rfl (fun hc_v3 => ?_)
 refine Z3 ?_
 refine aH ?_
 revert H; refine is (fun c1 H => ?_) fun c1 H => ?_
 refine Z3 ?_
 refine aH ?_
 revert H; refine B10 fun y1 h1 H => ?_
 refine uF (a0, x5) trivial rfl rfl rfl (has rfl) (aJ.cons (has rfl) (aJ.cons (has rfl) aJ.nil)) h1 ?_
 refine aT trivial rfl rfl (cS (t := (aB .i64)) (xs := [y1]) rfl (et rfl) (aR.cons rfl (has rfl) (aS (aD trivial)) aR.nil) rfl rfl rfl) (fun b1 => ?_)
 generalize hv_v4 : (Value.slice (some ⟨b1, 0, none⟩) _ _) = v4; clear hv_v4
 refine aW 0 rfl (fun hc_v4 => ?_)
 revert H; refine bs fun z1 h2 H => ?_
 refine aCE trivial rfl rfl rfl (has rfl) (has rfl) (et rfl) rfl h2 (fun v5 => ?_)
 refine aW 0 rfl (fun hc_v5 => ?_)
 revert H; refine B5 fun z2 h3 H => ?_
 refine Z3 ?_
 exact Tm ((k1, z1, z2, v5)) ⟨H, ls⟩
 refine Z6 ?_
 exact Tm ((x4, v3)) (ij H)
 clear H; intro i hi; obtain ⟨x1, v1⟩ := i; subst o1; have H := Hr1; clear Hr1; try dsimp only at H
 try dsimp only
 refine aW 0 rfl (fun hc_v1 => ?_)
 refine Z5 ?_
 refine cW (φ := fSl (aB .i64) x1) (v := v1) [5, 21, 4] cT (by intro s hs; simp only [List.mem_cons, List.not_mem_nil, or_false] at hs; rcases hs with rfl | rfl | rfl <;> rfl) ?_
 refine cY ?_
 cases H
 exact To
def zN (fuel : Nat) (a0 : ScopeProg) (a1 : Scope_looker × Int → Option Int) : Option ((List Int) × Int) :=
 (zM fuel (⟨a0.Free, a0.Nodes, a0.Defs, a0.Main⟩ : ScopeProg) (fun x => yD fuel x (⟨a0.Free, a0.Nodes, a0.Defs, a0.Main⟩ : ScopeProg) a1)).bind fun y1 =>
 some (y1.1, y1.2)
theorem aGV (fuel : Nat)  (a0 : ScopeProg) (a1 : Scope_looker × Int → Option Int) (r : (List Int) × Int) (H : zN fuel a0 a1 = some r) : FnS Try.prog 74 [fSt dM a0, fFn Try.prog (fun (x : Scope_looker × Int) => [aF jR x.1, aA .i64 x.2]) (fun (r : Int) => aA .i64 r) a1] [] (dH [fSl (aB .i64) r.1, aA .i64 r.2]) (fun _ => []) := by
 unfold zN at H
 refine bF Try.func74 rfl Try.ntmps74 rfl (fun β => ?_)
 refine Z1 ?_
 refine aT trivial rfl rfl (cG rfl (has rfl) bO) (fun b1 => ?_)
 refine aT trivial rfl rfl (cG rfl (has rfl) (aS (aBd))) (fun b2 => ?_)
 refine Z5 ?_
 refine dN ?_
 refine cW (φ := aF dM (⟨a0.Free, a0.Nodes, a0.Defs, a0.Main⟩ : ScopeProg)) (v := ptr b1) [2] (hZ aL.rfl) (by intro s hs; simp only [List.mem_cons, List.not_mem_nil, or_false] at hs; rcases hs with rfl <;> rfl) ?_
 refine cY ?_
 refine cW (φ := aF (tFn Try.prog (fun (x : Scope_looker × Int) => [aF jR x.1, aA .i64 x.2]) (fun (r : Int) => aA .i64 r)) a1) (v := ptr b2) [3] (hZ aL.rfl) (by intro s hs; simp only [List.mem_cons, List.not_mem_nil, or_false] at hs; rcases hs with rfl <;> rfl) ?_
 refine cY ?_
 refine Yy (uG rfl (aJ.cons hh (aJ.cons hh aJ.nil))) ?_
 revert H; refine bs fun y1 h1 H => ?_
 refine gU trivial rfl rfl rfl (has rfl) (aJ.cons (has rfl) (aJ.cons (dA rfl (ent_fn (cb rfl) (fun x r hx => aIF fuel x (⟨a0.Free, a0.Nodes, a0.Defs, a0.Main⟩ : ScopeProg) a1 r hx))) aJ.nil)) rfl (cb rfl) (aIj fuel (⟨a0.Free, a0.Nodes, a0.Defs, a0.Main⟩ : ScopeProg) (fun x => yD fuel x (⟨a0.Free, a0.Nodes, a0.Defs, a0.Main⟩ : ScopeProg) a1) y1 h1) rfl ?_
 refine Z6 ?_
 cases H
 exact gJ rfl (bQ rfl) (bQ rfl) rfl
def rB (a0 : Scope_looker) (a1 : Int) : Option (Int) :=
 (idx a0.sizes a1).bind fun y1 =>
 some y1
theorem aHC  (a0 : Scope_looker) (a1 : Int) (r : Int) (H : rB a0 a1 = some r) : FnS Try.prog 75 [aF jR a0, aA .i64 a1] [] (aA .i64 r) (fun _ => []) := by
 unfold rB at H
 refine bF Try.func75 rfl Try.ntmps75 rfl (fun β => ?_)
 revert H; refine B9 fun y1 h1 H => ?_
 refine Z5 ?_
 cases H
 exact To
def vI (fuel : Nat) (a0 : ScopeProg) : Option ((List Int) × Int) :=
 (zN fuel (⟨a0.Free, a0.Nodes, a0.Defs, a0.Main⟩ : ScopeProg) (fun x => rB x.1 x.2)).bind fun y1 =>
 some (y1.1, y1.2)
theorem aIK (fuel : Nat)  (a0 : ScopeProg) (r : (List Int) × Int) (H : vI fuel a0 = some r) : FnS Try.prog 51 [fSt dM a0] [] (dH [fSl (aB .i64) r.1, aA .i64 r.2]) (fun _ => []) := by
 unfold vI at H
 refine bF Try.func51 rfl Try.ntmps51 rfl (fun β => ?_)
 refine Z1 ?_
 refine aT trivial rfl rfl (cG rfl (has rfl) bO) (fun b1 => ?_)
 revert H; refine B5 fun y1 h1 H => ?_
 refine gU trivial rfl rfl rfl (has rfl) (aJ.cons (has rfl) (aJ.cons (dA rfl (mT (cb rfl) (fun x r hx => aHC x.1 x.2 r hx))) aJ.nil)) rfl (cb rfl) (aGV fuel (⟨a0.Free, a0.Nodes, a0.Defs, a0.Main⟩ : ScopeProg) (fun x => rB x.1 x.2) y1 h1) rfl ?_
 refine Z6 ?_
 cases H
 refine aI [] (by decide) ?_
 exact gJ rfl (bQ rfl) (bQ rfl) rfl
def oY {σ : Type} (Y : Int → σ → Option σ) (y1 : ScopeDef) : Nat → Int → σ → Option (σ)
| 0, _, _ => none
| k + 1, x3, x4 =>
 if x3 < (y1.Spots.length : Int) then
  (idx y1.Spots x3).bind fun y2 =>
  (Y y2.Node x4).bind fun y3 =>
  (chk (x3 + 1)).bind fun z1 =>
  oY Y y1 k z1 y3
 else
  some x4
def rW {σ : Type} (fuel : Nat) (Y : Int → σ → Option σ) (s0 : σ) (w0 : Usage_text) (w1 : Int) : Option (σ) :=
 (idx w0.ScopeProg.Defs w1).bind fun y1 =>
 oY Y y1 fuel 0 s0
theorem aBJ (fuel : Nat) {σ : Type} (J : σ → Tk) (Y : Int → σ → Option σ) (s0 : σ) (w0 : Usage_text) (w1 : Int) (r : σ) (H : rW fuel Y s0 w0 w1 = some r) : FnS Try.prog 78 [jJ Try.prog (fun (x : Int) => [aA .i64 x]) Y J, aF (fK eE) w0, aF (aB .i64) w1] [J s0] (dH []) (fun _ => [J r]) := by
 unfold rW at H
 refine bF Try.func78 rfl Try.ntmps78 rfl (fun β => ?_)
 refine aH ?_
 revert H; refine bs fun y1 h1 H => ?_
 apply bI (ods := [_, _, _, _, _, _, _, _, _, _, _]) 11 0 1 bH rfl rfl rfl
 refine ND ?_
 refine M8 ?_
 intros
 refine M3 ?_
 intros
 refine Z3 ?_
 refine Tl (ι := Nat × Int × σ) (fun i => oY Y y1 i.1 i.2.1 i.2.2 = _) (fun i => i.1) (fun i => [(0, jJ Try.prog (fun (x : Int) => [aA .i64 x]) Y J), (14, fSl cB y1.Spots), (15, aA .i64 (y1.Spots.length : Int)), (16, aA .i64 i.2.1)]) (fun i => [J i.2.2]) (fuel, 0, s0) H ?_
 clear H; rintro ⟨k1, x3, x4⟩ H
 replace H : oY Y y1 k1 x3 x4 = _ := H
 try dsimp only
 obtain _ | k1 := k1
 rw [oY] at H; cases H
 rw [oY] at H
 refine Z3 ?_
 refine aH ?_
 revert H; refine is (fun c1 H => ?_) fun c1 H => ?_
 refine Z3 ?_
 refine aH ?_
 revert H; refine B2 fun y2 h2 H => ?_
 refine Z2 ?_
 refine aT trivial rfl rfl (cN rfl aCn rfl) (fun b1 => ?_)
 refine dP (φs' := [aA .i64 y2.In, aA .i64 y2.Node]) trivial rfl rfl (has rfl) (has rfl) (aO (aD trivial) (aO (aD trivial) bY)) (sz rfl) rfl rfl rfl ?_
 refine Z5 ?_
 refine dN ?_
 revert H; refine bs fun y3 h3 H => ?_
 refine aAU y2.Node trivial rfl rfl rfl (has rfl) (aJ.cons (has rfl) aJ.nil) h3 ?_
 revert H; refine B7 fun z1 h4 H => ?_
 refine Z3 ?_
 refine aI [0] (by decide) ?_
 exact Tm ((k1, z1, y3)) ⟨H, ls⟩
 refine Z5 ?_
 cases H
 exact fI (.inr rfl) rfl rfl
 exact fk
 kernel_rfl
def qM (a0 : Usage_text) (a1 : Int) : Option (Usage_text × Int) :=
 some (a0, a1)
theorem aBa  (a0 : Usage_text) (a1 : Int) (r : Usage_text × Int) (H : qM a0 a1 = some r) : FnS Try.prog 56 [aF eE a0, aA .i64 a1] [] (cX 78 [aF (fK eE) r.1, aF (aB .i64) r.2]) (fun _ => []) := by
 unfold qM at H
 refine bF Try.func56 rfl Try.ntmps56 rfl (fun β => ?_)
 refine Z1 ?_
 refine aT trivial rfl rfl (cG rfl (has rfl) (aS (tD))) (fun b1 => ?_)
 refine aT trivial rfl rfl (cG rfl (has rfl) (aS (aD trivial))) (fun b2 => ?_)
 refine Z3 ?_
 refine dN ?_
 refine cW (φ := aF (fK eE) a0) (v := ptr b1) [2] (hZ aL.rfl) (by intro s hs; simp only [List.mem_cons, List.not_mem_nil, or_false] at hs; rcases hs with rfl <;> rfl) ?_
 refine cY ?_
 refine cW (φ := aF (aB .i64) a1) (v := ptr b2) [3] (hZ aL.rfl) (by intro s hs; simp only [List.mem_cons, List.not_mem_nil, or_false] at hs; rcases hs with rfl <;> rfl) ?_
 refine cY ?_
 refine Yy (uG rfl (aJ.cons hh (aJ.cons hh aJ.nil))) ?_
 refine Z3 ?_
 cases H
 exact To
def nY {σ : Type} (Y : Int → σ → Option σ) (y1 : ScopeNode) : Nat → Int → σ → Option (σ)
| 0, _, _ => none
| k + 1, x4, x5 =>
 if x4 < (y1.Kids.length : Int) then
  (idx y1.Kids x4).bind fun y2 =>
  (Y y2 x5).bind fun y3 =>
  (chk (x4 + 1)).bind fun z1 =>
  nY Y y1 k z1 y3
 else
  some x5
def uV {σ : Type} (Y : Int → σ → Option σ) (x6 : Int) (x8 : σ) : Option (σ) :=
 (Y x6 x8).bind fun y6 =>
 some y6
def oD {σ : Type} (Y : Int → σ → Option σ) (y7 : ScopeDef) : Nat → Int → σ → Option (σ)
| 0, _, _ => none
| k + 1, x12, x13 =>
 if x12 < (y7.Rules.length : Int) then
  (idx y7.Rules x12).bind fun y8 =>
  (Y y8.Node x13).bind fun y9 =>
  (chk (x12 + 1)).bind fun z2 =>
  oD Y y7 k z2 y9
 else
  some x13
def wJ {σ : Type} (fuel : Nat) (Y : Int → σ → Option σ) (s0 : σ) (w0 : Usage_text) (w1 : Int) : Option (σ) :=
 (idx w0.ScopeProg.Nodes w1).bind fun y1 =>
 (nY Y y1 fuel 0 s0).bind fun x1 =>
 if y1.Op ≠ 4 then
  some x1
 else
  (qM w0 y1.N).bind fun y4 =>
  (rW fuel (fun (x : Int) (t : σ) => uV Y x t) x1 y4.1 y4.2).bind fun y5 =>
  (idx w0.ScopeProg.Defs y1.N).bind fun y7 =>
  oD Y y7 fuel 0 y5
theorem aIE (fuel : Nat) {σ : Type} (J : σ → Tk) (Y : Int → σ → Option σ) (s0 : σ) (w0 : Usage_text) (w1 : Int) (r : σ) (H : wJ fuel Y s0 w0 w1 = some r) : FnS Try.prog 90 [jJ Try.prog (fun (x : Int) => [aA .i64 x]) Y J, aF (fK eE) w0, aF (aB .i64) w1] [J s0] (dH []) (fun _ => [J r]) := by
 unfold wJ at H
 refine vS Try.func90 rfl Try.ntmps90 rfl (fun β => ?_)
 refine Z1 ?_
 refine aT trivial rfl rfl (cG rfl (has rfl) (aS (aHz))) (fun b1 => ?_)
 refine Z1 ?_
 refine aH ?_
 revert H; refine bs fun y1 h1 H => ?_
 apply bI (ods := [_, _, _, _, _, _, _, _, _, _]) 10 1 3 bH rfl rfl rfl
 refine ND ?_
 refine M8 ?_
 intros
 refine Mn 2 (fun b2 => ptr b2) (fun b2 => aC b2 56 [aA .i64 0, aA .i64 0, fEq (.slice none 0 0), fEq (.slice none 0 0)]) rfl (cN rfl qE rfl) (fun b2 u1 => ?_)
 refine wF (od := od1 8 [2] true (fun b2 _ => fAny) (fun b2 _ => [aC b2 56 [aA .i64 y1.Op, aA .i64 y1.N, fSl bD y1.Args, fSl (aB .i64) y1.Kids]])) (p := 2) (φs' := [aA .i64 y1.Op, aA .i64 y1.N, fSl bD y1.Args, fSl (aB .i64) y1.Kids]) rfl (fun _ => rfl) (fun _ => rfl) trivial rfl rfl rfl (has rfl) (has rfl) (aO (aD trivial) (aO (aD trivial) (aO (bC) (aO (bC) bY)))) (sz rfl) rfl rfl rfl (fun _ => ?_)
 revert H; refine B2 fun o1 H Hr1 => ?_
 refine aX (ι := σ) (fun i => o1 = i) (fun i => [(1, aF (fK eE) w0), (3, fEq (ptr b1)), (4, fEq (ptr b2))]) (fun i => [aC b1 144 [jJ Try.prog (fun (x : Int) => [aA .i64 x]) Y J], aC b2 56 [aA .i64 y1.Op, aA .i64 y1.N, fSl bD y1.Args, fSl (aB .i64) y1.Kids], J i]) ?_ ?_
 refine Z7 ?_
 refine aI [0, 2, 1] (by decide) ?_
 refine Tl (ι := Nat × Int × σ) (fun i => nY Y y1 i.1 i.2.1 i.2.2 = _) (fun i => i.1) (fun i => [(1, aF (fK eE) w0), (3, fEq (ptr b1)), (4, fEq (ptr b2)), (19, fSl (aB .i64) y1.Kids), (20, aA .i64 (y1.Kids.length : Int)), (21, aA .i64 i.2.1)]) (fun i => [aC b1 144 [jJ Try.prog (fun (x : Int) => [aA .i64 x]) Y J], aC b2 56 [aA .i64 y1.Op, aA .i64 y1.N, fSl bD y1.Args, fSl (aB .i64) y1.Kids], J i.2.2]) (fuel, 0, s0) H ?_
 clear H; rintro ⟨k1, x4, x5⟩ H
 replace H : nY Y y1 k1 x4 x5 = _ := H
 try dsimp only
 obtain _ | k1 := k1
 rw [nY] at H; cases H
 rw [nY] at H
 refine Z3 ?_
 refine aH ?_
 revert H; refine is (fun c1 H => ?_) fun c1 H => ?_
 refine Z3 ?_
 refine aH ?_
 revert H; refine B2 fun y2 h2 H => ?_
 refine Z7 ?_
 refine eI ?_
 revert H; refine bs fun y3 h3 H => ?_
 refine aAU y2 trivial rfl rfl rfl (has rfl) (aJ.cons (has rfl) aJ.nil) h3 ?_
 revert H; refine B7 fun z1 h4 H => ?_
 refine Z3 ?_
 refine aI [1, 2, 0] (by decide) ?_
 exact Tm ((k1, z1, y3)) ⟨H, ls⟩
 refine Z6 ?_
 exact Tm (x5) (ij H)
 clear H; intro x1 hi; subst o1; have H := Hr1; clear Hr1; try dsimp only at H
 try dsimp only
 refine aH ?_
 revert H; refine I5 (fun c2 H => ?_) fun c2 H => ?_
 refine Z2 ?_
 cases H
 refine aI [2] (by decide) ?_
 exact aBy [] (.inl rfl) rfl rfl rfl
 refine Z3 ?_
 refine aH ?_
 revert H; refine B4 fun y4 h5 H => ?_
 refine Tc (aBa _ _ _ h5) ?_
 refine Z2 ?_
 refine T_sub [(1, aF (fK eE) w0), (3, fEq (ptr b1)), (4, fEq (ptr b2)), (30, fEq (ptr b2)), (31, aA .i64 y1.Op), (32, aG (decide (y1.Op ≠ 4))), (33, aF eE w0), (34, fEq (.pointer (some ⟨b2, 1, none⟩))), (35, aA .i64 y1.N), (36, cX 78 [aF (fK eE) y4.1, aF (aB .i64) y4.2])] (Sc (Sc (Sc (Sc (Sc (Sc (Sc (Sc (Sc (Sc fY.nil)))))))))) ?_
 revert H; refine bs fun y5 h6 H => ?_
 refine yU (s := x1) (s' := y5) (fun (x : Int) => [aA .i64 x]) (fun (x : Int) (t : σ) => uV Y x t) (fun (t : σ) => [aC b1 144 [jJ Try.prog (fun (x : Int) => [aA .i64 x]) Y J], aC b2 56 [aA .i64 y1.Op, aA .i64 y1.N, fSl bD y1.Args, fSl (aB .i64) y1.Kids], J t]) (has rfl) (cb rfl) rfl (fun _ => rfl) rfl (fun J => aBJ fuel J (fun (x : Int) (t : σ) => uV Y x t) x1 y4.1 y4.2 y5 h6) (fun β' l rec x6 t t' hs hp hY => ?_) (fun rb => ?_)
 generalize t = x8 at *
 have H : uV Y x6 x8 = some t' := hY; clear hY; unfold uV at H; try dsimp only at H
 show T β' _ _ (qV [37] ((fun (x : Int) => [aA .i64 x]) x6) [(1, aF (fK eE) w0), (3, fEq (ptr b1)), (4, fEq (ptr b2)), (30, fEq (ptr b2)), (31, aA .i64 y1.Op), (32, aG (decide (y1.Op ≠ 4))), (33, aF eE w0), (34, fEq (.pointer (some ⟨b2, 1, none⟩))), (35, aA .i64 y1.N), (36, cX 78 [aF (fK eE) y4.1, aF (aB .i64) y4.2])]) (tObj l (.loop rec) :: [aC b1 144 [jJ Try.prog (fun (x : Int) => [aA .i64 x]) Y J], aC b2 56 [aA .i64 y1.Op, aA .i64 y1.N, fSl bD y1.Args, fSl (aB .i64) y1.Kids], J x8]) _
 refine Z3 ?_
 refine aAQ hs ?_
 refine Z4 ?_
 refine eD ?_
 revert H; refine bs fun y6 h7 H => ?_
 refine aAU x6 trivial rfl rfl rfl (has rfl) (aJ.cons (has rfl) aJ.nil) h7 ?_
 refine Z5 ?_
 refine aI [2, 3, 0, 1] (by decide) ?_
 cases H
 refine aI [3, 0, 1, 2] (by decide) ?_
 exact aAh hs hp rfl
 generalize rb = rb1
 show T β _ _ [(1, aF (fK eE) w0), (3, fEq (ptr b1)), (4, fEq (ptr b2)), (30, fEq (ptr b2)), (31, aA .i64 y1.Op), (32, aG (decide (y1.Op ≠ 4))), (33, aF eE w0), (34, fEq (.pointer (some ⟨b2, 1, none⟩))), (35, aA .i64 y1.N), (36, cX 78 [aF (fK eE) y4.1, aF (aB .i64) y4.2])] ([jM rb1] ++ [aC b1 144 [jJ Try.prog (fun (x : Int) => [aA .i64 x]) Y J], aC b2 56 [aA .i64 y1.Op, aA .i64 y1.N, fSl bD y1.Args, fSl (aB .i64) y1.Kids], J y5]) _
 dsimp only [List.append, List.cons_append, List.nil_append]
 refine Z2 ?_
 refine aH ?_
 revert H; refine bs fun y7 h8 H => ?_
 apply bI (ods := [_, _, _, _, _, _, _, _, _, _, _, _]) 12 0 4 bH rfl rfl rfl
 refine ND ?_
 refine M8 ?_
 intros
 refine M4 ?_
 intros
 refine Z3 ?_
 refine aI [1, 2, 0, 3] (by decide) ?_
 refine Tl (ι := Nat × Int × σ) (fun i => oD Y y7 i.1 i.2.1 i.2.2 = _) (fun i => i.1) (fun i => [(3, fEq (ptr b1)), (51, fSl bK y7.Rules), (52, aA .i64 (y7.Rules.length : Int)), (53, aA .i64 i.2.1)]) (fun i => [aC b1 144 [jJ Try.prog (fun (x : Int) => [aA .i64 x]) Y J], aC b2 56 [aA .i64 y1.Op, aA .i64 y1.N, fSl bD y1.Args, fSl (aB .i64) y1.Kids], jM rb1, J i.2.2]) (fuel, 0, y5) H ?_
 clear H; rintro ⟨k2, x12, x13⟩ H
 replace H : oD Y y7 k2 x12 x13 = _ := H
 try dsimp only
 obtain _ | k2 := k2
 rw [oD] at H; cases H
 rw [oD] at H
 refine Z3 ?_
 refine aH ?_
 revert H; refine is (fun c3 H => ?_) fun c3 H => ?_
 refine Z3 ?_
 refine aH ?_
 revert H; refine B2 fun y8 h9 H => ?_
 refine Z2 ?_
 refine aT trivial rfl rfl (cN rfl sU rfl) (fun b3 => ?_)
 refine dP (φs' := [aA .i64 y8.At, fSl (aB .i64) y8.Joins, aA .i64 y8.Node]) trivial rfl rfl (has rfl) (has rfl) (aO (aD trivial) (aO (bC) (aO (aD trivial) bY))) (sz rfl) rfl rfl rfl ?_
 refine Z5 ?_
 refine bJ ?_
 revert H; refine bs fun y9 h10 H => ?_
 refine aAU y8.Node trivial rfl rfl rfl (has rfl) (aJ.cons (has rfl) aJ.nil) h10 ?_
 revert H; refine B7 fun z2 h11 H => ?_
 refine Z3 ?_
 refine aI [2, 3, 4, 0] (by decide) ?_
 exact Tm ((k2, z2, y9)) ⟨H, ls⟩
 refine Z5 ?_
 cases H
 refine aI [2, 3] (by decide) ?_
 exact aBy [rb1] (.inr rfl) rfl rfl rfl
 exact fk
 kernel_rfl
 exact fk
 kernel_rfl
def aAO (a0 : Usage_text) (a1 : Int) : Option (Usage_text × Int) :=
 some (a0, a1)
theorem aGI  (a0 : Usage_text) (a1 : Int) (r : Usage_text × Int) (H : aAO a0 a1 = some r) : FnS Try.prog 76 [aF eE a0, aA .i64 a1] [] (cX 90 [aF (fK eE) r.1, aF (aB .i64) r.2]) (fun _ => []) := by
 unfold aAO at H
 refine bF Try.func76 rfl Try.ntmps76 rfl (fun β => ?_)
 refine Z1 ?_
 refine aT trivial rfl rfl (cG rfl (has rfl) (aS (tD))) (fun b1 => ?_)
 refine aT trivial rfl rfl (cG rfl (has rfl) (aS (aD trivial))) (fun b2 => ?_)
 refine Z3 ?_
 refine dN ?_
 refine cW (φ := aF (fK eE) a0) (v := ptr b1) [2] (hZ aL.rfl) (by intro s hs; simp only [List.mem_cons, List.not_mem_nil, or_false] at hs; rcases hs with rfl <;> rfl) ?_
 refine cY ?_
 refine cW (φ := aF (aB .i64) a1) (v := ptr b2) [3] (hZ aL.rfl) (by intro s hs; simp only [List.mem_cons, List.not_mem_nil, or_false] at hs; rcases hs with rfl <;> rfl) ?_
 refine cY ?_
 refine Yy (uG rfl (aJ.cons hh (aJ.cons hh aJ.nil))) ?_
 refine Z3 ?_
 cases H
 exact To
end Go.Proofs.Ytmnbfgeljmhekaa
set_option maxRecDepth 100000
set_option maxHeartbeats 2000000
namespace Go.Proofs.Ytmnbfgeljmhekaa
open Go.SX Go.SW Go.Dt
attribute [local irreducible] Code.wpIn wpListIn Exit.then Exit.inBlock
def lS (a0 : Usage_text) (a1 : Int) (y2 : ScopeNode) (y5 : ScopeDef) : Nat → Int → (aQ Int Usage_channel) → Option (aQ Int Usage_channel)
| 0, _, _ => none
| k + 1, x7, x8 =>
 if x7 < (y5.Chans.length : Int) then
  (idx a0.sizes a1).bind fun y6 =>
  (chk (y6 + x7)).bind fun z1 =>
  (chk (x7 + 1)).bind fun z2 =>
  lS a0 a1 y2 y5 k z2 (aQ.upd x8 z1 (⟨y2.N, x7⟩ : Usage_channel))
 else
  some x8
def rT (rec_usage_text_fill : Usage_text → Int → (aQ Int Usage_channel) → Option (List (aQ Int Usage_channel) × List Int)) (a0 : Usage_text) (x1 : aQ Int Usage_channel) (x9 : Int) (x12 : List (aQ Int Usage_channel)) (x13 : List Int) : Option (List (aQ Int Usage_channel) × List Int) :=
 (rec_usage_text_fill ({ a0 with denotes := x12, heads := x13 }) x9 x1).bind fun y9 =>
 some (y9.1, y9.2)
def kL : Nat → Usage_text → Int → (aQ Int Usage_channel) → Option (List (aQ Int Usage_channel) × List Int)
| 0, _, _, _ => none
| fuel + 1, a0, a1, a2 =>
 (idx a0.denotes a1).bind fun y1 =>
 (idx a0.ScopeProg.Nodes a1).bind fun y2 =>
 (if y2.Op = 4 then
  (idx a0.heads y2.N).bind fun y3 =>
  (some ()).bind fun _ =>
  ((idx a0.ScopeProg.Defs y2.N).bind fun y5 =>
  lS a0 a1 y2 y5 fuel 0 a2).bind fun x4 =>
  some (x4, a0.heads.set y2.N.toNat a1)
 else
  some (a2, a0.heads)).bind fun (x1, x2) =>
 (aAO a0 a1).bind fun y7 =>
 (wJ fuel (fun (x : Int) (t : List (aQ Int Usage_channel) × List Int) => rT (kL fuel) a0 x1 x t.1 t.2) (a0.denotes.set a1.toNat a2, x2) y7.1 y7.2).bind fun y8 => match y8 with
 | (x14, x15) =>
 some (x14, x15)
theorem aGr : ∀ (fuel : Nat), (∀ (h0_0 : Value) (h0_1 : Value) (a0 : Usage_text) (a1 : Int) (a2 : aQ Int Usage_channel) (r : List (aQ Int Usage_channel) × List Int) (H : kL fuel a0 a1 a2 = some r), FnS Try.prog 52 [aF fT (⟨a0.ScopeProg, h0_0, a0.sizes, h0_1⟩ : Usage_text_R), aA .i64 a1, fW cP (fun y => fSt dK y) a2] [aE h0_0 108 (gG cP (fun y => fSt dK y)) a0.denotes, aE h0_1 3 (aB .i64) a0.heads] (dH []) (fun _ => [aE h0_0 108 (gG cP (fun y => fSt dK y)) r.1, aE h0_1 3 (aB .i64) r.2])) := by
 intro fuel
 induction fuel with
 | zero => exact fun h0_0 h0_1 a0 a1 a2 r H => (by rw [kL] at H; cases H)
 | succ fuel ih =>
 have ih_usage_text_fill := ih
 refine ?_
 intro h0_0 h0_1 a0 a1 a2 r H
 rw [kL] at H
 refine vS Try.func52 rfl Try.ntmps52 rfl (fun β => ?_)
 refine Z1 ?_
 refine aT trivial rfl rfl (cG rfl (has rfl) (aS (tD))) (fun b1 => ?_)
 refine aT trivial rfl rfl (cG rfl (has rfl) (aS (aCj))) (fun b2 => ?_)
 refine Z1 ?_
 refine aH ?_
 revert H; refine bs fun y1 h1 H => ?_
 apply bI (ods := [_, _, _, _, _, _, _, _]) 8 0 4 bH rfl rfl rfl
 refine ND ?_
 refine M3 ?_
 intros
 refine My (aEo rfl hh (sc rfl) rfl gZ) fun _ => ?_
 refine M3 ?_
 intros
 refine rJ (od := odC [2] true (fAny) [aE h0_0 108 (gG cP (fun y => fSt dK y)) (a0.denotes.set a1.toNat a2)]) (p := 2) (z' := a2) rfl (fun _ => rfl) (fun _ => rfl) trivial rfl rfl rfl rfl (has rfl) (has rfl) (aCj) (sz rfl) (bN h1) rfl rfl (fun _ => ?_)
 revert H; refine B9 fun y2 h2 H => ?_
 refine Z2 ?_
 refine aT trivial rfl rfl (cN rfl qE rfl) (fun b3 => ?_)
 refine dP (φs' := [aA .i64 y2.Op, aA .i64 y2.N, fSl bD y2.Args, fSl (aB .i64) y2.Kids]) trivial rfl rfl (has rfl) (has rfl) (aO (aD trivial) (aO (aD trivial) (aO (bC) (aO (bC) bY)))) (sz rfl) rfl rfl rfl ?_
 revert H; refine B1 fun o1 H Hr1 => ?_
 refine aX (ι := aQ Int Usage_channel × List Int) (fun i => o1 = (i.1, i.2)) (fun i => [(0, aF fT (⟨a0.ScopeProg, h0_0, a0.sizes, h0_1⟩ : Usage_text_R)), (1, aA .i64 a1), (3, fEq (ptr b1)), (5, fEq (ptr b2))]) (fun i => [aC b2 108 [fW cP (fun y => fSt dK y) i.1], aC b3 56 [aA .i64 y2.Op, aA .i64 y2.N, fSl bD y2.Args, fSl (aB .i64) y2.Kids], aC b1 71 [aF fT (⟨a0.ScopeProg, h0_0, a0.sizes, h0_1⟩ : Usage_text_R)], aE h0_0 108 (gG cP (fun y => fSt dK y)) (a0.denotes.set a1.toNat a2), aE h0_1 3 (aB .i64) i.2]) ?_ ?_
 revert H; refine I5 (fun c1 H => ?_) fun c1 H => ?_
 refine Z1 ?_
 refine aH ?_
 revert H; refine bs fun y3 h3 H => ?_
 apply bI (ods := [_, _, _, _, _, _, _, _, _]) 9 0 5 bH rfl rfl rfl
 refine ND ?_
 refine M3 ?_
 intros
 refine My (aEo rfl hh (sc rfl) rfl gZ) fun _ => ?_
 refine M4 ?_
 intros
 refine rJ (od := odC [4] true (fAny) [aE h0_1 3 (aB .i64) (a0.heads.set y2.N.toNat a1)]) (p := 4) (z' := a1) rfl (fun _ => rfl) (fun _ => rfl) trivial rfl rfl rfl rfl (has rfl) (has rfl) (aD trivial) (sz rfl) (bN h3) rfl rfl (fun _ => ?_)
 refine Z3 ?_
 refine aT trivial rfl rfl (yO (fun y => fSt dK y) cP rfl) (fun b4 => ?_)
 revert H; refine B2 fun o2 H Hr2 => ?_
 refine aX (ι := Unit) (fun i => o2 = ()) (fun i => [(0, aF fT (⟨a0.ScopeProg, h0_0, a0.sizes, h0_1⟩ : Usage_text_R)), (1, aA .i64 a1), (3, fEq (ptr b1)), (5, fEq (ptr b2)), (6, fEq (ptr b3)), (7, fEq (.map (some b4)))]) (fun i => [aC b3 56 [aA .i64 y2.Op, aA .i64 y2.N, fSl bD y2.Args, fSl (aB .i64) y2.Kids], aC b2 108 [fW cP (fun y => fSt dK y) a2], aC b1 71 [aF fT (⟨a0.ScopeProg, h0_0, a0.sizes, h0_1⟩ : Usage_text_R)], iA cP (fun y => fSt dK y) b4 a2, aE h0_0 108 (gG cP (fun y => fSt dK y)) (a0.denotes.set a1.toNat a2), aE h0_1 3 (aB .i64) (a0.heads.set y2.N.toNat a1)]) ?_ ?_
 refine Z2 ?_
 refine aT trivial rfl rfl (n_range (kd := cP) (vf := (fun y => fSt dK y)) (g := a2) rfl (has rfl) wT) (fun b5 => ?_)
 refine Z2 ?_
 refine aI [2, 3, 4, 1, 5, 6, 0] (by decide) ?_
 refine Tl (ι := aQ Int Usage_channel) (fun _ => True) (fun i => a2.size - i.size) (fun i => [(0, aF fT (⟨a0.ScopeProg, h0_0, a0.sizes, h0_1⟩ : Usage_text_R)), (1, aA .i64 a1), (3, fEq (ptr b1)), (5, fEq (ptr b2)), (6, fEq (ptr b3)), (7, fEq (.map (some b4))), (40, fEq (ptr b5))]) (fun i => [aC b3 56 [aA .i64 y2.Op, aA .i64 y2.N, fSl bD y2.Args, fSl (aB .i64) y2.Kids], aC b2 108 [fW cP (fun y => fSt dK y) a2], aC b1 71 [aF fT (⟨a0.ScopeProg, h0_0, a0.sizes, h0_1⟩ : Usage_text_R)], iA cP (fun y => fSt dK y) b4 i, aE h0_0 108 (gG cP (fun y => fSt dK y)) (a0.denotes.set a1.toNat a2), aE h0_1 3 (aB .i64) (a0.heads.set y2.N.toNat a1), xC cP (fun y => fSt dK y) b5 a2 i]) aQ.none trivial ?_
 intro g1 _
 try dsimp only
 refine Z1 ?_
 refine mQ ?_
 refine T_next trivial rfl rfl rfl (has rfl) (fun hg => ?_) (fun x3 y4 h4 h5 h6 => ?_)
 subst hg
 refine Z2 ?_
 refine aH ?_
 refine Z6 ?_
 refine aI [1, 2, 3, 4, 5, 6] (by decide) ?_
 exact Tm (()) (ij H)
 refine Z2 ?_
 refine aH ?_
 refine Z5 ?_
 refine Yo 0 rfl (o_entry rfl hh) ?_
 refine Z2 ?_
 refine aT trivial rfl rfl (cN rfl aBr rfl) (fun b6 => ?_)
 refine Z1 ?_
 refine dP (φs' := [aA .i64 y4.def_, aA .i64 y4.index]) trivial rfl rfl (has rfl) (has rfl) (aO (aD trivial) (aO (aD trivial) bY)) (sz rfl) rfl rfl rfl ?_
 refine Z5 ?_
 refine mY ?_
 refine jB (k := x3) (y := (⟨y4.def_, y4.index⟩ : Usage_channel)) trivial (.inl rfl) rfl (has rfl) (has rfl) rfl (has rfl) rfl wT ?_
 refine Z3 ?_
 refine eI ?_
 refine T_iterC ?_
 refine aI [3, 4, 5, 1, 6, 7, 0] (by decide) ?_
 exact Tm (aQ.upd g1 x3 y4) ⟨trivial, upd_meas h5 h6⟩
 clear H; intro i hi; subst o2; have H := Hr2; clear Hr2; try dsimp only at H
 try dsimp only
 revert H; refine bs fun o3 H Hr3 => ?_
 refine aX (ι := aQ Int Usage_channel) (fun i => o3 = i) (fun i => [(0, aF fT (⟨a0.ScopeProg, h0_0, a0.sizes, h0_1⟩ : Usage_text_R)), (1, aA .i64 a1), (3, fEq (ptr b1)), (5, fEq (ptr b2)), (7, fEq (.map (some b4)))]) (fun i => [aC b3 56 [aA .i64 y2.Op, aA .i64 y2.N, fSl bD y2.Args, fSl (aB .i64) y2.Kids], aC b2 108 [fW cP (fun y => fSt dK y) a2], aC b1 71 [aF fT (⟨a0.ScopeProg, h0_0, a0.sizes, h0_1⟩ : Usage_text_R)], iA cP (fun y => fSt dK y) b4 i, aE h0_0 108 (gG cP (fun y => fSt dK y)) (a0.denotes.set a1.toNat a2), aE h0_1 3 (aB .i64) (a0.heads.set y2.N.toNat a1)]) ?_ ?_
 refine aH ?_
 revert H; refine bs fun y5 h7 H => ?_
 apply bI (ods := [_, _, _, _, _, _, _, _, _, _, _, _]) 12 0 6 bH rfl rfl rfl
 refine ND ?_
 refine M8 ?_
 intros
 refine M4 ?_
 intros
 refine Z3 ?_
 refine Tl (ι := Nat × Int × aQ Int Usage_channel) (fun i => lS a0 a1 y2 y5 i.1 i.2.1 i.2.2 = _) (fun i => i.1) (fun i => [(0, aF fT (⟨a0.ScopeProg, h0_0, a0.sizes, h0_1⟩ : Usage_text_R)), (1, aA .i64 a1), (3, fEq (ptr b1)), (5, fEq (ptr b2)), (6, fEq (ptr b3)), (7, fEq (.map (some b4))), (59, aA .i64 (y5.Chans.length : Int)), (60, aA .i64 i.2.1)]) (fun i => [aC b3 56 [aA .i64 y2.Op, aA .i64 y2.N, fSl bD y2.Args, fSl (aB .i64) y2.Kids], aC b2 108 [fW cP (fun y => fSt dK y) a2], aC b1 71 [aF fT (⟨a0.ScopeProg, h0_0, a0.sizes, h0_1⟩ : Usage_text_R)], iA cP (fun y => fSt dK y) b4 i.2.2, aE h0_0 108 (gG cP (fun y => fSt dK y)) (a0.denotes.set a1.toNat a2), aE h0_1 3 (aB .i64) (a0.heads.set y2.N.toNat a1)]) (fuel, 0, a2) H ?_
 clear H; rintro ⟨k1, x7, x8⟩ H
 replace H : lS a0 a1 y2 y5 k1 x7 x8 = _ := H
 try dsimp only
 obtain _ | k1 := k1
 rw [lS] at H; cases H
 rw [lS] at H
 refine Z3 ?_
 refine aH ?_
 revert H; refine is (fun c2 H => ?_) fun c2 H => ?_
 refine Z3 ?_
 refine aH ?_
 revert H; refine B5 fun y6 h8 H => ?_
 revert H; refine bs fun z1 h9 H => ?_
 apply bI (ods := [_, _, _, _, _, _, _, _, _, _, _, _, _, _]) 14 0 6 bH rfl rfl rfl
 refine ND ?_
 refine M8 ?_
 intros
 refine M5 ?_
 intros
 refine My (dR (ψs := [aA .i64 y2.N, aA .i64 x7]) rfl aIH rfl (aU.cons (has rfl) (aS (aD trivial)) (aU.cons (has rfl) (aS (aD trivial)) aU.nil)) rfl) fun _ => ?_
 refine Z1 ?_
 refine eD ?_
 refine jB (k := z1) (y := (⟨y2.N, x7⟩ : Usage_channel)) trivial (.inl rfl) rfl (has rfl) (has rfl) rfl (has rfl) rfl wT ?_
 revert H; refine B4 fun z2 h10 H => ?_
 refine Z3 ?_
 refine aI [1, 2, 3, 0, 4, 5] (by decide) ?_
 exact Tm ((k1, z2, aQ.upd x8 z1 (⟨y2.N, x7⟩ : Usage_channel))) ⟨H, ls⟩
 exact fk
 kernel_rfl
 refine Z6 ?_
 exact Tm (x8) (ij H)
 exact fk
 kernel_rfl
 clear H; intro x4 hi; subst o3; have H := Hr3; clear Hr3; try dsimp only at H
 try dsimp only
 refine Z2 ?_
 refine dN ?_
 refine dI (φs' := [fEq (.map (some b4))]) trivial rfl rfl (has rfl) (has rfl) (aD trivial) (sz rfl) rfl rfl ?_
 refine Z1 ?_
 refine eD ?_
 refine cW (φ := fW cP (fun y => fSt dK y) x4) (v := .map (some b4)) [7, 78] aCz (by intro s hs; simp only [List.mem_cons, List.not_mem_nil, or_false] at hs; rcases hs with rfl | rfl <;> rfl) ?_
 refine iG (φs' := [fW cP (fun y => fSt dK y) x4]) (i := 0) rfl rfl ?_
 refine cY ?_
 exact Tm ((x4, a0.heads.set y2.N.toNat a1)) (ij H)
 exact fk
 kernel_rfl
 refine Z3 ?_
 refine aI [1, 0, 2, 3, 4] (by decide) ?_
 exact Tm ((a2, a0.heads)) (ij H)
 clear H; intro i hi; obtain ⟨x1, x2⟩ := i; subst o1; have H := Hr1; clear Hr1; try dsimp only at H
 try dsimp only
 revert H; refine B3 fun y7 h11 H => ?_
 refine gU trivial rfl rfl rfl (has rfl) (aJ.cons (dA rfl (aIC)) (aJ.cons (has rfl) aJ.nil)) rfl (cb rfl) (aGI a0 a1 y7 h11) rfl ?_
 refine Z2 ?_
 refine T_sub [(0, aF fT (⟨a0.ScopeProg, h0_0, a0.sizes, h0_1⟩ : Usage_text_R)), (1, aA .i64 a1), (3, fEq (ptr b1)), (5, fEq (ptr b2)), (79, aF fT (⟨a0.ScopeProg, h0_0, a0.sizes, h0_1⟩ : Usage_text_R)), (80, aA .i64 a1), (81, cX 90 [aF (fK eE) y7.1, aF (aB .i64) y7.2])] (Sc (Sc (Sc (Sc (Sc (Sc (Sc fY.nil))))))) ?_
 revert H; refine bs fun y8 h12 H => ?_
 refine yU (s := (a0.denotes.set a1.toNat a2, x2)) (s' := y8) (fun (x : Int) => [aA .i64 x]) (fun (x : Int) (t : List (aQ Int Usage_channel) × List Int) => rT (kL fuel) a0 x1 x t.1 t.2) (fun (t : List (aQ Int Usage_channel) × List Int) => [aC b2 108 [fW cP (fun y => fSt dK y) x1], aC b3 56 [aA .i64 y2.Op, aA .i64 y2.N, fSl bD y2.Args, fSl (aB .i64) y2.Kids], aC b1 71 [aF fT (⟨a0.ScopeProg, h0_0, a0.sizes, h0_1⟩ : Usage_text_R)], aE h0_0 108 (gG cP (fun y => fSt dK y)) t.1, aE h0_1 3 (aB .i64) t.2]) (has rfl) (cb rfl) rfl (fun _ => rfl) rfl (fun J => aIE fuel J (fun (x : Int) (t : List (aQ Int Usage_channel) × List Int) => rT (kL fuel) a0 x1 x t.1 t.2) (a0.denotes.set a1.toNat a2, x2) y7.1 y7.2 y8 h12) (fun β' l rec x9 t t' hs hp hY => ?_) (fun rb => ?_)
 obtain ⟨x12, x13⟩ := t
 have H : rT (kL fuel) a0 x1 x9 x12 x13 = some t' := hY; clear hY; unfold rT at H; try dsimp only at H
 show T β' _ _ (qV [82] ((fun (x : Int) => [aA .i64 x]) x9) [(0, aF fT (⟨a0.ScopeProg, h0_0, a0.sizes, h0_1⟩ : Usage_text_R)), (1, aA .i64 a1), (3, fEq (ptr b1)), (5, fEq (ptr b2)), (79, aF fT (⟨a0.ScopeProg, h0_0, a0.sizes, h0_1⟩ : Usage_text_R)), (80, aA .i64 a1), (81, cX 90 [aF (fK eE) y7.1, aF (aB .i64) y7.2])]) (tObj l (.loop rec) :: [aC b2 108 [fW cP (fun y => fSt dK y) x1], aC b3 56 [aA .i64 y2.Op, aA .i64 y2.N, fSl bD y2.Args, fSl (aB .i64) y2.Kids], aC b1 71 [aF fT (⟨a0.ScopeProg, h0_0, a0.sizes, h0_1⟩ : Usage_text_R)], aE h0_0 108 (gG cP (fun y => fSt dK y)) x12, aE h0_1 3 (aB .i64) x13]) _
 refine Z3 ?_
 refine aAQ hs ?_
 refine Z5 ?_
 refine mY ?_
 refine mY ?_
 revert H; refine bs fun y9 h13 H => ?_
 refine Tc (ih_usage_text_fill _ _ _ _ _ _ h13) ?_
 refine Z2 ?_
 refine aI [3, 4, 5, 0, 1, 2] (by decide) ?_
 cases H
 refine aI [5, 0, 1, 2, 3, 4] (by decide) ?_
 exact aAh hs hp rfl
 obtain ⟨x14, x15⟩ := y8; dsimp only at H
 generalize rb = rb1
 show T β _ _ [(0, aF fT (⟨a0.ScopeProg, h0_0, a0.sizes, h0_1⟩ : Usage_text_R)), (1, aA .i64 a1), (3, fEq (ptr b1)), (5, fEq (ptr b2)), (79, aF fT (⟨a0.ScopeProg, h0_0, a0.sizes, h0_1⟩ : Usage_text_R)), (80, aA .i64 a1), (81, cX 90 [aF (fK eE) y7.1, aF (aB .i64) y7.2])] ([jM rb1] ++ [aC b2 108 [fW cP (fun y => fSt dK y) x1], aC b3 56 [aA .i64 y2.Op, aA .i64 y2.N, fSl bD y2.Args, fSl (aB .i64) y2.Kids], aC b1 71 [aF fT (⟨a0.ScopeProg, h0_0, a0.sizes, h0_1⟩ : Usage_text_R)], aE h0_0 108 (gG cP (fun y => fSt dK y)) x14, aE h0_1 3 (aB .i64) x15]) _
 dsimp only [List.append, List.cons_append, List.nil_append]
 refine Z1 ?_
 cases H
 refine aI [0, 4, 5] (by decide) ?_
 exact aBy [rb1] (.inr rfl) rfl rfl rfl
 exact fk
 kernel_rfl
def nX (fuel : Nat) (a0 : ScopeProg) : Option (Usage_text) :=
 (mk aQ.none (a0.Nodes.length : Int)).bind fun y1 =>
 (mk 0 (a0.Defs.length : Int)).bind fun y2 =>
 (vI fuel (⟨a0.Free, a0.Nodes, a0.Defs, a0.Main⟩ : ScopeProg)).bind fun y3 =>
 (kL fuel ({ (⟨(⟨a0.Free, a0.Nodes, a0.Defs, a0.Main⟩ : ScopeProg), y1, y3.1, y2⟩ : Usage_text) with denotes := y1, heads := y2 }) a0.Main (aQ.none : aQ Int Usage_channel)).bind fun y4 =>
 some (⟨(⟨((⟨(⟨a0.Free, a0.Nodes, a0.Defs, a0.Main⟩ : ScopeProg), y1, y3.1, y2⟩ : Usage_text).ScopeProg).Free, ((⟨(⟨a0.Free, a0.Nodes, a0.Defs, a0.Main⟩ : ScopeProg), y1, y3.1, y2⟩ : Usage_text).ScopeProg).Nodes, ((⟨(⟨a0.Free, a0.Nodes, a0.Defs, a0.Main⟩ : ScopeProg), y1, y3.1, y2⟩ : Usage_text).ScopeProg).Defs, ((⟨(⟨a0.Free, a0.Nodes, a0.Defs, a0.Main⟩ : ScopeProg), y1, y3.1, y2⟩ : Usage_text).ScopeProg).Main⟩ : ScopeProg), y4.1, (⟨(⟨a0.Free, a0.Nodes, a0.Defs, a0.Main⟩ : ScopeProg), y1, y3.1, y2⟩ : Usage_text).sizes, y4.2⟩ : Usage_text)
theorem aCa (fuel : Nat)  (a0 : ScopeProg) (r : Usage_text) (H : nX fuel a0 = some r) : FnS Try.prog 22 [fSt dM a0] [] (aF bG r) (fun _ => []) := by
 unfold nX at H
 refine bF Try.func22 rfl Try.ntmps22 rfl (fun β => ?_)
 refine Z1 ?_
 refine aT trivial rfl rfl (cG rfl (has rfl) bO) (fun b1 => ?_)
 refine Z2 ?_
 refine aH ?_
 revert H; refine bs fun y1 h1 H => ?_
 revert H; refine bs fun y2 h2 H => ?_
 apply bI (ods := [_, _, _, _, _, _, _, _, _, _, _, _]) 12 3 4 bH rfl rfl rfl
 refine ND ?_
 refine M4 ?_
 intros
 refine Mn 1 (fun b2 => .slice (some ⟨b2, 0, none⟩) y1.length y1.length) (fun b2 => aE (.slice (some ⟨b2, 0, none⟩) y1.length y1.length) 108 (gG cP (fun y => fSt dK y)) y1) rfl (n_makeE (t := (gG cP (fun y => fSt dK y))) (z := aQ.none) rfl (has rfl) (et rfl) rfl aIv (aL.cons aF7 aL.nil) h1) (fun b2 u1 => ?_)
 refine M3 ?_
 intros
 refine Mn 2 (fun b3 => .slice (some ⟨b3, 0, none⟩) y2.length y2.length) (fun b3 => aE (.slice (some ⟨b3, 0, none⟩) y2.length y2.length) 3 (aB .i64) y2) rfl (lW (t := (aB .i64)) (z := 0) rfl (has rfl) (et rfl) rfl sH rfl h2) (fun b3 u2 => ?_)
 refine D2 4 8 b2 _ b3 _ (fun b2 _ b3 _ => fD [fSl aN a0.Free, fSl aM a0.Nodes, fSl aK a0.Defs, aA .i64 a0.Main, fEq (.slice (some ⟨b2, 0, none⟩) y1.length y1.length), fEq (.slice none 0 0), fEq (.slice (some ⟨b3, 0, none⟩) y2.length y2.length)]) rfl rfl (dR (ψs := [fSl aN a0.Free, fSl aM a0.Nodes, fSl aK a0.Defs, aA .i64 a0.Main, fEq (.slice (some ⟨b2, 0, none⟩) y1.length y1.length), fEq (.slice none 0 0), fEq (.slice (some ⟨b3, 0, none⟩) y2.length y2.length)]) rfl ty_bu_79 rfl (aU.cons (has rfl) bO (aU.cons (has rfl) (aS (aD trivial)) (aU.cons (has rfl) (aS (aD trivial)) aU.nil))) rfl) (fun _ => ?_)
 refine N_new (od := odN2 4 8 [3] true (fun b2 _ b3 _ b4 _ => fEq (ptr b4)) (fun b2 _ b3 _ b4 _ => [aC b4 79 [fSl aN a0.Free, fSl aM a0.Nodes, fSl aK a0.Defs, aA .i64 a0.Main, fEq (.slice (some ⟨b2, 0, none⟩) y1.length y1.length), fEq (.slice none 0 0), fEq (.slice (some ⟨b3, 0, none⟩) y2.length y2.length)]])) (p := 3) (f := fun b4 => ptr b4) (τ := fun b4 => aC b4 79 [fSl aN a0.Free, fSl aM a0.Nodes, fSl aK a0.Defs, aA .i64 a0.Main, fEq (.slice (some ⟨b2, 0, none⟩) y1.length y1.length), fEq (.slice none 0 0), fEq (.slice (some ⟨b3, 0, none⟩) y2.length y2.length)]) rfl (fun _ => rfl) (fun _ => rfl) trivial rfl rfl (cG rfl (has rfl) bO) (fun b4 u3 => ?_)
 refine D1 10 b4 _ (fun b4 _ => fEq (ptr b4)) rfl (aAD rfl hh) (fun _ => ?_)
 refine Z1 ?_
 generalize hv_v1 : (Value.slice (some ⟨b2, 0, none⟩) _ _) = v1; clear hv_v1
 refine aW 1 rfl (fun hc_v1 => ?_)
 generalize hv_v2 : (Value.slice (some ⟨b3, 0, none⟩) _ _) = v2; clear hv_v2
 refine aW 2 rfl (fun hc_v2 => ?_)
 revert H; refine B4 fun y3 h3 H => ?_
 refine Tc (aIK _ _ _ h3) ?_
 refine Z5 ?_
 refine eD ?_
 refine dI (φs' := [fSl aN a0.Free, fSl aM a0.Nodes, fSl aK a0.Defs, aA .i64 a0.Main, fEq v1, fSl (aB .i64) y3.1, fEq v2]) trivial rfl rfl (has rfl) (has rfl) (bC) (sz rfl) rfl rfl ?_
 refine Z5 ?_
 refine aT trivial rfl rfl (yO (fun y => fSt dK y) cP rfl) (fun b5 => ?_)
 refine dN ?_
 refine cW (φ := aF fT (⟨(⟨a0.Free, a0.Nodes, a0.Defs, a0.Main⟩ : ScopeProg), v1, y3.1, v2⟩ : Usage_text_R)) (v := ptr b4) [14, 3, 16, 21, 23] (hZ (aL.cons Ent.rfl (aL.cons Ent.rfl (aL.cons Ent.rfl (aL.cons Ent.rfl (aL.cons (aC1 hc_v1) (aL.cons Ent.rfl (aL.cons (aC1 hc_v2) aL.nil)))))))) (by intro s hs; simp only [List.mem_cons, List.not_mem_nil, or_false] at hs; rcases hs with rfl | rfl | rfl | rfl | rfl <;> rfl) ?_
 refine cY ?_
 refine cW (φ := fW cP (fun y => fSt dK y) (aQ.none : aQ Int Usage_channel)) (v := .map (some b5)) [26] aCz (by intro s hs; simp only [List.mem_cons, List.not_mem_nil, or_false] at hs; rcases hs with rfl <;> rfl) ?_
 refine cY ?_
 refine eI ?_
 refine eI ?_
 revert H; refine bs fun y4 h4 H => ?_
 refine Tc (aGr _ _ _ _ _ _ _ h4) ?_
 refine Z6 ?_
 refine cW (φ := fSl (gG cP (fun y => fSt dK y)) y4.1) (v := v1) [8] cT (by intro s hs; simp only [List.mem_cons, List.not_mem_nil, or_false] at hs; rcases hs with rfl <;> rfl) ?_
 refine aCW 2 (i := 4) (φs := [fSl aN (((⟨(⟨a0.Free, a0.Nodes, a0.Defs, a0.Main⟩ : ScopeProg), y1, y3.1, y2⟩ : Usage_text).ScopeProg).Free), fSl aM (((⟨(⟨a0.Free, a0.Nodes, a0.Defs, a0.Main⟩ : ScopeProg), y1, y3.1, y2⟩ : Usage_text).ScopeProg).Nodes), fSl aK (((⟨(⟨a0.Free, a0.Nodes, a0.Defs, a0.Main⟩ : ScopeProg), y1, y3.1, y2⟩ : Usage_text).ScopeProg).Defs), aA .i64 (((⟨(⟨a0.Free, a0.Nodes, a0.Defs, a0.Main⟩ : ScopeProg), y1, y3.1, y2⟩ : Usage_text).ScopeProg).Main), eF v1, fSl (aB .i64) ((⟨(⟨a0.Free, a0.Nodes, a0.Defs, a0.Main⟩ : ScopeProg), y1, y3.1, y2⟩ : Usage_text).sizes), eF v2]) (φs' := [fSl aN (((⟨(⟨a0.Free, a0.Nodes, a0.Defs, a0.Main⟩ : ScopeProg), y1, y3.1, y2⟩ : Usage_text).ScopeProg).Free), fSl aM (((⟨(⟨a0.Free, a0.Nodes, a0.Defs, a0.Main⟩ : ScopeProg), y1, y3.1, y2⟩ : Usage_text).ScopeProg).Nodes), fSl aK (((⟨(⟨a0.Free, a0.Nodes, a0.Defs, a0.Main⟩ : ScopeProg), y1, y3.1, y2⟩ : Usage_text).ScopeProg).Defs), aA .i64 (((⟨(⟨a0.Free, a0.Nodes, a0.Defs, a0.Main⟩ : ScopeProg), y1, y3.1, y2⟩ : Usage_text).ScopeProg).Main), fSl (gG cP (fun y => fSt dK y)) y4.1, fSl (aB .i64) ((⟨(⟨a0.Free, a0.Nodes, a0.Defs, a0.Main⟩ : ScopeProg), y1, y3.1, y2⟩ : Usage_text).sizes), eF v2]) rfl rfl rfl ?_
 refine cY ?_
 refine cW (φ := fSl (aB .i64) y4.2) (v := v2) [12] cT (by intro s hs; simp only [List.mem_cons, List.not_mem_nil, or_false] at hs; rcases hs with rfl <;> rfl) ?_
 refine aCW 2 (i := 6) (φs := [fSl aN (((⟨(⟨a0.Free, a0.Nodes, a0.Defs, a0.Main⟩ : ScopeProg), y1, y3.1, y2⟩ : Usage_text).ScopeProg).Free), fSl aM (((⟨(⟨a0.Free, a0.Nodes, a0.Defs, a0.Main⟩ : ScopeProg), y1, y3.1, y2⟩ : Usage_text).ScopeProg).Nodes), fSl aK (((⟨(⟨a0.Free, a0.Nodes, a0.Defs, a0.Main⟩ : ScopeProg), y1, y3.1, y2⟩ : Usage_text).ScopeProg).Defs), aA .i64 (((⟨(⟨a0.Free, a0.Nodes, a0.Defs, a0.Main⟩ : ScopeProg), y1, y3.1, y2⟩ : Usage_text).ScopeProg).Main), fSl (gG cP (fun y => fSt dK y)) y4.1, fSl (aB .i64) ((⟨(⟨a0.Free, a0.Nodes, a0.Defs, a0.Main⟩ : ScopeProg), y1, y3.1, y2⟩ : Usage_text).sizes), eF v2]) (φs' := [fSl aN (((⟨(⟨a0.Free, a0.Nodes, a0.Defs, a0.Main⟩ : ScopeProg), y1, y3.1, y2⟩ : Usage_text).ScopeProg).Free), fSl aM (((⟨(⟨a0.Free, a0.Nodes, a0.Defs, a0.Main⟩ : ScopeProg), y1, y3.1, y2⟩ : Usage_text).ScopeProg).Nodes), fSl aK (((⟨(⟨a0.Free, a0.Nodes, a0.Defs, a0.Main⟩ : ScopeProg), y1, y3.1, y2⟩ : Usage_text).ScopeProg).Defs), aA .i64 (((⟨(⟨a0.Free, a0.Nodes, a0.Defs, a0.Main⟩ : ScopeProg), y1, y3.1, y2⟩ : Usage_text).ScopeProg).Main), fSl (gG cP (fun y => fSt dK y)) y4.1, fSl (aB .i64) ((⟨(⟨a0.Free, a0.Nodes, a0.Defs, a0.Main⟩ : ScopeProg), y1, y3.1, y2⟩ : Usage_text).sizes), fSl (aB .i64) y4.2]) rfl rfl rfl ?_
 refine cY ?_
 cases H
 refine aI [] (by decide) ?_
 exact To
 exact fk
 kernel_rfl
def aBR (a0 : Int) (a1 : Int) : Option (Int × Int) :=
 (shrI .u64 a0 32).bind fun z1 =>
 (shrI .u64 a1 32).bind fun z2 =>
 (shrI .u64 (IntKind.wrap .u64 ((andI .u64 a0 4294967295) * (andI .u64 a1 4294967295))) 32).bind fun z3 =>
 (shrI .u64 (IntKind.wrap .u64 ((IntKind.wrap .u64 (z1 * (andI .u64 a1 4294967295))) + z3)) 32).bind fun z4 =>
 (shrI .u64 (IntKind.wrap .u64 ((andI .u64 (IntKind.wrap .u64 ((IntKind.wrap .u64 (z1 * (andI .u64 a1 4294967295))) + z3)) 4294967295) + (IntKind.wrap .u64 ((andI .u64 a0 4294967295) * z2)))) 32).bind fun z5 =>
 some (IntKind.wrap .u64 ((IntKind.wrap .u64 ((IntKind.wrap .u64 (z1 * z2)) + z4)) + z5), IntKind.wrap .u64 (a0 * a1))
theorem aHq  (a0 : Int) (a1 : Int) (r : Int × Int) (H : aBR a0 a1 = some r) : FnS Try.prog 92 [aA .u64 a0, aA .u64 a1] [] (dH [aA .u64 r.1, aA .u64 r.2]) (fun _ => []) := by
 unfold aBR at H
 refine bF Try.func92 rfl Try.ntmps92 rfl (fun β => ?_)
 revert H; refine B11 fun z1 h1 H => ?_
 revert H; refine B10 fun z2 h2 H => ?_
 refine Z12 ?_
 revert H; refine B2 fun z3 h3 H => ?_
 revert H; refine B11 fun z4 h4 H => ?_
 refine Z12 ?_
 revert H; refine B6 fun z5 h5 H => ?_
 refine Z11 ?_
 cases H
 exact gJ rfl (bQ rfl) (bQ rfl) rfl
def aA9 (a0 : Int) (a1 : Int) : Option (Int × Int) :=
 (aBR a0 a1).bind fun y1 =>
 some (y1.1, y1.2)
theorem aHP  (a0 : Int) (a1 : Int) (r : Int × Int) (H : aA9 a0 a1 = some r) : FnS Try.prog 77 [aA .u64 a0, aA .u64 a1] [] (dH [aA .u64 r.1, aA .u64 r.2]) (fun _ => []) := by
 unfold aA9 at H
 refine bF Try.func77 rfl Try.ntmps77 rfl (fun β => ?_)
 refine Z4 ?_
 refine aH ?_
 revert H; refine B6 fun y1 h1 H => ?_
 refine Tc (aHq _ _ _ h1) ?_
 refine Z12 ?_
 refine Z1 ?_
 cases H
 exact gJ rfl (bQ rfl) (bQ rfl) rfl
def uI  : Nat → (List Int) → Int → Option (List Int)
| 0, _, _ => none
| k + 1, x4, x5 =>
 if x5 < (x4.length : Int) then
  (slc x4 x5 (x4.length : Int)).bind fun y3 =>
  (slc x4 0 x5).bind fun y4 =>
  (chk (x5 + ((min (Int.toNat x5 - Int.toNat 0) (Int.toNat (x4.length : Int) - Int.toNat x5) : Nat) : Int))).bind fun z1 =>
  uI k (cpy x4 (List.drop (Int.toNat 0) x4) (Int.toNat x5) (min (Int.toNat x5 - Int.toNat 0) (Int.toNat (x4.length : Int) - Int.toNat x5))) z1
 else
  some x4
def rS (fuel : Nat) (a0 : List Int) (a1 : Int) : Option (List Int) :=
 if a1 < 0 then
  none
 else
  (aA9 (IntKind.wrap .u64 (a0.length : Int)) (IntKind.wrap .u64 a1)).bind fun y1 =>
  if 0 < y1.1 then
   none
  else
   if 9223372036854775807 < y1.2 then
    none
   else
    (mk 0 (IntKind.wrap .i64 y1.2)).bind fun y2 =>
    (uI fuel (cpy y2 a0 0 (min a0.length y2.length)) ((min a0.length y2.length : Nat) : Int)).bind fun x1 =>
    some x1
theorem aCb (fuel : Nat)  (a0 : List Int) (a1 : Int) (r : List Int) (H : rS fuel a0 a1 = some r) : FnS Try.prog 53 [fSl (aB .i64) a0, aA .i64 a1] [] fAny (fun v => [(fun v => aE v 41 (aB .i64) r) v]) := by
 unfold rS at H
 refine bF Try.func53 rfl Try.ntmps53 rfl (fun β => ?_)
 refine Z3 ?_
 refine aH ?_
 revert H; refine I4 (fun c1 H => ?_) fun c1 H => ?_
 refine Z2 ?_
 refine Yy (mL rfl hh aBm) ?_
 cases H
 refine Z6 ?_
 refine Yy (aCS rfl hh aBz aA8) ?_
 refine Z1 ?_
 refine Yy (aCS rfl hh aBz aA8) ?_
 revert H; refine bs fun y1 h1 H => ?_
 refine Tc (aHP _ _ _ h1) ?_
 refine Z6 ?_
 refine aH ?_
 revert H; refine I4 (fun c2 H => ?_) fun c2 H => ?_
 refine Z6 ?_
 refine Yy (mL rfl hh aBm) ?_
 cases H
 revert H; refine I4 (fun c3 H => ?_) fun c3 H => ?_
 refine Z2 ?_
 refine Yy (mL rfl hh aBm) ?_
 cases H
 refine Z5 ?_
 refine Yy (aCS rfl hh aA8 aBz) ?_
 revert H; refine bs fun y2 h2 H => ?_
 refine aT trivial rfl rfl (lW (t := (aB .i64)) (z := 0) rfl (has rfl) (et rfl) rfl ty_ze_41 rfl h2) (fun b1 => ?_)
 generalize hv_v1 : (Value.slice (some ⟨b1, 0, none⟩) _ _) = v1; clear hv_v1
 refine aW 0 rfl (fun hc_v1 => ?_)
 refine Z5 ?_
 refine T_copyF (ys := a0) trivial rfl rfl rfl (has rfl) (has rfl) (et rfl) ?_
 revert H; refine B2 fun o1 H Hr1 => ?_
 refine aX (ι := List Int) (fun i => o1 = i) (fun i => [(7, fEq v1)]) (fun i => [aE v1 41 (aB .i64) i]) ?_ ?_
 refine Z1 ?_
 refine Tl (ι := Nat × List Int × Int) (fun i => uI i.1 i.2.1 i.2.2 = _) (fun i => i.1) (fun i => [(7, fEq v1), (8, aA .i64 i.2.2)]) (fun i => [aE v1 41 (aB .i64) i.2.1]) (fuel, cpy y2 a0 0 (min a0.length y2.length), ((min a0.length y2.length : Nat) : Int)) H ?_
 clear H; rintro ⟨k1, x4, x5⟩ H
 replace H : uI k1 x4 x5 = _ := H
 try dsimp only
 obtain _ | k1 := k1
 rw [uI] at H; cases H
 rw [uI] at H
 refine aH ?_
 revert H; refine I6 (fun c4 H => ?_) fun c4 H => ?_
 revert H; refine B4 fun y3 h3 H => ?_
 revert H; refine bs fun y4 h4 H => ?_
 revert H; refine bs fun z1 h5 H => ?_
 apply bI (ods := [_, _, _, _, _, _, _, _, _, _]) 10 0 1 bH rfl rfl rfl
 refine ND ?_
 refine M3 ?_
 intros
 refine Mo 0 rfl (aFh (l := x5) (h := (x4.length : Int)) rfl hh (aCJ hh) aBL (el rfl) h3) fun _ => ?_
 refine M2 ?_
 intros
 refine Mo 0 rfl (aFh (l := 0) (h := x5) rfl hh aBL (aCJ hh) (el rfl) h4) fun _ => ?_
 refine N_copyR (od := odC [0] true (aA .i64 ((min (Int.toNat x5 - Int.toNat 0) (Int.toNat (x4.length : Int) - Int.toNat x5) : Nat) : Int)) [aE v1 41 (aB .i64) (cpy x4 (List.drop (Int.toNat 0) x4) (Int.toNat x5) (min (Int.toNat x5 - Int.toNat 0) (Int.toNat (x4.length : Int) - Int.toNat x5)))]) (p := 0) rfl (fun _ => rfl) (fun _ => rfl) trivial rfl rfl rfl rfl (has rfl) (has rfl) (et rfl) ⟨(aAR h3).1, (aAR h3).2, (aAR h4).1, (aAR h4).2⟩ (fun _ => ?_)
 refine M2 ?_
 intros
 refine Z4 ?_
 exact Tm ((k1, cpy x4 (List.drop (Int.toNat 0) x4) (Int.toNat x5) (min (Int.toNat x5 - Int.toNat 0) (Int.toNat (x4.length : Int) - Int.toNat x5)), z1)) ⟨H, ls⟩
 exact fk
 kernel_rfl
 refine Z6 ?_
 exact Tm (x4) (ij H)
 clear H; intro x1 hi; subst o1; have H := Hr1; clear Hr1; try dsimp only at H
 try dsimp only
 refine Z5 ?_
 cases H
 exact yP rfl (bQ rfl) (fun _ _ _ => trivial) rfl
def mF (fuel : Nat) (y1 : ScopeDef) : Nat → Int → (List (List Int)) → Option (List (List Int))
| 0, _, _ => none
| k + 1, x10, x11 =>
 if x10 < (y1.Chans.length : Int) then
  (idx y1.Chans x10).bind fun y4 =>
  (rS fuel [1] y4.Many).bind fun y5 =>
  (dU (x11 ++ ([y5] : List (List Int)))).bind fun z1 =>
  (chk (x10 + 1)).bind fun z2 =>
  mF fuel y1 k z2 z1
 else
  some x11
def nB (fuel : Nat) (a0 : Usage_text) : Nat → (List UsageDef) → Int → Option (List UsageDef)
| 0, _, _ => none
| k + 1, x4, x5 =>
 if x5 < (a0.ScopeProg.Defs.length : Int) then
  ((idx a0.ScopeProg.Defs x5).bind fun y1 =>
  (rS fuel [1] (y1.Chans.length : Int)).bind fun y2 =>
  (rS fuel [1] (y1.Rules.length : Int)).bind fun y3 =>
  (mF fuel y1 fuel 0 []).bind fun x7 =>
  (dU (x4 ++ ([(⟨y2, y3, x7⟩ : UsageDef)] : List UsageDef))).bind fun z3 =>
  some z3).bind fun x6 =>
  (chk (x5 + 1)).bind fun z4 =>
  nB fuel a0 k x6 z4
 else
  some x4
def uP (fuel : Nat) (a0 : Usage_text) : Option (List UsageDef) :=
 (nB fuel a0 fuel [] 0).bind fun x1 =>
 some x1
theorem aF8 (fuel : Nat)  (a0 : Usage_text) (r : List UsageDef) (H : uP fuel a0 = some r) : FnS Try.prog 23 [aF bG a0] [] fAny (fun v => [(fun v => bU v 40 dJ r) v]) := by
 unfold uP at H
 refine bF Try.func23 rfl Try.ntmps23 rfl (fun β => ?_)
 revert H; refine B6 fun o1 H Hr1 => ?_
 refine aX (ι := List UsageDef × Value) (fun i => o1 = i.1) (fun i => [(3, fEq i.2)]) (fun i => [bU i.2 40 dJ i.1]) ?_ ?_
 refine Z10 ?_
 refine yA dJ 40 ?_
 refine Tl (ι := Nat × List UsageDef × Int × Value) (fun i => nB fuel a0 i.1 i.2.1 i.2.2.1 = _) (fun i => i.1) (fun i => [(3, fEq i.2.2.2), (13, fSl aK a0.ScopeProg.Defs), (14, aA .i64 (a0.ScopeProg.Defs.length : Int)), (15, aA .i64 i.2.2.1)]) (fun i => [bU i.2.2.2 40 dJ i.2.1]) (fuel, [], 0, (.slice none 0 0)) H ?_
 clear H; rintro ⟨k1, x4, x5, v3⟩ H
 replace H : nB fuel a0 k1 x4 x5 = _ := H
 try dsimp only
 obtain _ | k1 := k1
 rw [nB] at H; cases H
 rw [nB] at H
 refine eA 0 rfl (fun hc_v3 => ?_)
 refine Z3 ?_
 refine aH ?_
 revert H; refine is (fun c1 H => ?_) fun c1 H => ?_
 revert H; refine B3 fun o2 H Hr2 => ?_
 refine aX (ι := List UsageDef × Value) (fun i => o2 = i.1) (fun i => [(13, fSl aK a0.ScopeProg.Defs), (14, aA .i64 (a0.ScopeProg.Defs.length : Int)), (15, aA .i64 x5), (3, fEq i.2)]) (fun i => [bU i.2 40 dJ i.1]) ?_ ?_
 revert H; refine B2 fun y1 h1 H => ?_
 refine Z2 ?_
 refine aT trivial rfl rfl (cN rfl tJ rfl) (fun b1 => ?_)
 refine dP (φs' := [fSl bE y1.Chans, fSl cB y1.Spots, fSl bK y1.Rules]) trivial rfl rfl (has rfl) (has rfl) (aO (bC) (aO (bC) (aO (bC) bY))) (sz rfl) rfl rfl rfl ?_
 refine Z1 ?_
 refine aH ?_
 revert H; refine bs fun y2 h2 H => ?_
 revert H; refine bs fun y3 h3 H => ?_
 apply bI (ods := [_, _, _, _, _, _, _, _, _, _, _, _, _]) 13 3 5 bH rfl rfl rfl
 refine ND ?_
 refine Mf (φ := fSl (aB .i64) [1]) (cS (t := (aB .i64)) (xs := [1]) rfl (et rfl) (aR.cons rfl (has rfl) (aS (aD trivial)) aR.nil) rfl rfl rfl) (fun b => cT) fun _ => ?_
 refine M3 ?_
 intros
 refine aBM (od := odN [2] true (fun _ v6 => eF v6) (fun _ v6 => [aE v6 41 (aB .i64) y2])) (p := 2) (τ := fun v => aE v 41 (aB .i64) y2) rfl (fun _ => rfl) (fun _ => rfl) trivial rfl rfl rfl (has rfl) (aJ.cons (has rfl) (aJ.cons (has rfl) aJ.nil)) rfl (cb rfl) (aCb fuel [1] (y1.Chans.length : Int) y2 h2) (fun _ => eB) (fun u1 v6 => ?_)
 refine Mf (φ := fSl (aB .i64) [1]) (cS (t := (aB .i64)) (xs := [1]) rfl (et rfl) (aR.cons rfl (has rfl) (aS (aD trivial)) aR.nil) rfl rfl rfl) (fun b => cT) fun _ => ?_
 refine M3 ?_
 intros
 refine aBM (od := odN [3] true (fun _ v8 => eF v8) (fun _ v8 => [aE v8 41 (aB .i64) y3])) (p := 3) (τ := fun v => aE v 41 (aB .i64) y3) rfl (fun _ => rfl) (fun _ => rfl) trivial rfl rfl rfl (has rfl) (aJ.cons (has rfl) (aJ.cons (has rfl) aJ.nil)) rfl (cb rfl) (aCb fuel [1] (y1.Rules.length : Int) y3 h3) (fun _ => eB) (fun u2 v8 => ?_)
 refine D2 4 9 _ v6 _ v8 (fun _ v6 _ v8 => fD [eF v6, eF v8, fEq (.slice none 0 0)]) rfl rfl (dR (ψs := [eF v6, eF v8, fEq (.slice none 0 0)]) rfl aBu rfl (aU.cons (has rfl) (aS (iV)) (aU.cons (has rfl) (aS (iV)) aU.nil)) rfl) (fun _ => ?_)
 refine Mn 4 (fun b4 => ptr b4) (fun b4 => aC b4 40 [fEq (.slice none 0 0), fEq (.slice none 0 0), fEq (.slice none 0 0)]) rfl (cN rfl tR rfl) (fun b4 u3 => ?_)
 refine wF (od := od3 4 9 11 [4] true (fun _ v6 _ v8 b4 _ => fAny) (fun _ v6 _ v8 b4 _ => [aC b4 40 [eF v6, eF v8, fEq (.slice none 0 0)]])) (p := 4) (φs' := [eF v6, eF v8, fEq (.slice none 0 0)]) rfl (fun _ => rfl) (fun _ => rfl) trivial rfl rfl rfl (has rfl) (has rfl) (aO (iV) (aO (iV) (aO (aD trivial) bY))) (sz rfl) rfl rfl rfl (fun _ => ?_)
 refine Z1 ?_
 refine lI 23 rfl gZ ?_
 refine lI 28 rfl gZ ?_
 refine lI 29 rfl (gQ (aL.cons gZ (aL.cons gZ (aL.cons Ent.rfl aL.nil)))) ?_
 refine aW 2 rfl (fun hc_v6 => ?_)
 refine aW 3 rfl (fun hc_v8 => ?_)
 refine bJ ?_
 refine T_blkE (aL.cons gZ (aL.cons gZ (aL.cons Ent.rfl aL.nil))) ?_
 revert H; refine B1 fun o3 H Hr3 => ?_
 refine aX (ι := List (List Int) × Value) (fun i => o3 = i.1) (fun i => [(3, fEq v3), (13, fSl aK a0.ScopeProg.Defs), (14, aA .i64 (a0.ScopeProg.Defs.length : Int)), (15, aA .i64 x5), (6, fEq (ptr b4))]) (fun i => [aC b4 40 [fEq v6, fEq v8, fEq i.2], aC b1 52 [fSl bE y1.Chans, fSl cB y1.Spots, fSl bK y1.Rules], bU v3 40 dJ x4, aE v6 41 (aB .i64) y2, aE v8 41 (aB .i64) y3, bU i.2 37 (cL 41 (aB .i64)) i.1]) ?_ ?_
 refine Z7 ?_
 refine yA (cL 41 (aB .i64)) 37 ?_
 refine aI [1, 2, 3, 4, 5, 0] (by decide) ?_
 refine Tl (ι := Nat × Int × List (List Int) × Value) (fun i => mF fuel y1 i.1 i.2.1 i.2.2.1 = _) (fun i => i.1) (fun i => [(3, fEq v3), (13, fSl aK a0.ScopeProg.Defs), (14, aA .i64 (a0.ScopeProg.Defs.length : Int)), (15, aA .i64 x5), (6, fEq (ptr b4)), (31, fSl bE y1.Chans), (32, aA .i64 (y1.Chans.length : Int)), (33, aA .i64 i.2.1)]) (fun i => [aC b4 40 [fEq v6, fEq v8, fEq i.2.2.2], aC b1 52 [fSl bE y1.Chans, fSl cB y1.Spots, fSl bK y1.Rules], bU v3 40 dJ x4, aE v6 41 (aB .i64) y2, aE v8 41 (aB .i64) y3, bU i.2.2.2 37 (cL 41 (aB .i64)) i.2.2.1]) (fuel, 0, [], (.slice none 0 0)) H ?_
 clear H; rintro ⟨k2, x10, x11, v11⟩ H
 replace H : mF fuel y1 k2 x10 x11 = _ := H
 try dsimp only
 obtain _ | k2 := k2
 rw [mF] at H; cases H
 rw [mF] at H
 refine eA 5 rfl (fun hc_v11 => ?_)
 refine Z3 ?_
 refine aH ?_
 revert H; refine is (fun c2 H => ?_) fun c2 H => ?_
 refine Z3 ?_
 refine aH ?_
 revert H; refine B2 fun y4 h4 H => ?_
 refine Z2 ?_
 refine aT trivial rfl rfl (cN rfl aBV rfl) (fun b5 => ?_)
 refine dP (φs' := [aA .i64 y4.At, aA .i64 y4.Many]) trivial rfl rfl (has rfl) (has rfl) (aO (aD trivial) (aO (aD trivial) bY)) (sz rfl) rfl rfl rfl ?_
 revert H; refine B1 fun y5 h5 H => ?_
 apply bI (ods := [_, _, _, _, _, _, _]) 7 2 9 bH rfl rfl rfl
 refine ND ?_
 refine M2 ?_
 intros
 refine Mf (φ := fSl (aB .i64) [1]) (cS (t := (aB .i64)) (xs := [1]) rfl (et rfl) (aR.cons rfl (has rfl) (aS (aD trivial)) aR.nil) rfl rfl rfl) (fun b => cT) fun _ => ?_
 refine M2 ?_
 intros
 refine aBM (od := odN [7] true (fun _ v13 => eF v13) (fun _ v13 => [aE v13 41 (aB .i64) y5])) (p := 7) (τ := fun v => aE v 41 (aB .i64) y5) rfl (fun _ => rfl) (fun _ => rfl) trivial rfl rfl rfl (has rfl) (aJ.cons (has rfl) (aJ.cons (has rfl) aJ.nil)) rfl (cb rfl) (aCb fuel [1] y4.Many y5 h5) (fun _ => eB) (fun u4 v13 => ?_)
 refine N_new (od := odN1 5 [8] true (fun _ v13 b7 _ => fEq (.slice (some ⟨b7, 0, none⟩) 1 1)) (fun _ v13 b7 _ => [aE (.slice (some ⟨b7, 0, none⟩) 1 1) 37 (tF 1) [[⟨eF v13, iV⟩]]])) (p := 8) (f := fun b7 => .slice (some ⟨b7, 0, none⟩) 1 1) (τ := fun b7 => aE (.slice (some ⟨b7, 0, none⟩) 1 1) 37 (tF 1) [[⟨eF v13, iV⟩]]) rfl (fun _ => rfl) (fun _ => rfl) trivial rfl rfl (cS (t := tF 1) (xs := [[⟨eF v13, iV⟩]]) rfl (et rfl) (aR.cons rfl (has rfl) (aS (iV)) aR.nil) rfl rfl rfl) (fun b7 u5 => ?_)
 refine Z1 ?_
 refine lI 42 rfl gZ ?_
 refine aW 7 rfl (fun hc_v13 => ?_)
 generalize hv_v14 : (Value.slice (some ⟨b7, 0, none⟩) 1 1) = v14; clear hv_v14
 refine T_fr8 ?_
 refine sC ?_
 refine T_fr8 ?_
 refine gL (p := 0) (f := (fun v => aE v 41 (aB .i64) y5)) (hf := (fun _ => eB)) rfl gZ ?_
 refine sL (o := (cL 41 (aB .i64))) (xs := ([y5] : List (List Int))) rfl rfl rfl ?_
 refine eA 0 rfl (fun hc_v14 => ?_)
 revert H; refine bs fun z1 h6 H => ?_
 refine T_fr7 ?_
 refine dN ?_
 refine aAS (q := (cL 41 (aB .i64))) trivial rfl rfl rfl (has rfl) (has rfl) (et rfl) rfl h6 (fun v15 => ?_)
 refine eA 0 rfl (fun hc_v15 => ?_)
 refine Z1 ?_
 refine eI ?_
 refine dI (φs' := [fEq v6, fEq v8, fEq v15]) trivial rfl rfl (has rfl) (has rfl) (aD hc_v15) (sz rfl) rfl rfl ?_
 revert H; refine B4 fun z2 h7 H => ?_
 refine Z3 ?_
 refine aI [0, 3, 4, 5, 6, 1] (by decide) ?_
 exact Tm ((k2, z2, z1, v15)) ⟨H, ls⟩
 exact fk
 kernel_rfl
 refine Z6 ?_
 exact Tm ((x11, v11)) (ij H)
 clear H; intro i hi; obtain ⟨x7, v9⟩ := i; subst o3; have H := Hr3; clear Hr3; try dsimp only at H
 try dsimp only
 refine eA 5 rfl (fun hc_v9 => ?_)
 refine Z3 ?_
 refine aT trivial rfl rfl (cS (t := tF 3) (xs := [[⟨fEq v6, aD hc_v6⟩, ⟨fEq v8, aD hc_v8⟩, ⟨fEq v9, aD hc_v9⟩]]) rfl (et rfl) (aR.cons rfl (has rfl) bO aR.nil) rfl rfl rfl) (fun b8 => ?_)
 generalize hv_v16 : (Value.slice (some ⟨b8, 0, none⟩) _ _) = v16; clear hv_v16
 refine sC ?_
 refine bJ ?_
 refine gL (p := 0) (f := (fun v => aE v 41 (aB .i64) y2)) (hf := (fun _ => eB)) rfl Ent.rfl ?_
 refine bJ ?_
 refine gL (p := 1) (f := (fun v => aE v 41 (aB .i64) y3)) (hf := (fun _ => eB)) rfl Ent.rfl ?_
 refine bJ ?_
 refine gL (p := 2) (f := (fun v => bU v 37 (cL 41 (aB .i64)) x7)) (hf := (fun _ => lQ)) rfl Ent.rfl ?_
 refine sL (o := dJ) (xs := ([(⟨y2, y3, x7⟩ : UsageDef)] : List UsageDef)) rfl rfl rfl ?_
 refine eA 0 rfl (fun hc_v16 => ?_)
 revert H; refine bs fun z3 h8 H => ?_
 refine eD ?_
 refine dN ?_
 refine aAS (q := dJ) trivial rfl rfl rfl (has rfl) (has rfl) (et rfl) rfl h8 (fun v17 => ?_)
 refine eA 0 rfl (fun hc_v17 => ?_)
 refine Z4 ?_
 refine aI [0] (by decide) ?_
 exact Tm ((z3, v17)) (ij H)
 exact fk
 kernel_rfl
 clear H; intro i hi; obtain ⟨x6, v4⟩ := i; subst o2; have H := Hr2; clear Hr2; try dsimp only at H
 try dsimp only
 refine eA 0 rfl (fun hc_v4 => ?_)
 revert H; refine B1 fun z4 h9 H => ?_
 refine Z3 ?_
 exact Tm ((k1, x6, z4, v4)) ⟨H, ls⟩
 refine Z6 ?_
 exact Tm ((x4, v3)) (ij H)
 clear H; intro i hi; obtain ⟨x1, v1⟩ := i; subst o1; have H := Hr1; clear Hr1; try dsimp only at H
 try dsimp only
 refine eA 0 rfl (fun hc_v1 => ?_)
 refine Z5 ?_
 cases H
 exact yP rfl (bQ rfl) (fun _ _ _ => trivial) rfl
def qK (a0 : Usage_text) (a1 : Int) (a2 : Int) : Option (Int) :=
 (idx a0.heads a1).bind fun y1 =>
 (idx a0.sizes y1).bind fun y2 =>
 (chk (y2 + a2)).bind fun z1 =>
 some z1
theorem aAn  (a0 : Usage_text) (a1 : Int) (a2 : Int) (r : Int) (H : qK a0 a1 a2 = some r) : FnS Try.prog 28 [aF bG a0, aA .i64 a1, aA .i64 a2] [] (aA .i64 r) (fun _ => []) := by
 unfold qK at H
 refine bF Try.func28 rfl Try.ntmps28 rfl (fun β => ?_)
 refine Z3 ?_
 refine aH ?_
 revert H; refine bs fun y1 h1 H => ?_
 revert H; refine bs fun y2 h2 H => ?_
 revert H; refine bs fun z1 h3 H => ?_
 apply bI (ods := [_, _, _, _, _, _, _, _, _, _, _, _, _, _, _, _]) 16 0 0 bH rfl rfl rfl
 refine ND ?_
 refine M8 ?_
 intros
 refine M8 ?_
 intros
 refine Z3 ?_
 cases H
 exact To
 exact fk
 kernel_rfl
def mM (a0 : Int) : Option (Int) :=
 if a0 = 1 then
  some 0
 else
  if a0 = 4 then
   some 2
  else
   some 1
theorem uZ  (a0 : Int) (r : Int) (H : mM a0 = some r) : FnS Try.prog 31 [aA .i64 a0] [] (aA .i64 r) (fun _ => []) := by
 unfold mM at H
 refine bF Try.func31 rfl Try.ntmps31 rfl (fun β => ?_)
 refine Z3 ?_
 refine aH ?_
 revert H; refine I8 (fun c1 H => ?_) fun c1 H => ?_
 refine Z7 ?_
 cases H
 exact To
 revert H; refine I5 (fun c2 H => ?_) fun c2 H => ?_
 refine Z7 ?_
 cases H
 exact To
 refine Z8 ?_
 cases H
 exact To
def pO (a0 : Int) (a1 : Int) : Option (Int) :=
 (chk (a0 + a1)).bind fun z1 =>
 some (min z1 2)
theorem zI  (a0 : Int) (a1 : Int) (r : Int) (H : pO a0 a1 = some r) : FnS Try.prog 68 [aA .i64 a0, aA .i64 a1] [] (aA .i64 r) (fun _ => []) := by
 unfold pO at H
 refine bF Try.func68 rfl Try.ntmps68 rfl (fun β => ?_)
 revert H; refine B6 fun z1 h1 H => ?_
 refine Z5 ?_
 cases H
 exact To
def pU (a0 : Usage_text) (a1 : Usage_channel) (a2 : Int) : Option (Bool) :=
 (idx a0.ScopeProg.Defs a1.def_).bind fun y1 =>
 (idx y1.Chans a1.index).bind fun y2 =>
 (idx a0.ScopeProg.Nodes a2).bind fun y3 =>
 some (decide (y2.Many = (y3.Args.length : Int)))
theorem aFi  (a0 : Usage_text) (a1 : Usage_channel) (a2 : Int) (r : Bool) (H : pU a0 a1 a2 = some r) : FnS Try.prog 71 [aF bG a0, fSt dK a1, aA .i64 a2] [] (aG r) (fun _ => []) := by
 unfold pU at H
 refine bF Try.func71 rfl Try.ntmps71 rfl (fun β => ?_)
 refine Z1 ?_
 refine aT trivial rfl rfl (cG rfl (has rfl) bO) (fun b1 => ?_)
 refine Z2 ?_
 refine aH ?_
 revert H; refine bs fun y1 h1 H => ?_
 revert H; refine bs fun y2 h2 H => ?_
 revert H; refine bs fun y3 h3 H => ?_
 apply bI (ods := [_, _, _, _, _, _, _, _, _, _, _, _, _, _, _, _, _, _, _, _, _, _, _, _, _, _, _]) 27 0 1 bH rfl rfl rfl
 refine ND ?_
 refine M8 ?_
 intros
 refine M8 ?_
 intros
 refine M8 ?_
 intros
 refine M3 ?_
 intros
 refine Z3 ?_
 cases H
 refine aI [] (by decide) ?_
 exact To
 exact fk
 kernel_rfl
end Go.Proofs.Ytmnbfgeljmhekaa
