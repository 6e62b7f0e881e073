/- Parts of the proof: lemmas, and the steps through the program. -/
import Derived.Test.YtmnbfgeljmhekaaGreatKg1
set_option linter.unusedVariables false
set_option linter.unusedSimpArgs false
set_option maxRecDepth 100000
set_option maxHeartbeats 2000000
namespace Go.Proofs.YtmnbfgeljmhekaaGreat
open Go.SX Go.SW Go.Dt
attribute [local irreducible] Code.wpIn wpListIn Exit.then Exit.inBlock
def aBp (a0 : Scope_speaks) : Option (Int) :=
 some 0
theorem aHk  (a0 : Scope_speaks) (r : Int) (H : aBp a0 = some r) : FnS Tryz.prog 148 [fSt aGs a0] [] (aA .i64 r) (fun _ => []) := by
 unfold aBp at H
 refine bB Tryz.func148 rfl Tryz.ntmps148 rfl (fun β => ?_)
 refine Z1 ?_
 refine Tn (cD rfl (has rfl) bJ) fun b1 => ?_
 refine Z6 ?_
 cases H
 refine aJ [] (by decide) ?_
 exact To
def aCL (a0 : Scope_travels) : Option (Int) :=
 some 1
theorem aIv  (a0 : Scope_travels) (r : Int) (H : aCL a0 = some r) : FnS Tryz.prog 149 [fSt aH4 a0] [] (aA .i64 r) (fun _ => []) := by
 unfold aCL at H
 refine bB Tryz.func149 rfl Tryz.ntmps149 rfl (fun β => ?_)
 refine Z1 ?_
 refine Tn (cD rfl (has rfl) bJ) fun b1 => ?_
 refine Z6 ?_
 cases H
 refine aJ [] (by decide) ?_
 exact To
def aBy (a0 : Scope_declares) : Option (Int) :=
 some 1
theorem aH6  (a0 : Scope_declares) (r : Int) (H : aBy a0 = some r) : FnS Tryz.prog 150 [fSt aG6 a0] [] (aA .i64 r) (fun _ => []) := by
 unfold aBy at H
 refine bB Tryz.func150 rfl Tryz.ntmps150 rfl (fun β => ?_)
 refine Z1 ?_
 refine Tn (cD rfl (has rfl) bJ) fun b1 => ?_
 refine Z6 ?_
 cases H
 refine aJ [] (by decide) ?_
 exact To
def aBI (a0 : Scope_decides) : Option (Int) :=
 some 2
theorem aIf  (a0 : Scope_decides) (r : Int) (H : aBI a0 = some r) : FnS Tryz.prog 151 [fSt aGj a0] [] (aA .i64 r) (fun _ => []) := by
 unfold aBI at H
 refine bB Tryz.func151 rfl Tryz.ntmps151 rfl (fun β => ?_)
 refine Z1 ?_
 refine Tn (cD rfl (has rfl) bJ) fun b1 => ?_
 refine Z6 ?_
 cases H
 refine aJ [] (by decide) ?_
 exact To
def aBq (a0 : Int) : Option (Int) :=
 some a0
theorem aF0  (a0 : Int) (r : Int) (H : aBq a0 = some r) : FnS Tryz.prog 152 [aA .i64 a0] [] (aA .i64 r) (fun _ => []) := by
 unfold aBq at H
 refine bB Tryz.func152 rfl Tryz.ntmps152 rfl (fun β => ?_)
 refine Z8 ?_
 cases H
 exact To
def mP : Value → Option Int
 | .iface 190 (.agg ⟨[]⟩) => aBp ⟨⟩
 | .iface 191 (.agg ⟨[]⟩) => aCL ⟨⟩
 | .iface 192 (.agg ⟨[]⟩) => aBy ⟨⟩
 | .iface 193 (.agg ⟨[]⟩) => aBI ⟨⟩
 | .iface 197 (.int .i64 n) => aBq n
 | _ => none
theorem aHw (v : Value) (r : Int) (H : mP v = some r) : Inv Tryz.prog v "cabotage/scope.kids" [] (aA .i64 r) := by
 unfold mP at H
 split at H
 ·exact ⟨_, _, 148, rfl, fun w => by kernel_rfl, (cb rfl), (aHk ⟨⟩ r H).args (aM.cons (qQ []) aM.nil)⟩
 ·exact ⟨_, _, 149, rfl, fun w => by kernel_rfl, (cb rfl), (aIv ⟨⟩ r H).args (aM.cons (qQ []) aM.nil)⟩
 ·exact ⟨_, _, 150, rfl, fun w => by kernel_rfl, (cb rfl), (aH6 ⟨⟩ r H).args (aM.cons (qQ []) aM.nil)⟩
 ·exact ⟨_, _, 151, rfl, fun w => by kernel_rfl, (cb rfl), (aIf ⟨⟩ r H).args (aM.cons (qQ []) aM.nil)⟩
 ·rename_i n; exact ⟨_, _, 152, rfl, fun w => by kernel_rfl, (cb rfl), (aF0 n r H).args aM.rfl⟩
 ·cases H
def nC (fuel : Nat) (a2 : Int) (y7 : ScopeNode) : Nat → Int → Option ((Unit) ⊕ (Scope_looker ⊕ Value))
| 0, _ => none
| k + 1, x8 =>
 if x8 < (y7.Args.length : Int) then
  (idx y7.Args x8).bind fun y27 =>
  (xQ fuel (⟨y27.Op, y27.N, y27.Kids⟩ : ScopeExp) a2).bind fun y28 =>
  match y28 with
  | Sum.inr pv16 => (some (Sum.inr pv16)).bind fun r => some (Sum.inr r)
  | Sum.inl y28 =>
  (chk (x8 + 1)).bind fun z1 =>
  nC fuel a2 y7 k z1
 else
  some (Sum.inl ())
def mE (fuel : Nat) (rec_scope_looker_node : Scope_looker → Int → Int → Option (Scope_looker ⊕ Value)) (y30 : ScopeDef) (z2 : Int) : Nat → Int → (List ByteArray) → (List ScopeNode) → (List ScopeDef) → Int → (List Int) → (List Bool) → (List Bool) → Option ((List ByteArray × List ScopeNode × List ScopeDef × Int × List Int × List Bool × List Bool) ⊕ ((Int × List ByteArray × List ScopeNode × List ScopeDef × Int × List Int × List Bool × List Bool) ⊕ (Scope_looker ⊕ Value)))
| 0, _, _, _, _, _, _, _, _ => none
| k + 1, x32, x33, x34, x35, x36, x37, x38, x39 =>
 if x32 < (y30.Rules.length : Int) then
  (idx y30.Rules x32).bind fun y33 =>
  (wP fuel (⟨y30.Chans, y30.Spots, y30.Rules⟩ : ScopeDef) (⟨y33.At, y33.Joins, y33.Node⟩ : ScopeRule)).bind fun y34 =>
  (chk (z2 + y34)).bind fun z3 =>
  (rec_scope_looker_node (⟨(⟨x33, x34, x35, x36⟩ : ScopeProg), x37, x38, x39⟩ : Scope_looker) y33.Node z3).bind fun y35 =>
  match y35 with
  | Sum.inr pv18 => ((some (Sum.inr pv18)).bind fun r => some (Sum.inr r)).bind fun r => some (Sum.inr r)
  | Sum.inl y35 =>
  (chk (x32 + 1)).bind fun z4 =>
  mE fuel rec_scope_looker_node y30 z2 k z4 y35.p.Free y35.p.Nodes y35.p.Defs y35.p.Main y35.sizes y35.met y35.defs
 else
  some (Sum.inl (x33, x34, x35, x36, x37, x38, x39))
def mJ (rec_scope_looker_node : Scope_looker → Int → Int → Option (Scope_looker ⊕ Value)) (y30 : ScopeDef) (z2 : Int) : Nat → Int → (List ByteArray) → (List ScopeNode) → (List ScopeDef) → Int → (List Int) → (List Bool) → (List Bool) → Option ((Int × List ByteArray × List ScopeNode × List ScopeDef × Int × List Int × List Bool × List Bool) ⊕ (Scope_looker ⊕ Value))
| 0, _, _, _, _, _, _, _, _ => none
| k + 1, x48, x49, x50, x51, x52, x53, x54, x55 =>
 if x48 < (y30.Spots.length : Int) then
  (idx y30.Spots x48).bind fun y36 =>
  (rec_scope_looker_node (⟨(⟨x49, x50, x51, x52⟩ : ScopeProg), x53, x54, x55⟩ : Scope_looker) y36.Node z2).bind fun y37 =>
  match y37 with
  | Sum.inr pv19 => (some (Sum.inr pv19)).bind fun r => some (Sum.inr r)
  | Sum.inl y37 =>
  (chk (x48 + 1)).bind fun z5 =>
  mJ rec_scope_looker_node y30 z2 k z5 y37.p.Free y37.p.Nodes y37.p.Defs y37.p.Main y37.sizes y37.met y37.defs
 else
  some (Sum.inl (z2, x49, x50, x51, x52, x53, x54, x55))
def mL (rec_scope_looker_node : Scope_looker → Int → Int → Option (Scope_looker ⊕ Value)) (y7 : ScopeNode) (x9 : Int) : Nat → Int → (List ByteArray) → (List ScopeNode) → (List ScopeDef) → Int → (List Int) → (List Bool) → (List Bool) → Option (Scope_looker ⊕ Value)
| 0, _, _, _, _, _, _, _, _ => none
| k + 1, x64, x65, x66, x67, x68, x69, x70, x71 =>
 if x64 < (y7.Kids.length : Int) then
  (idx y7.Kids x64).bind fun y38 =>
  (rec_scope_looker_node (⟨(⟨x65, x66, x67, x68⟩ : ScopeProg), x69, x70, x71⟩ : Scope_looker) y38 x9).bind fun y39 =>
  match y39 with
  | Sum.inr pv20 => some (Sum.inr pv20)
  | Sum.inl y39 =>
  (chk (x64 + 1)).bind fun z6 =>
  mL rec_scope_looker_node y7 x9 k z6 y39.p.Free y39.p.Nodes y39.p.Defs y39.p.Main y39.sizes y39.met y39.defs
 else
  some (Sum.inl (⟨(⟨x65, x66, x67, x68⟩ : ScopeProg), x69, x70, x71⟩ : Scope_looker))
def fC : Nat → Scope_looker → Int → Int → Option (Scope_looker ⊕ Value)
| 0, _, _, _ => none
| fuel + 1, a0, a1, a2 =>
 (if 0 ≤ a1 then
  if a1 < (a0.p.Nodes.length : Int) then
   (idx a0.met a1).bind fun y1 =>
   (bQ (!y1)).bind fun y2 =>
   match y2 with
   | Sum.inr pv1 => (some (Sum.inr pv1)).bind fun r => some (Sum.inr r)
   | Sum.inl y2 =>
   some (Sum.inl ())
  else
   (bQ false).bind fun y3 =>
   match y3 with
   | Sum.inr pv2 => (some (Sum.inr pv2)).bind fun r => some (Sum.inr r)
   | Sum.inl y3 =>
   some (Sum.inl ())
 else
  (bQ false).bind fun y4 =>
  match y4 with
  | Sum.inr pv3 => (some (Sum.inr pv3)).bind fun r => some (Sum.inr r)
  | Sum.inl y4 =>
  some (Sum.inl ())).bind fun o => match o with
 | Sum.inr r => some r
 | Sum.inl _ =>
 (idx a0.met a1).bind fun y5 =>
 (idx a0.sizes a1).bind fun y6 =>
 (idx a0.p.Nodes a1).bind fun y7 =>
 (kD y7.Op).bind fun y8 =>
 ((iP y8).bind fun x1 =>
 bif !x1 then
  (mP y8).bind fun y9 =>
  (bQ (decide ((y7.Kids.length : Int) = y9))).bind fun y10 =>
  match y10 with
  | Sum.inr pv4 => (some (Sum.inr pv4)).bind fun r => some (Sum.inr r)
  | Sum.inl y10 =>
  some (Sum.inl ())
 else
  (bQ false).bind fun y11 =>
  match y11 with
  | Sum.inr pv5 => (some (Sum.inr pv5)).bind fun r => some (Sum.inr r)
  | Sum.inl y11 =>
  some (Sum.inl ())).bind fun o => match o with
 | Sum.inr r => some r
 | Sum.inl _ =>
 ((eW 190 (.agg #[]) y8).bind fun y12 =>
 match y12 with
 | (u1, x3) =>
 bif x3 then
  if 0 ≤ y7.N then
   (bQ (decide (y7.N < a2))).bind fun y13 =>
   match y13 with
   | Sum.inr pv6 => (some (Sum.inr pv6)).bind fun r => some (Sum.inr r)
   | Sum.inl y13 =>
   some (Sum.inl (min (y7.Args.length : Int) 3))
  else
   (bQ false).bind fun y14 =>
   match y14 with
   | Sum.inr pv7 => (some (Sum.inr pv7)).bind fun r => some (Sum.inr r)
   | Sum.inl y14 =>
   some (Sum.inl (min (y7.Args.length : Int) 3))
 else
  (eW 191 (.agg #[]) y8).bind fun y15 =>
  match y15 with
  | (u2, x4) =>
  bif x4 then
   if 0 ≤ y7.N then
    (bQ (decide (y7.N < a2))).bind fun y16 =>
    match y16 with
    | Sum.inr pv8 => (some (Sum.inr pv8)).bind fun r => some (Sum.inr r)
    | Sum.inl y16 =>
    some (Sum.inl 0)
   else
    (bQ false).bind fun y17 =>
    match y17 with
    | Sum.inr pv9 => (some (Sum.inr pv9)).bind fun r => some (Sum.inr r)
    | Sum.inl y17 =>
    some (Sum.inl 0)
  else
   (eW 192 (.agg #[]) y8).bind fun y18 =>
   match y18 with
   | (u3, x5) =>
   bif x5 then
    if 0 ≤ y7.N then
     if y7.N < (a0.p.Defs.length : Int) then
      (idx a0.defs y7.N).bind fun y19 =>
      (bQ (!y19)).bind fun y20 =>
      match y20 with
      | Sum.inr pv10 => (some (Sum.inr pv10)).bind fun r => some (Sum.inr r)
      | Sum.inl y20 =>
      some (Sum.inl 0)
     else
      (bQ false).bind fun y21 =>
      match y21 with
      | Sum.inr pv11 => (some (Sum.inr pv11)).bind fun r => some (Sum.inr r)
      | Sum.inl y21 =>
      some (Sum.inl 0)
    else
     (bQ false).bind fun y22 =>
     match y22 with
     | Sum.inr pv12 => (some (Sum.inr pv12)).bind fun r => some (Sum.inr r)
     | Sum.inl y22 =>
     some (Sum.inl 0)
   else
    (eW 193 (.agg #[]) y8).bind fun y23 =>
    match y23 with
    | (u4, x6) =>
    bif x6 then
     (bQ (decide (y7.N = 0))).bind fun y24 =>
     match y24 with
     | Sum.inr pv13 => (some (Sum.inr pv13)).bind fun r => some (Sum.inr r)
     | Sum.inl y24 =>
     some (Sum.inl 1)
    else
     (bQ (decide (y7.N = 0))).bind fun y25 =>
     match y25 with
     | Sum.inr pv14 => (some (Sum.inr pv14)).bind fun r => some (Sum.inr r)
     | Sum.inl y25 =>
     some (Sum.inl 0)).bind fun o => match o with
 | Sum.inr r => some r
 | Sum.inl x2 =>
 (bQ (decide ((y7.Args.length : Int) = x2))).bind fun y26 =>
 match y26 with
 | Sum.inr pv15 => some (Sum.inr pv15)
 | Sum.inl y26 =>
 (nC fuel a2 y7 fuel 0).bind fun o => match o with
 | Sum.inr r => some r
 | Sum.inl _ =>
 (if y7.Op = 4 then
  (idx a0.defs y7.N).bind fun y29 =>
  (idx a0.p.Defs y7.N).bind fun y30 =>
  (vL fuel (⟨y30.Chans, y30.Spots, y30.Rules⟩ : ScopeDef)).bind fun y31 =>
  match y31 with
  | Sum.inr pv17 => (some (Sum.inr pv17)).bind fun r => some (Sum.inr r)
  | Sum.inl y31 =>
  (uJ (⟨y30.Chans, y30.Spots, y30.Rules⟩ : ScopeDef)).bind fun y32 =>
  (chk (a2 + y32)).bind fun z2 =>
  (mE fuel (fC fuel) y30 z2 fuel 0 a0.p.Free a0.p.Nodes a0.p.Defs a0.p.Main (a0.sizes.set a1.toNat a2) (a0.met.set a1.toNat true) (a0.defs.set y7.N.toNat true)).bind fun o => match o with
  | Sum.inr r => some r
  | Sum.inl (x17, x18, x19, x20, x21, x22, x23) =>
  mJ (fC fuel) y30 z2 fuel 0 x17 x18 x19 x20 x21 x22 x23
 else
  some (Sum.inl (a2, a0.p.Free, a0.p.Nodes, a0.p.Defs, a0.p.Main, a0.sizes.set a1.toNat a2, a0.met.set a1.toNat true, a0.defs))).bind fun o => match o with
 | Sum.inr r => some r
 | Sum.inl (x9, x10, x11, x12, x13, x14, x15, x16) =>
 mL (fC fuel) y7 x9 fuel 0 x10 x11 x12 x13 x14 x15 x16
theorem aDJ : ∀ (fuel : Nat), (∀ (p0 : Nat) (a0 : Scope_looker) (a1 : Int) (a2 : Int) (r : Scope_looker ⊕ Value) (H : fC fuel a0 a1 a2 = some r), FnE Tryz.prog 110 [fEq (.pointer (some ⟨p0, 0, none⟩)), aA .i64 a1, aA .i64 a2] [aAo p0 a0] r (fun r => dH []) (fun r => [aAo p0 r])) := by
 intro fuel
 induction fuel with
 | zero => exact fun p0 a0 a1 a2 r H => (by rw [fC] at H; cases H)
 | succ fuel ih =>
 have ih_scope_looker_node := ih
 refine ?_
 intro p0 a0 a1 a2 r H
 rw [fC] at H
 refine sC Tryz.func110 rfl Tryz.ntmps110 rfl (fun β => ?_)
 refine xH (fun v1 v2 v3 => ?_)
 refine aS 1 rfl (fun hc_v1 => ?_)
 refine aS 2 rfl (fun hc_v2 => ?_)
 refine aS 3 rfl (fun hc_v3 => ?_)
 revert H; refine bs fun o1 H Hr1 => ?_
 refine aW (ι := Unit) (fun i => o1 = Sum.inl ()) (fun i => [(0, fEq (ptr p0)), (1, aA .i64 a1), (2, aA .i64 a2)]) (fun i => [aC p0 151 [fSl aN a0.p.Free, fSl aL a0.p.Nodes, fSl aI a0.p.Defs, aA .i64 a0.p.Main, fEq v1, fEq v2, fEq v3], aE v1 3 (aB .i64) a0.sizes, aE v2 4 cA a0.met, aE v3 4 cA a0.defs]) ?_ ?_
 revert H; refine I4 (fun c1 H => ?_) fun c1 H => ?_
 revert H; refine I10 (fun c2 H => ?_) fun c2 H => ?_
 revert H; refine B5 fun y1 h1 H => ?_
 refine Z1 ?_
 refine Yh 2 rfl c2 (iG rfl rfl hh (sc rfl) (bN h1) rfl) ?_
 revert H; refine B2 fun y2 h2 H => ?_
 rcases y2 with y2 | pv1 <;> dsimp only at H
 refine Tc (aY _ _ h2).s ?_
 refine Z1 ?_
 exact Tm (()) (ij H)
 refine Tp (aY _ _ h2).pan ?_
 revert H; refine B1 fun r1 H e1 => ?_
 cases e1; cases Hr1
 cases H
 exact bZ
 revert H; refine B9 fun y3 h3 H => ?_
 rcases y3 with y3 | pv2 <;> dsimp only at H
 refine Tc (aY _ _ h3).s ?_
 refine Z1 ?_
 exact Tm (()) (ij H)
 refine Tp (aY _ _ h3).pan ?_
 revert H; refine B1 fun r2 H e2 => ?_
 cases e2; cases Hr1
 cases H
 exact bZ
 refine Z12 ?_
 revert H; refine B7 fun y4 h4 H => ?_
 rcases y4 with y4 | pv3 <;> dsimp only at H
 refine Tc (aY _ _ h4).s ?_
 refine Z1 ?_
 exact Tm (()) (ij H)
 refine Tp (aY _ _ h4).pan ?_
 revert H; refine B1 fun r3 H e3 => ?_
 cases e3; cases Hr1
 cases H
 exact bZ
 clear H; intro i hi; subst o1; have H := Hr1; clear Hr1; try dsimp only at H
 try dsimp only
 refine aG ?_
 revert H; refine bs fun y5 h5 H => ?_
 revert H; refine bs fun y6 h6 H => ?_
 apply bE (ods := [_, _, _, _, _, _, _, _, _, _, _, _, _, _, _]) 15 0 4 bF rfl rfl rfl
 refine ND ?_
 refine M8 ?_
 intros
 refine M4 ?_
 intros
 refine mB (od := odC [2] true (fAny) [aE v2 4 cA (a0.met.set a1.toNat true)]) (p := 2) (z' := true) rfl (fun _ => rfl) (fun _ => rfl) trivial rfl rfl rfl rfl (has rfl) (has rfl) (aD trivial) (sz rfl) (bN h5) rfl rfl (fun _ => ?_)
 refine M1 ?_
 intros
 refine mB (od := odC [1] true (fAny) [aE v1 3 (aB .i64) (a0.sizes.set a1.toNat a2)]) (p := 1) (z' := a2) rfl (fun _ => rfl) (fun _ => rfl) trivial rfl rfl rfl rfl (has rfl) (has rfl) (aD trivial) (sz rfl) (bN h6) rfl rfl (fun _ => ?_)
 revert H; refine B9 fun y7 h7 H => ?_
 refine Z2 ?_
 refine Tn (cL rfl oT rfl) fun b1 => ?_
 refine dG (φs' := [aA .i64 y7.Op, aA .i64 y7.N, fSl bA y7.Args, fSl (aB .i64) y7.Kids]) trivial rfl rfl (has rfl) (has rfl) (aO (aD trivial) (aO (aD trivial) (aO (aZ) (aO (aZ) bX)))) (sz rfl) rfl rfl rfl ?_
 revert H; refine B4 fun y8 h8 H => ?_
 refine Tc (aIt _ _ h8) ?_
 revert H; refine B2 fun o2 H Hr2 => ?_
 refine aW (ι := Unit) (fun i => o2 = Sum.inl ()) (fun i => [(0, fEq (ptr p0)), (2, aA .i64 a2), (6, fEq (ptr b1)), (7, eH y8)]) (fun i => [aC b1 51 [aA .i64 y7.Op, aA .i64 y7.N, fSl bA y7.Args, fSl (aB .i64) y7.Kids], aC p0 151 [fSl aN a0.p.Free, fSl aL a0.p.Nodes, fSl aI a0.p.Defs, aA .i64 a0.p.Main, fEq v1, fEq v2, fEq v3], aE v1 3 (aB .i64) (a0.sizes.set a1.toNat a2), aE v2 4 cA (a0.met.set a1.toNat true), aE v3 4 cA a0.defs]) ?_ ?_
 revert H; refine bs fun x1 h9 H => ?_
 revert H; refine cs (fun c3 H => ?_) fun c3 H => ?_
 revert H; refine bs fun y9 h10 H => ?_
 apply bE (ods := [_, _, _, _, _, _, _, _, _, _]) 10 0 5 bF rfl rfl rfl
 refine ND ?_
 refine M1 ?_
 intros
 refine My (aAN rfl (cW rfl gU) aDb h9) fun _ => ?_
 refine M5 ?_
 intros
 refine N_callI (od := odC [] true (aA .i64 y9) []) (Φ := aA .i64 y9) rfl (fun _ => rfl) ⟨_, _, rfl, rfl, c3⟩ rfl rfl (cW rfl gU) aK.nil (aHw y8 y9 h10) (fun _ => ?_)
 refine M2 ?_
 intros
 revert H; refine B1 fun y10 h11 H => ?_
 rcases y10 with y10 | pv4 <;> dsimp only at H
 refine Tc (aY _ _ h11).s ?_
 refine Z1 ?_
 exact Tm (()) (ij H)
 refine Tp (aY _ _ h11).pan ?_
 revert H; refine B1 fun r4 H e4 => ?_
 cases e4; cases Hr2
 cases H
 exact bZ
 exact fk
 kernel_rfl
 apply bE (ods := [_, _, _, _, _, _, _, _, _, _]) 10 0 5 bF rfl rfl rfl
 refine ND ?_
 refine M1 ?_
 intros
 refine My (aAN rfl (cW rfl gU) aDb h9) fun _ => ?_
 refine M8 ?_
 intros
 revert H; refine B1 fun y11 h12 H => ?_
 rcases y11 with y11 | pv5 <;> dsimp only at H
 refine Tc (aY _ _ h12).s ?_
 refine Z1 ?_
 exact Tm (()) (ij H)
 refine Tp (aY _ _ h12).pan ?_
 revert H; refine B1 fun r5 H e5 => ?_
 cases e5; cases Hr2
 cases H
 exact bZ
 exact fk
 kernel_rfl
 clear H; intro i hi; subst o2; have H := Hr2; clear Hr2; try dsimp only at H
 try dsimp only
 revert H; refine B3 fun o3 H Hr3 => ?_
 refine aW (ι := Int) (fun i => o3 = Sum.inl i) (fun i => [(0, fEq (ptr p0)), (2, aA .i64 a2), (6, fEq (ptr b1)), (8, aA .i64 i)]) (fun i => [aC b1 51 [aA .i64 y7.Op, aA .i64 y7.N, fSl bA y7.Args, fSl (aB .i64) y7.Kids], aC p0 151 [fSl aN a0.p.Free, fSl aL a0.p.Nodes, fSl aI a0.p.Defs, aA .i64 a0.p.Main, fEq v1, fEq v2, fEq v3], aE v1 3 (aB .i64) (a0.sizes.set a1.toNat a2), aE v2 4 cA (a0.met.set a1.toNat true), aE v3 4 cA a0.defs]) ?_ ?_
 revert H; refine B5 fun y12 h13 H => ?_
 obtain ⟨u1, x3⟩ := y12; dsimp only at H
 refine Yy (wN rfl (cW rfl gU) aD9 aGk h13) ?_
 refine Z3 ?_
 revert H; refine cs (fun c4 H => ?_) fun c4 H => ?_
 refine Z12 ?_
 revert H; refine I1 (fun c5 H => ?_) fun c5 H => ?_
 revert H; refine B5 fun y13 h14 H => ?_
 rcases y13 with y13 | pv6 <;> dsimp only at H
 refine Tc (aY _ _ h14).s ?_
 refine Z3 ?_
 exact Tm (min (y7.Args.length : Int) 3) (ij H)
 refine Tp (aY _ _ h14).pan ?_
 revert H; refine B2 fun r6 H e6 => ?_
 cases e6; cases Hr3
 cases H
 exact bZ
 revert H; refine B5 fun y14 h15 H => ?_
 rcases y14 with y14 | pv7 <;> dsimp only at H
 refine Tc (aY _ _ h15).s ?_
 refine Z3 ?_
 exact Tm (min (y7.Args.length : Int) 3) (ij H)
 refine Tp (aY _ _ h15).pan ?_
 revert H; refine B2 fun r7 H e7 => ?_
 cases e7; cases Hr3
 cases H
 exact bZ
 revert H; refine B2 fun y15 h16 H => ?_
 obtain ⟨u2, x4⟩ := y15; dsimp only at H
 refine Yy (wN rfl (cW rfl gU) aDS aIg h16) ?_
 refine Z3 ?_
 revert H; refine cs (fun c6 H => ?_) fun c6 H => ?_
 revert H; refine I6 (fun c7 H => ?_) fun c7 H => ?_
 revert H; refine B5 fun y16 h17 H => ?_
 rcases y16 with y16 | pv8 <;> dsimp only at H
 refine Tc (aY _ _ h17).s ?_
 refine Z3 ?_
 exact Tm (0) (ij H)
 refine Tp (aY _ _ h17).pan ?_
 revert H; refine B2 fun r8 H e8 => ?_
 cases e8; cases Hr3
 cases H
 exact bZ
 revert H; refine B5 fun y17 h18 H => ?_
 rcases y17 with y17 | pv9 <;> dsimp only at H
 refine Tc (aY _ _ h18).s ?_
 refine Z3 ?_
 exact Tm (0) (ij H)
 refine Tp (aY _ _ h18).pan ?_
 revert H; refine B2 fun r9 H e9 => ?_
 cases e9; cases Hr3
 cases H
 exact bZ
 revert H; refine B2 fun y18 h19 H => ?_
 obtain ⟨u3, x5⟩ := y18; dsimp only at H
 refine Yy (wN rfl (cW rfl gU) aFB aIE h19) ?_
 refine Z3 ?_
 revert H; refine cs (fun c8 H => ?_) fun c8 H => ?_
 revert H; refine I1 (fun c9 H => ?_) fun c9 H => ?_
 revert H; refine is (fun c10 H => ?_) fun c10 H => ?_
 revert H; refine bs fun y19 h20 H => ?_
 apply bE (ods := [_, _, _, _, _, _, _, _, _, _, _, _, _, _, _, _, _, _, _, _, _, _, _, _, _]) 25 0 5 bF rfl rfl rfl
 refine ND ?_
 refine M8 ?_
 intros
 refine M8 ?_
 intros
 refine M6 ?_
 intros
 refine eF (od := odC [4] false (aH y19) [dK]) (ps := [4]) (φ := aH y19) rfl (fun _ => rfl) ⟨_, _, rfl, rfl, c10⟩ rfl rfl (iG rfl rfl (has rfl) (sc rfl) (bN h20) rfl) (fun _ => ?_)
 refine M2 ?_
 intros
 revert H; refine B1 fun y20 h21 H => ?_
 rcases y20 with y20 | pv10 <;> dsimp only at H
 refine Tc (aY _ _ h21).s ?_
 refine Z3 ?_
 exact Tm (0) (ij H)
 refine Tp (aY _ _ h21).pan ?_
 revert H; refine B2 fun r10 H e10 => ?_
 cases e10; cases Hr3
 cases H
 exact bZ
 exact fk
 kernel_rfl
 apply bE (ods := [_, _, _, _, _, _, _, _, _, _, _, _, _, _, _, _, _, _, _, _, _, _, _, _, _]) 25 0 5 bF rfl rfl rfl
 refine ND ?_
 refine M8 ?_
 intros
 refine M8 ?_
 intros
 refine M8 ?_
 intros
 refine M1 ?_
 intros
 revert H; refine B1 fun y21 h22 H => ?_
 rcases y21 with y21 | pv11 <;> dsimp only at H
 refine Tc (aY _ _ h22).s ?_
 refine Z3 ?_
 exact Tm (0) (ij H)
 refine Tp (aY _ _ h22).pan ?_
 revert H; refine B2 fun r11 H e11 => ?_
 cases e11; cases Hr3
 cases H
 exact bZ
 exact fk
 kernel_rfl
 apply bE (ods := [_, _, _, _, _, _, _, _, _, _, _, _, _, _, _, _, _, _, _, _, _, _, _, _, _]) 25 0 5 bF rfl rfl rfl
 refine ND ?_
 refine M8 ?_
 intros
 refine M8 ?_
 intros
 refine M8 ?_
 intros
 refine M1 ?_
 intros
 revert H; refine B1 fun y22 h23 H => ?_
 rcases y22 with y22 | pv12 <;> dsimp only at H
 refine Tc (aY _ _ h23).s ?_
 refine Z3 ?_
 exact Tm (0) (ij H)
 refine Tp (aY _ _ h23).pan ?_
 revert H; refine B2 fun r12 H e12 => ?_
 cases e12; cases Hr3
 cases H
 exact bZ
 exact fk
 kernel_rfl
 revert H; refine B2 fun y23 h24 H => ?_
 obtain ⟨u4, x6⟩ := y23; dsimp only at H
 refine Yy (wN rfl (cW rfl gU) aEE aId h24) ?_
 refine Z3 ?_
 revert H; refine cs (fun c11 H => ?_) fun c11 H => ?_
 revert H; refine B8 fun y24 h25 H => ?_
 rcases y24 with y24 | pv13 <;> dsimp only at H
 refine Tc (aY _ _ h25).s ?_
 refine Z3 ?_
 exact Tm (1) (ij H)
 refine Tp (aY _ _ h25).pan ?_
 revert H; refine B2 fun r13 H e13 => ?_
 cases e13; cases Hr3
 cases H
 exact bZ
 revert H; refine B5 fun y25 h26 H => ?_
 rcases y25 with y25 | pv14 <;> dsimp only at H
 refine Tc (aY _ _ h26).s ?_
 refine Z3 ?_
 exact Tm (0) (ij H)
 refine Tp (aY _ _ h26).pan ?_
 revert H; refine B2 fun r14 H e14 => ?_
 cases e14; cases Hr3
 cases H
 exact bZ
 clear H; intro x2 hi; subst o3; have H := Hr3; clear Hr3; try dsimp only at H
 try dsimp only
 revert H; refine B6 fun y26 h27 H => ?_
 rcases y26 with y26 | pv15 <;> dsimp only at H
 refine Tc (aY _ _ h27).s ?_
 revert H; refine B1 fun o4 H Hr4 => ?_
 refine aW (ι := Unit) (fun i => o4 = Sum.inl ()) (fun i => [(0, fEq (ptr p0)), (2, aA .i64 a2), (6, fEq (ptr b1))]) (fun i => [aC b1 51 [aA .i64 y7.Op, aA .i64 y7.N, fSl bA y7.Args, fSl (aB .i64) y7.Kids], aC p0 151 [fSl aN a0.p.Free, fSl aL a0.p.Nodes, fSl aI a0.p.Defs, aA .i64 a0.p.Main, fEq v1, fEq v2, fEq v3], aE v1 3 (aB .i64) (a0.sizes.set a1.toNat a2), aE v2 4 cA (a0.met.set a1.toNat true), aE v3 4 cA a0.defs]) ?_ ?_
 refine Z7 ?_
 refine Tl (ι := Nat × Int) (fun i => nC fuel a2 y7 i.1 i.2 = _) (fun i => i.1) (fun i => [(0, fEq (ptr p0)), (2, aA .i64 a2), (6, fEq (ptr b1)), (154, fSl bA y7.Args), (155, aA .i64 (y7.Args.length : Int)), (156, aA .i64 i.2)]) (fun i => [aC b1 51 [aA .i64 y7.Op, aA .i64 y7.N, fSl bA y7.Args, fSl (aB .i64) y7.Kids], aC p0 151 [fSl aN a0.p.Free, fSl aL a0.p.Nodes, fSl aI a0.p.Defs, aA .i64 a0.p.Main, fEq v1, fEq v2, fEq v3], aE v1 3 (aB .i64) (a0.sizes.set a1.toNat a2), aE v2 4 cA (a0.met.set a1.toNat true), aE v3 4 cA a0.defs]) (fuel, 0) H ?_
 clear H; rintro ⟨k1, x8⟩ H
 replace H : nC fuel a2 y7 k1 x8 = _ := H
 try dsimp only
 obtain _ | k1 := k1
 rw [nC] at H; cases H
 rw [nC] at H
 refine Z3 ?_
 refine aG ?_
 revert H; refine is (fun c12 H => ?_) fun c12 H => ?_
 refine Z3 ?_
 refine aG ?_
 revert H; refine B2 fun y27 h28 H => ?_
 refine Z2 ?_
 refine Tn (cL rfl aBU rfl) fun b2 => ?_
 refine dG (φs' := [aA .i64 y27.Op, aA .i64 y27.N, fX y27.Kids]) trivial rfl rfl (has rfl) (has rfl) (aO (aD trivial) (aO (aD trivial) (aO (zN) bX))) (sz rfl) rfl rfl rfl ?_
 revert H; refine B4 fun y28 h29 H => ?_
 rcases y28 with y28 | pv16 <;> dsimp only at H
 refine Tc (aC8 _ _ _ _ h29).s ?_
 revert H; refine B4 fun z1 h30 H => ?_
 refine Z3 ?_
 refine aJ [1, 2, 3, 4, 5] (by decide) ?_
 exact Tm ((k1, z1)) ⟨H, ls⟩
 refine Tp (aC8 _ _ _ _ h29).pan ?_
 revert H; refine B5 fun r15 H e15 => ?_
 cases e15; cases Hr4
 cases H
 exact bZ
 refine Z6 ?_
 exact Tm (()) (ij H)
 clear H; intro i hi; subst o4; have H := Hr4; clear Hr4; try dsimp only at H
 try dsimp only
 revert H; refine bs fun o5 H Hr5 => ?_
 refine aW (ι := Int × List ByteArray × List ScopeNode × List ScopeDef × Int × List Int × List Bool × List Bool × Value × Value × Value) (fun i => o5 = Sum.inl (i.1, i.2.1, i.2.2.1, i.2.2.2.1, i.2.2.2.2.1, i.2.2.2.2.2.1, i.2.2.2.2.2.2.1, i.2.2.2.2.2.2.2.1)) (fun i => [(0, fEq (ptr p0)), (2, aA .i64 i.1), (6, fEq (ptr b1))]) (fun i => [aC b1 51 [aA .i64 y7.Op, aA .i64 y7.N, fSl bA y7.Args, fSl (aB .i64) y7.Kids], aC p0 151 [fSl aN i.2.1, fSl aL i.2.2.1, fSl aI i.2.2.2.1, aA .i64 i.2.2.2.2.1, fEq i.2.2.2.2.2.2.2.2.1, fEq i.2.2.2.2.2.2.2.2.2.1, fEq i.2.2.2.2.2.2.2.2.2.2], aE i.2.2.2.2.2.2.2.2.1 3 (aB .i64) i.2.2.2.2.2.1, aE i.2.2.2.2.2.2.2.2.2.1 4 cA i.2.2.2.2.2.2.1, aE i.2.2.2.2.2.2.2.2.2.2 4 cA i.2.2.2.2.2.2.2.1]) ?_ ?_
 revert H; refine I5 (fun c13 H => ?_) fun c13 H => ?_
 refine Z1 ?_
 refine aG ?_
 revert H; refine bs fun y29 h31 H => ?_
 apply bE (ods := [_, _, _, _, _, _, _, _]) 8 0 5 bF rfl rfl rfl
 refine ND ?_
 refine M7 ?_
 intros
 refine mB (od := odC [4] true (fAny) [aE v3 4 cA (a0.defs.set y7.N.toNat true)]) (p := 4) (z' := true) rfl (fun _ => rfl) (fun _ => rfl) trivial rfl rfl rfl rfl (has rfl) (has rfl) (aD trivial) (sz rfl) (bN h31) rfl rfl (fun _ => ?_)
 refine Z2 ?_
 refine aG ?_
 revert H; refine bs fun y30 h32 H => ?_
 apply bE (ods := [_, _, _, _, _, _, _, _, _, _, _]) 11 1 6 bF rfl rfl rfl
 refine ND ?_
 refine M8 ?_
 intros
 refine M1 ?_
 intros
 refine Mn 5 (fun b3 => ptr b3) (fun b3 => aC b3 99 [fEq (.slice none 0 0), fEq (.slice none 0 0), fEq (.slice none 0 0)]) rfl (cL rfl tS rfl) (fun b3 u5 => ?_)
 refine vV (od := od1 9 [5] true (fun b3 _ => fAny) (fun b3 _ => [aC b3 99 [fSl bC y30.Chans, fSl bV y30.Spots, fSl bH y30.Rules]])) (p := 5) (φs' := [fSl bC y30.Chans, fSl bV y30.Spots, fSl bH y30.Rules]) rfl (fun _ => rfl) (fun _ => rfl) trivial rfl rfl rfl (has rfl) (has rfl) (aO (aZ) (aO (aZ) (aO (aZ) bX))) (sz rfl) rfl rfl rfl (fun _ => ?_)
 revert H; refine B4 fun y31 h33 H => ?_
 rcases y31 with y31 | pv17 <;> dsimp only at H
 refine Tc (aDy _ _ _ h33).s ?_
 revert H; refine B4 fun y32 h34 H => ?_
 refine Tc (aHu _ _ h34) ?_
 revert H; refine bs fun z2 h35 H => ?_
 revert H; refine B3 fun o6 H Hr6 => ?_
 refine aW (ι := List ByteArray × List ScopeNode × List ScopeDef × Int × List Int × List Bool × List Bool × Value × Value × Value) (fun i => o6 = Sum.inl (i.1, i.2.1, i.2.2.1, i.2.2.2.1, i.2.2.2.2.1, i.2.2.2.2.2.1, i.2.2.2.2.2.2.1)) (fun i => [(0, fEq (ptr p0)), (2, aA .i64 z2), (6, fEq (ptr b1)), (11, fEq (ptr b3))]) (fun i => [aC b1 51 [aA .i64 y7.Op, aA .i64 y7.N, fSl bA y7.Args, fSl (aB .i64) y7.Kids], aC p0 151 [fSl aN i.1, fSl aL i.2.1, fSl aI i.2.2.1, aA .i64 i.2.2.2.1, fEq i.2.2.2.2.2.2.2.1, fEq i.2.2.2.2.2.2.2.2.1, fEq i.2.2.2.2.2.2.2.2.2], aC b3 99 [fSl bC y30.Chans, fSl bV y30.Spots, fSl bH y30.Rules], aE i.2.2.2.2.2.2.2.1 3 (aB .i64) i.2.2.2.2.1, aE i.2.2.2.2.2.2.2.2.1 4 cA i.2.2.2.2.2.1, aE i.2.2.2.2.2.2.2.2.2 4 cA i.2.2.2.2.2.2.1]) ?_ ?_
 refine Z7 ?_
 refine aJ [0, 1, 5, 2, 3, 4] (by decide) ?_
 refine Tl (ι := Nat × Int × List ByteArray × List ScopeNode × List ScopeDef × Int × List Int × List Bool × List Bool × Value × Value × Value) (fun i => mE fuel (fC fuel) y30 z2 i.1 i.2.1 i.2.2.1 i.2.2.2.1 i.2.2.2.2.1 i.2.2.2.2.2.1 i.2.2.2.2.2.2.1 i.2.2.2.2.2.2.2.1 i.2.2.2.2.2.2.2.2.1 = _) (fun i => i.1) (fun i => [(0, fEq (ptr p0)), (2, aA .i64 z2), (6, fEq (ptr b1)), (11, fEq (ptr b3)), (190, fSl bH y30.Rules), (191, aA .i64 (y30.Rules.length : Int)), (192, aA .i64 i.2.1)]) (fun i => [aC b1 51 [aA .i64 y7.Op, aA .i64 y7.N, fSl bA y7.Args, fSl (aB .i64) y7.Kids], aC p0 151 [fSl aN i.2.2.1, fSl aL i.2.2.2.1, fSl aI i.2.2.2.2.1, aA .i64 i.2.2.2.2.2.1, fEq i.2.2.2.2.2.2.2.2.2.1, fEq i.2.2.2.2.2.2.2.2.2.2.1, fEq i.2.2.2.2.2.2.2.2.2.2.2], aC b3 99 [fSl bC y30.Chans, fSl bV y30.Spots, fSl bH y30.Rules], aE i.2.2.2.2.2.2.2.2.2.1 3 (aB .i64) i.2.2.2.2.2.2.1, aE i.2.2.2.2.2.2.2.2.2.2.1 4 cA i.2.2.2.2.2.2.2.1, aE i.2.2.2.2.2.2.2.2.2.2.2 4 cA i.2.2.2.2.2.2.2.2.1]) (fuel, 0, a0.p.Free, a0.p.Nodes, a0.p.Defs, a0.p.Main, a0.sizes.set a1.toNat a2, a0.met.set a1.toNat true, a0.defs.set y7.N.toNat true, v1, v2, v3) H ?_
 clear H; rintro ⟨k2, x32, x33, x34, x35, x36, x37, x38, x39, v13, v14, v15⟩ H
 replace H : mE fuel (fC fuel) y30 z2 k2 x32 x33 x34 x35 x36 x37 x38 x39 = _ := H
 try dsimp only
 obtain _ | k2 := k2
 rw [mE] at H; cases H
 rw [mE] at H
 refine aS 3 rfl (fun hc_v13 => ?_)
 refine aS 4 rfl (fun hc_v14 => ?_)
 refine aS 5 rfl (fun hc_v15 => ?_)
 refine Z3 ?_
 refine aG ?_
 revert H; refine is (fun c14 H => ?_) fun c14 H => ?_
 refine Z3 ?_
 refine aG ?_
 revert H; refine B2 fun y33 h36 H => ?_
 refine Z2 ?_
 refine Tn (cL rfl vD rfl) fun b4 => ?_
 refine dG (φs' := [aA .i64 y33.At, fSl (aB .i64) y33.Joins, aA .i64 y33.Node]) trivial rfl rfl (has rfl) (has rfl) (aO (aD trivial) (aO (aZ) (aO (aD trivial) bX))) (sz rfl) rfl rfl rfl ?_
 revert H; refine B1 fun y34 h37 H => ?_
 revert H; refine bs fun z3 h38 H => ?_
 apply bE (ods := [_, _, _, _, _, _, _, _]) 8 0 7 bF rfl rfl rfl
 refine ND ?_
 refine M6 ?_
 intros
 refine Nc (aGW _ _ _ _ h37) fun _ => ?_
 refine M1 ?_
 intros
 refine Z1 ?_
 refine mX ?_
 refine mX ?_
 refine mX ?_
 refine nM ?_
 refine xZ (x := (⟨(⟨x33, x34, x35, x36⟩ : ScopeProg), x37, x38, x39⟩ : Scope_looker)) ?_
 revert H; refine bs fun y35 h39 H => ?_
 rcases y35 with y35 | pv18 <;> dsimp only at H
 refine Tc (ih_scope_looker_node _ _ _ _ _ h39).s ?_
 refine xH (fun v16 v17 v18 => ?_)
 refine aS 1 rfl (fun hc_v16 => ?_)
 refine aS 2 rfl (fun hc_v17 => ?_)
 refine aS 3 rfl (fun hc_v18 => ?_)
 revert H; refine B4 fun z4 h40 H => ?_
 refine Z3 ?_
 refine aJ [5, 0, 6, 1, 2, 3] (by decide) ?_
 exact Tm ((k2, z4, y35.p.Free, y35.p.Nodes, y35.p.Defs, y35.p.Main, y35.sizes, y35.met, y35.defs, v16, v17, v18)) ⟨H, ls⟩
 refine Tp (ih_scope_looker_node _ _ _ _ _ h39).pan ?_
 revert H; refine B5 fun r16 H e16 => ?_
 cases e16; cases Hr6
 revert H; refine B1 fun r17 H e17 => ?_
 cases e17; cases Hr5
 cases H
 exact bZ
 exact fk
 kernel_rfl
 refine Z6 ?_
 exact Tm ((x33, x34, x35, x36, x37, x38, x39, v13, v14, v15)) (ij H)
 clear H; intro i hi; obtain ⟨x17, x18, x19, x20, x21, x22, x23, v7, v8, v9⟩ := i; subst o6; have H := Hr6; clear Hr6; try dsimp only at H
 try dsimp only
 refine aS 3 rfl (fun hc_v7 => ?_)
 refine aS 4 rfl (fun hc_v8 => ?_)
 refine aS 5 rfl (fun hc_v9 => ?_)
 refine Z7 ?_
 refine Tl (ι := Nat × Int × List ByteArray × List ScopeNode × List ScopeDef × Int × List Int × List Bool × List Bool × Value × Value × Value) (fun i => mJ (fC fuel) y30 z2 i.1 i.2.1 i.2.2.1 i.2.2.2.1 i.2.2.2.2.1 i.2.2.2.2.2.1 i.2.2.2.2.2.2.1 i.2.2.2.2.2.2.2.1 i.2.2.2.2.2.2.2.2.1 = _) (fun i => i.1) (fun i => [(0, fEq (ptr p0)), (2, aA .i64 z2), (6, fEq (ptr b1)), (207, fSl bV y30.Spots), (208, aA .i64 (y30.Spots.length : Int)), (209, aA .i64 i.2.1)]) (fun i => [aC b1 51 [aA .i64 y7.Op, aA .i64 y7.N, fSl bA y7.Args, fSl (aB .i64) y7.Kids], aC p0 151 [fSl aN i.2.2.1, fSl aL i.2.2.2.1, fSl aI i.2.2.2.2.1, aA .i64 i.2.2.2.2.2.1, fEq i.2.2.2.2.2.2.2.2.2.1, fEq i.2.2.2.2.2.2.2.2.2.2.1, fEq i.2.2.2.2.2.2.2.2.2.2.2], aC b3 99 [fSl bC y30.Chans, fSl bV y30.Spots, fSl bH y30.Rules], aE i.2.2.2.2.2.2.2.2.2.1 3 (aB .i64) i.2.2.2.2.2.2.1, aE i.2.2.2.2.2.2.2.2.2.2.1 4 cA i.2.2.2.2.2.2.2.1, aE i.2.2.2.2.2.2.2.2.2.2.2 4 cA i.2.2.2.2.2.2.2.2.1]) (fuel, 0, x17, x18, x19, x20, x21, x22, x23, v7, v8, v9) H ?_
 clear H; rintro ⟨k3, x48, x49, x50, x51, x52, x53, x54, x55, v22, v23, v24⟩ H
 replace H : mJ (fC fuel) y30 z2 k3 x48 x49 x50 x51 x52 x53 x54 x55 = _ := H
 try dsimp only
 obtain _ | k3 := k3
 rw [mJ] at H; cases H
 rw [mJ] at H
 refine aS 3 rfl (fun hc_v22 => ?_)
 refine aS 4 rfl (fun hc_v23 => ?_)
 refine aS 5 rfl (fun hc_v24 => ?_)
 refine Z3 ?_
 refine aG ?_
 revert H; refine is (fun c15 H => ?_) fun c15 H => ?_
 refine Z3 ?_
 refine aG ?_
 revert H; refine B2 fun y36 h41 H => ?_
 refine Z2 ?_
 refine Tn (cL rfl aBV rfl) fun b5 => ?_
 refine dG (φs' := [aA .i64 y36.In, aA .i64 y36.Node]) trivial rfl rfl (has rfl) (has rfl) (aO (aD trivial) (aO (aD trivial) bX)) (sz rfl) rfl rfl rfl ?_
 refine Z6 ?_
 refine mX ?_
 refine mX ?_
 refine mX ?_
 refine nM ?_
 refine xZ (x := (⟨(⟨x49, x50, x51, x52⟩ : ScopeProg), x53, x54, x55⟩ : Scope_looker)) ?_
 revert H; refine bs fun y37 h42 H => ?_
 rcases y37 with y37 | pv19 <;> dsimp only at H
 refine Tc (ih_scope_looker_node _ _ _ _ _ h42).s ?_
 refine xH (fun v25 v26 v27 => ?_)
 refine aS 1 rfl (fun hc_v25 => ?_)
 refine aS 2 rfl (fun hc_v26 => ?_)
 refine aS 3 rfl (fun hc_v27 => ?_)
 revert H; refine B4 fun z5 h43 H => ?_
 refine Z3 ?_
 refine aJ [5, 0, 6, 1, 2, 3] (by decide) ?_
 exact Tm ((k3, z5, y37.p.Free, y37.p.Nodes, y37.p.Defs, y37.p.Main, y37.sizes, y37.met, y37.defs, v25, v26, v27)) ⟨H, ls⟩
 refine Tp (ih_scope_looker_node _ _ _ _ _ h42).pan ?_
 revert H; refine B5 fun r18 H e18 => ?_
 cases e18; cases Hr5
 cases H
 exact bZ
 refine Z6 ?_
 refine aJ [0, 1, 3, 4, 5] (by decide) ?_
 exact Tm ((z2, x49, x50, x51, x52, x53, x54, x55, v22, v23, v24)) (ij H)
 refine Tp (aDy _ _ _ h33).pan ?_
 revert H; refine B2 fun r19 H e19 => ?_
 cases e19; cases Hr5
 cases H
 exact bZ
 exact fk
 kernel_rfl
 exact fk
 kernel_rfl
 refine Z3 ?_
 exact Tm ((a2, a0.p.Free, a0.p.Nodes, a0.p.Defs, a0.p.Main, a0.sizes.set a1.toNat a2, a0.met.set a1.toNat true, a0.defs, v1, v2, v3)) (ij H)
 clear H; intro i hi; obtain ⟨x9, x10, x11, x12, x13, x14, x15, x16, v4, v5, v6⟩ := i; subst o5; have H := Hr5; clear Hr5; try dsimp only at H
 try dsimp only
 refine aS 2 rfl (fun hc_v4 => ?_)
 refine aS 3 rfl (fun hc_v5 => ?_)
 refine aS 4 rfl (fun hc_v6 => ?_)
 refine Z7 ?_
 refine Tl (ι := Nat × Int × List ByteArray × List ScopeNode × List ScopeDef × Int × List Int × List Bool × List Bool × Value × Value × Value) (fun i => mL (fC fuel) y7 x9 i.1 i.2.1 i.2.2.1 i.2.2.2.1 i.2.2.2.2.1 i.2.2.2.2.2.1 i.2.2.2.2.2.2.1 i.2.2.2.2.2.2.2.1 i.2.2.2.2.2.2.2.2.1 = _) (fun i => i.1) (fun i => [(0, fEq (ptr p0)), (2, aA .i64 x9), (220, fSl (aB .i64) y7.Kids), (221, aA .i64 (y7.Kids.length : Int)), (222, aA .i64 i.2.1)]) (fun i => [aC b1 51 [aA .i64 y7.Op, aA .i64 y7.N, fSl bA y7.Args, fSl (aB .i64) y7.Kids], aC p0 151 [fSl aN i.2.2.1, fSl aL i.2.2.2.1, fSl aI i.2.2.2.2.1, aA .i64 i.2.2.2.2.2.1, fEq i.2.2.2.2.2.2.2.2.2.1, fEq i.2.2.2.2.2.2.2.2.2.2.1, fEq i.2.2.2.2.2.2.2.2.2.2.2], aE i.2.2.2.2.2.2.2.2.2.1 3 (aB .i64) i.2.2.2.2.2.2.1, aE i.2.2.2.2.2.2.2.2.2.2.1 4 cA i.2.2.2.2.2.2.2.1, aE i.2.2.2.2.2.2.2.2.2.2.2 4 cA i.2.2.2.2.2.2.2.2.1]) (fuel, 0, x10, x11, x12, x13, x14, x15, x16, v4, v5, v6) H ?_
 clear H; rintro ⟨k4, x64, x65, x66, x67, x68, x69, x70, x71, v31, v32, v33⟩ H
 replace H : mL (fC fuel) y7 x9 k4 x64 x65 x66 x67 x68 x69 x70 x71 = _ := H
 try dsimp only
 obtain _ | k4 := k4
 rw [mL] at H; cases H
 rw [mL] at H
 refine aS 2 rfl (fun hc_v31 => ?_)
 refine aS 3 rfl (fun hc_v32 => ?_)
 refine aS 4 rfl (fun hc_v33 => ?_)
 refine Z3 ?_
 refine aG ?_
 revert H; refine is (fun c16 H => ?_) fun c16 H => ?_
 refine Z3 ?_
 refine aG ?_
 revert H; refine B2 fun y38 h44 H => ?_
 refine Z8 ?_
 refine bI ?_
 refine bI ?_
 refine bI ?_
 refine bI ?_
 refine xZ (x := (⟨(⟨x65, x66, x67, x68⟩ : ScopeProg), x69, x70, x71⟩ : Scope_looker)) ?_
 revert H; refine bs fun y39 h45 H => ?_
 rcases y39 with y39 | pv20 <;> dsimp only at H
 refine Tc (ih_scope_looker_node _ _ _ _ _ h45).s ?_
 refine xH (fun v34 v35 v36 => ?_)
 refine aS 1 rfl (fun hc_v34 => ?_)
 refine aS 2 rfl (fun hc_v35 => ?_)
 refine aS 3 rfl (fun hc_v36 => ?_)
 revert H; refine B4 fun z6 h46 H => ?_
 refine Z3 ?_
 refine aJ [4, 0, 1, 2, 3] (by decide) ?_
 exact Tm ((k4, z6, y39.p.Free, y39.p.Nodes, y39.p.Defs, y39.p.Main, y39.sizes, y39.met, y39.defs, v34, v35, v36)) ⟨H, ls⟩
 refine Tp (ih_scope_looker_node _ _ _ _ _ h45).pan ?_
 refine Z4 ?_
 cases H
 exact bZ
 refine Z5 ?_
 refine bI ?_
 refine bI ?_
 refine bI ?_
 refine bI ?_
 refine xZ (x := (⟨(⟨x65, x66, x67, x68⟩ : ScopeProg), x69, x70, x71⟩ : Scope_looker)) ?_
 cases H
 refine qH ?_
 refine aJ [0] (by decide) ?_
 exact fG (.inr rfl) rfl rfl
 refine Tp (aY _ _ h27).pan ?_
 refine Z1 ?_
 cases H
 exact bZ
 exact fk
 kernel_rfl
end Go.Proofs.YtmnbfgeljmhekaaGreat
set_option maxRecDepth 100000
set_option maxHeartbeats 2000000
namespace Go.Proofs.YtmnbfgeljmhekaaGreat
open Go.SX Go.SW Go.Dt
attribute [local irreducible] Code.wpIn wpListIn Exit.then Exit.inBlock
def oW (a0 : List Bool) (a1 : Bool) : Nat → Int → Option ((Unit) ⊕ (Int))
| 0, _ => none
| k + 1, x2 =>
 if x2 < (a0.length : Int) then
  (idx a0 x2).bind fun y1 =>
  bif a1 == y1 then
   (some x2).bind fun r => some (Sum.inr r)
  else
   (chk (x2 + 1)).bind fun z1 =>
   oW a0 a1 k z1
 else
  some (Sum.inl ())
def aAF (fuel : Nat) (a0 : List Bool) (a1 : Bool) : Option (Int) :=
 (oW a0 a1 fuel 0).bind fun o => match o with
 | Sum.inr r => some r
 | Sum.inl _ =>
 some (-1)
theorem aHR (fuel : Nat)  (a0 : List Bool) (a1 : Bool) (r : Int) (H : aAF fuel a0 a1 = some r) : FnS Tryz.prog 128 [fSl cA a0, aH a1] [] (aA .i64 r) (fun _ => []) := by
 unfold aAF at H
 refine bB Tryz.func128 rfl Tryz.ntmps128 rfl (fun β => ?_)
 revert H; refine B3 fun o1 H Hr1 => ?_
 refine aW (ι := Unit) (fun i => o1 = Sum.inl ()) (fun i => []) (fun i => []) ?_ ?_
 refine Z6 ?_
 refine Tl (ι := Nat × Int) (fun i => oW a0 a1 i.1 i.2 = _) (fun i => i.1) (fun i => [(0, fSl cA a0), (1, aH a1), (7, aA .i64 (a0.length : Int)), (8, aA .i64 i.2)]) (fun i => []) (fuel, 0) H ?_
 clear H; rintro ⟨k1, x2⟩ H
 replace H : oW a0 a1 k1 x2 = _ := H
 try dsimp only
 obtain _ | k1 := k1
 rw [oW] at H; cases H
 rw [oW] at H
 refine Z3 ?_
 refine aG ?_
 revert H; refine is (fun c1 H => ?_) fun c1 H => ?_
 refine Z3 ?_
 refine aG ?_
 revert H; refine B9 fun y1 h1 H => ?_
 refine Z2 ?_
 refine Yy (o_eqlB rfl hh hh aGZ) ?_
 refine Z1 ?_
 revert H; refine cs (fun c2 H => ?_) fun c2 H => ?_
 revert H; refine B11 fun r1 H e1 => ?_
 cases e1; cases Hr1
 cases H
 exact To
 revert H; refine B5 fun z1 h2 H => ?_
 refine Z3 ?_
 exact Tm ((k1, z1)) ⟨H, ls⟩
 refine Z6 ?_
 exact Tm (()) (ij H)
 clear H; intro i hi; subst o1; have H := Hr1; clear Hr1; try dsimp only at H
 try dsimp only
 refine Z4 ?_
 cases H
 exact To
def tV (fuel : Nat) (a0 : List Bool) (a1 : Bool) : Option (Bool) :=
 (aAF fuel a0 a1).bind fun y1 =>
 some (decide (0 ≤ y1))
theorem aFP (fuel : Nat)  (a0 : List Bool) (a1 : Bool) (r : Bool) (H : tV fuel a0 a1 = some r) : FnS Tryz.prog 111 [fSl cA a0, aH a1] [] (aH r) (fun _ => []) := by
 unfold tV at H
 refine bB Tryz.func111 rfl Tryz.ntmps111 rfl (fun β => ?_)
 revert H; refine B6 fun y1 h1 H => ?_
 refine Tc (aHR _ _ _ _ h1) ?_
 refine Z4 ?_
 cases H
 exact To
def mC (fuel : Nat) (a0 : ScopeProg) : Nat → Int → Option ((Unit) ⊕ (Scope_looker ⊕ Value))
| 0, _ => none
| k + 1, x2 =>
 if x2 < (a0.Free.length : Int) then
  ((idx a0.Free x2).bind fun y4 =>
  (qU fuel y4).bind fun y5 =>
  bif y5 then
   if x2 = 0 then
    (bQ true).bind fun y6 =>
    match y6 with
    | Sum.inr pv4 => ((some (Sum.inr pv4)).bind fun r => some (Sum.inr r)).bind fun r => some (Sum.inr r)
    | Sum.inl y6 =>
    some (Sum.inl ())
   else
    (chk (x2 - 1)).bind fun z1 =>
    (idx a0.Free z1).bind fun y7 =>
    (bQ (slt y7 y4)).bind fun y8 =>
    match y8 with
    | Sum.inr pv5 => ((some (Sum.inr pv5)).bind fun r => some (Sum.inr r)).bind fun r => some (Sum.inr r)
    | Sum.inl y8 =>
    some (Sum.inl ())
  else
   (bQ false).bind fun y9 =>
   match y9 with
   | Sum.inr pv6 => ((some (Sum.inr pv6)).bind fun r => some (Sum.inr r)).bind fun r => some (Sum.inr r)
   | Sum.inl y9 =>
   some (Sum.inl ())).bind fun o => match o with
  | Sum.inr r => some r
  | Sum.inl _ =>
  (chk (x2 + 1)).bind fun z2 =>
  mC fuel a0 k z2
 else
  some (Sum.inl ())
def sV (fuel : Nat) (a0 : ScopeProg) : Option (Scope_looker ⊕ Value) :=
 (if (a0.Free.length : Int) ≤ 12 then
  if (a0.Nodes.length : Int) ≤ 60 then
   (bQ (decide ((a0.Defs.length : Int) ≤ 12))).bind fun y1 =>
   match y1 with
   | Sum.inr pv1 => (some (Sum.inr pv1)).bind fun r => some (Sum.inr r)
   | Sum.inl y1 =>
   some (Sum.inl ())
  else
   (bQ false).bind fun y2 =>
   match y2 with
   | Sum.inr pv2 => (some (Sum.inr pv2)).bind fun r => some (Sum.inr r)
   | Sum.inl y2 =>
   some (Sum.inl ())
 else
  (bQ false).bind fun y3 =>
  match y3 with
  | Sum.inr pv3 => (some (Sum.inr pv3)).bind fun r => some (Sum.inr r)
  | Sum.inl y3 =>
  some (Sum.inl ())).bind fun o => match o with
 | Sum.inr r => some r
 | Sum.inl _ =>
 (mC fuel a0 fuel 0).bind fun o => match o with
 | Sum.inr r => some r
 | Sum.inl _ =>
 (mk 0 (a0.Nodes.length : Int)).bind fun y10 =>
 (mk false (a0.Nodes.length : Int)).bind fun y11 =>
 (mk false (a0.Defs.length : Int)).bind fun y12 =>
 (fC fuel (⟨(⟨a0.Free, a0.Nodes, a0.Defs, a0.Main⟩ : ScopeProg), y10, y11, y12⟩ : Scope_looker) a0.Main (a0.Free.length : Int)).bind fun y13 =>
 match y13 with
 | Sum.inr pv7 => some (Sum.inr pv7)
 | Sum.inl y13 =>
 ((tV fuel y13.met false).bind fun y14 =>
 bif !y14 then
  (tV fuel y13.defs false).bind fun y15 =>
  (bQ (!y15)).bind fun y16 =>
  match y16 with
  | Sum.inr pv8 => (some (Sum.inr pv8)).bind fun r => some (Sum.inr r)
  | Sum.inl y16 =>
  some (Sum.inl y13.defs)
 else
  (bQ false).bind fun y17 =>
  match y17 with
  | Sum.inr pv9 => (some (Sum.inr pv9)).bind fun r => some (Sum.inr r)
  | Sum.inl y17 =>
  some (Sum.inl y13.defs)).bind fun o => match o with
 | Sum.inr r => some r
 | Sum.inl x3 =>
 some (Sum.inl (⟨(⟨y13.p.Free, y13.p.Nodes, y13.p.Defs, y13.p.Main⟩ : ScopeProg), y13.sizes, y13.met, x3⟩ : Scope_looker))
theorem yT (fuel : Nat)  (a0 : ScopeProg) (r : Scope_looker ⊕ Value) (H : sV fuel a0 = some r) : FnE Tryz.prog 96 [fSt dJ a0] [] r (fun r => aF jW r) (fun r => []) := by
 unfold sV at H
 refine sC Tryz.func96 rfl Tryz.ntmps96 rfl (fun β => ?_)
 refine Z1 ?_
 refine Tn (cD rfl (has rfl) bJ) fun b1 => ?_
 revert H; refine B2 fun o1 H Hr1 => ?_
 refine aW (ι := Unit) (fun i => o1 = Sum.inl ()) (fun i => [(1, fEq (ptr b1))]) (fun i => [aC b1 26 [fSl aN a0.Free, fSl aL a0.Nodes, fSl aI a0.Defs, aA .i64 a0.Main]]) ?_ ?_
 revert H; refine I6 (fun c1 H => ?_) fun c1 H => ?_
 revert H; refine I6 (fun c2 H => ?_) fun c2 H => ?_
 revert H; refine B5 fun y1 h1 H => ?_
 rcases y1 with y1 | pv1 <;> dsimp only at H
 refine Tc (aY _ _ h1).s ?_
 refine Z1 ?_
 exact Tm (()) (ij H)
 refine Tp (aY _ _ h1).pan ?_
 revert H; refine B1 fun r1 H e1 => ?_
 cases e1; cases Hr1
 cases H
 exact bZ
 revert H; refine B5 fun y2 h2 H => ?_
 rcases y2 with y2 | pv2 <;> dsimp only at H
 refine Tc (aY _ _ h2).s ?_
 refine Z1 ?_
 exact Tm (()) (ij H)
 refine Tp (aY _ _ h2).pan ?_
 revert H; refine B1 fun r2 H e2 => ?_
 cases e2; cases Hr1
 cases H
 exact bZ
 revert H; refine B11 fun y3 h3 H => ?_
 rcases y3 with y3 | pv3 <;> dsimp only at H
 refine Tc (aY _ _ h3).s ?_
 refine Z1 ?_
 exact Tm (()) (ij H)
 refine Tp (aY _ _ h3).pan ?_
 revert H; refine B1 fun r3 H e3 => ?_
 cases e3; cases Hr1
 cases H
 exact bZ
 clear H; intro i hi; subst o1; have H := Hr1; clear Hr1; try dsimp only at H
 try dsimp only
 revert H; refine bs fun o2 H Hr2 => ?_
 refine aW (ι := Unit) (fun i => o2 = Sum.inl ()) (fun i => [(1, fEq (ptr b1))]) (fun i => [aC b1 26 [fSl aN a0.Free, fSl aL a0.Nodes, fSl aI a0.Defs, aA .i64 a0.Main]]) ?_ ?_
 refine Z7 ?_
 refine Tl (ι := Nat × Int) (fun i => mC fuel a0 i.1 i.2 = _) (fun i => i.1) (fun i => [(1, fEq (ptr b1)), (24, fSl aN a0.Free), (25, aA .i64 (a0.Free.length : Int)), (26, aA .i64 i.2)]) (fun i => [aC b1 26 [fSl aN a0.Free, fSl aL a0.Nodes, fSl aI a0.Defs, aA .i64 a0.Main]]) (fuel, 0) H ?_
 clear H; rintro ⟨k1, x2⟩ H
 replace H : mC fuel a0 k1 x2 = _ := H
 try dsimp only
 obtain _ | k1 := k1
 rw [mC] at H; cases H
 rw [mC] at H
 refine Z3 ?_
 refine aG ?_
 revert H; refine is (fun c3 H => ?_) fun c3 H => ?_
 revert H; refine B3 fun o3 H Hr3 => ?_
 refine aW (ι := Unit) (fun i => o3 = Sum.inl ()) (fun i => [(1, fEq (ptr b1)), (24, fSl aN a0.Free), (25, aA .i64 (a0.Free.length : Int)), (26, aA .i64 x2)]) (fun i => [aC b1 26 [fSl aN a0.Free, fSl aL a0.Nodes, fSl aI a0.Defs, aA .i64 a0.Main]]) ?_ ?_
 revert H; refine B3 fun y4 h4 H => ?_
 revert H; refine B7 fun y5 h5 H => ?_
 refine Tc (aHW _ _ _ h5) ?_
 refine Z1 ?_
 revert H; refine cs (fun c4 H => ?_) fun c4 H => ?_
 revert H; refine I3 (fun c5 H => ?_) fun c5 H => ?_
 revert H; refine B10 fun y6 h6 H => ?_
 rcases y6 with y6 | pv4 <;> dsimp only at H
 refine Tc (aY _ _ h6).s ?_
 refine Z3 ?_
 exact Tm (()) (ij H)
 refine Tp (aY _ _ h6).pan ?_
 revert H; refine B2 fun r4 H e4 => ?_
 cases e4; cases Hr3
 revert H; refine B3 fun r5 H e5 => ?_
 cases e5; cases Hr2
 cases H
 exact bZ
 revert H; refine B3 fun z1 h7 H => ?_
 revert H; refine B1 fun y7 h8 H => ?_
 refine Z3 ?_
 refine Yg c5 (o_lssS rfl hh hh) ?_
 revert H; refine B2 fun y8 h9 H => ?_
 rcases y8 with y8 | pv5 <;> dsimp only at H
 refine Tc (aY _ _ h9).s ?_
 refine Z3 ?_
 exact Tm (()) (ij H)
 refine Tp (aY _ _ h9).pan ?_
 revert H; refine B2 fun r6 H e6 => ?_
 cases e6; cases Hr3
 revert H; refine B3 fun r7 H e7 => ?_
 cases e7; cases Hr2
 cases H
 exact bZ
 refine Z3 ?_
 refine dP (⟨_, _, _, _, rfl, rfl, rfl, nu⟩) rfl rfl ?_
 refine dP (⟨_, _, _, _, rfl, rfl, rfl, nu⟩) rfl rfl ?_
 refine dP (⟨_, _, _, _, rfl, rfl, rfl, nu⟩) rfl rfl ?_
 refine dP (⟨_, _, _, _, rfl, rfl, rfl, nu⟩) rfl rfl ?_
 refine dP (⟨_, _, _, _, rfl, rfl, rfl, nu⟩) rfl rfl ?_
 refine dP (⟨_, _, _, _, rfl, rfl, rfl, nu⟩) rfl rfl ?_
 refine dP (⟨_, _, _, _, rfl, rfl, rfl, nu⟩) rfl rfl ?_
 refine dP (⟨_, _, _, _, rfl, rfl, rfl, nu⟩) rfl rfl ?_
 revert H; refine B2 fun y9 h10 H => ?_
 rcases y9 with y9 | pv6 <;> dsimp only at H
 refine Tc (aY _ _ h10).s ?_
 refine Z3 ?_
 exact Tm (()) (ij H)
 refine Tp (aY _ _ h10).pan ?_
 revert H; refine B2 fun r8 H e8 => ?_
 cases e8; cases Hr3
 revert H; refine B3 fun r9 H e9 => ?_
 cases e9; cases Hr2
 cases H
 exact bZ
 clear H; intro i hi; subst o3; have H := Hr3; clear Hr3; try dsimp only at H
 try dsimp only
 revert H; refine B1 fun z2 h11 H => ?_
 refine Z3 ?_
 exact Tm ((k1, z2)) ⟨H, ls⟩
 refine Z6 ?_
 exact Tm (()) (ij H)
 clear H; intro i hi; subst o2; have H := Hr2; clear Hr2; try dsimp only at H
 try dsimp only
 refine aG ?_
 revert H; refine bs fun y10 h12 H => ?_
 revert H; refine bs fun y11 h13 H => ?_
 revert H; refine bs fun y12 h14 H => ?_
 apply bE (ods := [_, _, _, _, _, _, _, _, _, _, _, _, _, _, _, _]) 16 4 5 bF rfl rfl rfl
 refine ND ?_
 refine M4 ?_
 intros
 refine Mn 1 (fun b2 => .slice (some ⟨b2, 0, none⟩) y10.length y10.length) (fun b2 => aE (.slice (some ⟨b2, 0, none⟩) y10.length y10.length) 3 (aB .i64) y10) rfl (lA (t := (aB .i64)) (z := 0) rfl (has rfl) (et rfl) rfl qZ rfl h12) (fun b2 u1 => ?_)
 refine M3 ?_
 intros
 refine Mn 2 (fun b3 => .slice (some ⟨b3, 0, none⟩) y11.length y11.length) (fun b3 => aE (.slice (some ⟨b3, 0, none⟩) y11.length y11.length) 4 cA y11) rfl (lA (t := cA) (z := false) rfl (has rfl) (et rfl) rfl aCa rfl h13) (fun b3 u2 => ?_)
 refine M3 ?_
 intros
 refine Mn 3 (fun b4 => .slice (some ⟨b4, 0, none⟩) y12.length y12.length) (fun b4 => aE (.slice (some ⟨b4, 0, none⟩) y12.length y12.length) 4 cA y12) rfl (lA (t := cA) (z := false) rfl (has rfl) (et rfl) rfl aCa rfl h14) (fun b4 u3 => ?_)
 refine N_y (od := od3 4 8 12 [] false (fun b2 _ b3 _ b4 _ => eD [fSl aN a0.Free, fSl aL a0.Nodes, fSl aI a0.Defs, aA .i64 a0.Main, fEq (.slice (some ⟨b2, 0, none⟩) y10.length y10.length), fEq (.slice (some ⟨b3, 0, none⟩) y11.length y11.length), fEq (.slice (some ⟨b4, 0, none⟩) y12.length y12.length)]) (fun b2 _ b3 _ b4 _ => [])) (φ := eD [fSl aN a0.Free, fSl aL a0.Nodes, fSl aI a0.Defs, aA .i64 a0.Main, fEq (.slice (some ⟨b2, 0, none⟩) y10.length y10.length), fEq (.slice (some ⟨b3, 0, none⟩) y11.length y11.length), fEq (.slice (some ⟨b4, 0, none⟩) y12.length y12.length)]) rfl (fun _ => rfl) trivial rfl (dO (ψs := [fSl aN a0.Free, fSl aL a0.Nodes, fSl aI a0.Defs, aA .i64 a0.Main, fEq (.slice (some ⟨b2, 0, none⟩) y10.length y10.length), fEq (.slice (some ⟨b3, 0, none⟩) y11.length y11.length), fEq (.slice (some ⟨b4, 0, none⟩) y12.length y12.length)]) rfl aGn rfl (aU.cons (has rfl) bJ (aU.cons (has rfl) (aT (aD trivial)) (aU.cons (has rfl) (aT (aD trivial)) (aU.cons (has rfl) (aT (aD trivial)) aU.nil)))) rfl) (fun _ => ?_)
 refine N_new (od := odN3 4 8 12 [4] true (fun b2 _ b3 _ b4 _ b5 _ => fEq (ptr b5)) (fun b2 _ b3 _ b4 _ b5 _ => [aC b5 151 [fSl aN a0.Free, fSl aL a0.Nodes, fSl aI a0.Defs, aA .i64 a0.Main, fEq (.slice (some ⟨b2, 0, none⟩) y10.length y10.length), fEq (.slice (some ⟨b3, 0, none⟩) y11.length y11.length), fEq (.slice (some ⟨b4, 0, none⟩) y12.length y12.length)]])) (p := 4) (f := fun b5 => ptr b5) (τ := fun b5 => aC b5 151 [fSl aN a0.Free, fSl aL a0.Nodes, fSl aI a0.Defs, aA .i64 a0.Main, fEq (.slice (some ⟨b2, 0, none⟩) y10.length y10.length), fEq (.slice (some ⟨b3, 0, none⟩) y11.length y11.length), fEq (.slice (some ⟨b4, 0, none⟩) y12.length y12.length)]) rfl (fun _ => rfl) (fun _ => rfl) trivial rfl rfl (cD rfl (has rfl) bJ) (fun b5 u4 => ?_)
 refine D1 14 b5 _ (fun b5 _ => fEq (ptr b5)) rfl (aAP rfl hh) (fun _ => ?_)
 refine Z1 ?_
 generalize (Value.slice (some ⟨b2, 0, none⟩) _ _) = v1
 refine aS 1 rfl (fun hc_v1 => ?_)
 generalize (Value.slice (some ⟨b3, 0, none⟩) _ _) = v2
 refine aS 2 rfl (fun hc_v2 => ?_)
 generalize (Value.slice (some ⟨b4, 0, none⟩) _ _) = v3
 refine aS 3 rfl (fun hc_v3 => ?_)
 refine Z8 ?_
 refine dZ ?_
 refine dZ ?_
 refine dZ ?_
 refine bI ?_
 refine xZ (x := (⟨(⟨a0.Free, a0.Nodes, a0.Defs, a0.Main⟩ : ScopeProg), y10, y11, y12⟩ : Scope_looker)) ?_
 revert H; refine bs fun y13 h15 H => ?_
 rcases y13 with y13 | pv7 <;> dsimp only at H
 refine Tc (aDJ _ _ _ _ _ _ h15).s ?_
 refine xH (fun v4 v5 v6 => ?_)
 refine aS 1 rfl (fun hc_v4 => ?_)
 refine aS 2 rfl (fun hc_v5 => ?_)
 refine aS 3 rfl (fun hc_v6 => ?_)
 revert H; refine B1 fun o4 H Hr4 => ?_
 refine aW (ι := List Bool) (fun i => o4 = Sum.inl i) (fun i => [(5, fEq (ptr b5))]) (fun i => [aC b5 151 [fSl aN y13.p.Free, fSl aL y13.p.Nodes, fSl aI y13.p.Defs, aA .i64 y13.p.Main, fEq v4, fSl cA y13.met, fSl cA i], aC b1 26 [fSl aN a0.Free, fSl aL a0.Nodes, fSl aI a0.Defs, aA .i64 a0.Main], aE v4 3 (aB .i64) y13.sizes]) ?_ ?_
 refine Z5 ?_
 refine eB ?_
 refine cO (φ := fSl cA y13.met) (v := v5) [74] cG fz ?_
 refine gJ (φs' := [fSl aN y13.p.Free, fSl aL y13.p.Nodes, fSl aI y13.p.Defs, aA .i64 y13.p.Main, fEq v4, fSl cA y13.met, fEq v6]) (i := 5) rfl rfl ?_
 refine cP ?_
 revert H; refine bs fun y14 h16 H => ?_
 refine Tc (aFP _ _ _ _ h16) ?_
 refine Z2 ?_
 revert H; refine cs (fun c6 H => ?_) fun c6 H => ?_
 refine Z4 ?_
 refine eB ?_
 refine cO (φ := fSl cA y13.defs) (v := v6) [81] cG fz ?_
 refine gJ (φs' := [fSl aN y13.p.Free, fSl aL y13.p.Nodes, fSl aI y13.p.Defs, aA .i64 y13.p.Main, fEq v4, fSl cA y13.met, fSl cA y13.defs]) (i := 6) rfl rfl ?_
 refine cP ?_
 revert H; refine bs fun y15 h17 H => ?_
 refine Tc (aFP _ _ _ _ h17) ?_
 revert H; refine B2 fun y16 h18 H => ?_
 rcases y16 with y16 | pv8 <;> dsimp only at H
 refine Tc (aY _ _ h18).s ?_
 refine Z1 ?_
 refine aJ [0, 2, 1] (by decide) ?_
 exact Tm (y13.defs) (ij H)
 refine Tp (aY _ _ h18).pan ?_
 revert H; refine B1 fun r10 H e10 => ?_
 cases e10; cases Hr4
 cases H
 exact bZ
 revert H; refine B7 fun y17 h19 H => ?_
 rcases y17 with y17 | pv9 <;> dsimp only at H
 refine Tc (aY _ _ h19).s ?_
 refine Z1 ?_
 refine eB ?_
 refine cO (φ := fSl cA y13.defs) (v := v6) [] cG (fun _ h => nomatch h) ?_
 refine gJ (φs' := [fSl aN y13.p.Free, fSl aL y13.p.Nodes, fSl aI y13.p.Defs, aA .i64 y13.p.Main, fEq v4, fSl cA y13.met, fSl cA y13.defs]) (i := 6) rfl rfl ?_
 refine cP ?_
 refine aJ [0, 2, 1] (by decide) ?_
 exact Tm (y13.defs) (ij H)
 refine Tp (aY _ _ h19).pan ?_
 revert H; refine B1 fun r11 H e11 => ?_
 cases e11; cases Hr4
 cases H
 exact bZ
 clear H; intro x3 hi; subst o4; have H := Hr4; clear Hr4; try dsimp only at H
 try dsimp only
 refine Z5 ?_
 refine eB ?_
 refine cO (φ := fSl (aB .i64) y13.sizes) (v := v4) [] cG (fun _ h => nomatch h) ?_
 refine gJ (φs' := [fSl aN y13.p.Free, fSl aL y13.p.Nodes, fSl aI y13.p.Defs, aA .i64 y13.p.Main, fSl (aB .i64) y13.sizes, fSl cA y13.met, fSl cA x3]) (i := 4) rfl rfl ?_
 refine cP ?_
 refine cO (φ := aF jW (⟨(⟨y13.p.Free, y13.p.Nodes, y13.p.Defs, y13.p.Main⟩ : ScopeProg), y13.sizes, y13.met, x3⟩ : Scope_looker)) (v := ptr b5) [5, 86, 2] (hQ aM.rfl) fz ?_
 refine cP ?_
 cases H
 refine qH ?_
 refine aJ [] (by decide) ?_
 exact To
 refine Tp (aDJ _ _ _ _ _ _ h15).pan ?_
 refine Z1 ?_
 cases H
 exact bZ
 exact fk
 kernel_rfl
def aAE (fuel : Nat) (a0 : ScopeProg) (a1 : Scope_looker → Option Bool) : Option (Bool × Int) :=
 (sV fuel (⟨a0.Free, a0.Nodes, a0.Defs, a0.Main⟩ : ScopeProg)).bind fun y1 =>
 match y1 with
 | Sum.inr pv1 => (unI 167 pv1).bind fun e1 => some (false, e1)
 | Sum.inl y1 =>
 (a1 y1).bind fun y2 =>
 some (y2, 0)
theorem aHQ (fuel : Nat)  (a0 : ScopeProg) (a1 : Scope_looker → Option Bool) (r : Bool × Int) (H : aAE fuel a0 a1 = some r) : FnS Tryz.prog 76 [fSt dJ a0, fFn Tryz.prog (fun (x : Scope_looker) => [aF jW x]) (fun (r : Bool) => aH r) a1] [] (dH [aH r.1, aA .i64 r.2]) (fun _ => []) := by
 unfold aAE at H
 refine sU Tryz.func76 rfl Tryz.ntmps76 rfl (fun β => ?_)
 refine Z1 ?_
 refine Tn (cD rfl (has rfl) bJ) fun b1 => ?_
 refine Z1 ?_
 refine Tn (cL rfl aEX rfl) fun b2 => ?_
 refine Z2 ?_
 refine aCZ trivial rfl rfl (iF.cons (has rfl) iF.nil) ?_
 revert H; refine B4 fun y1 h1 H => ?_
 rcases y1 with y1 | pv1 <;> dsimp only at H
 refine Tc (yT _ _ _ h1).s ?_
 revert H; refine bs fun y2 h2 H => ?_
 refine uI y1 trivial rfl rfl rfl (has rfl) (aK.cons (has rfl) aK.nil) h2 ?_
 refine Z1 ?_
 refine cX (φs' := [aA .i64 0]) trivial rfl rfl (has rfl) (has rfl) (aD trivial) (sz rfl) rfl rfl ?_
 refine Z2 ?_
 cases H
 refine aJ [0] (by decide) ?_
 exact aFD (yZ (u := .returning) (by simp) rfl (bM rfl) rfl (sc rfl) (cb rfl) (aDB b2 0) rfl rfl)
 refine Tp (yT _ _ _ h1).pan ?_
 refine Z1 ?_
 have H0 := H; clear H; obtain ⟨e1, h3, H⟩ := bind_some H0; clear H0; have hv_e1 := aEe h3; subst hv_e1
 cases H
 refine aJ [0] (by decide) ?_
 exact aFl (yZ (u := .panicking [{ v := .iface 167 (.agg #[.int .i64 e1]), recovered := false }]) (by simp) rfl (bM rfl) rfl (sc rfl) (cb rfl) (aEt b2 0 e1) rfl rfl)
def aAM (a0 : Scope_looker) : Option (Bool) :=
 some true
theorem aGe  (a0 : Scope_looker) (r : Bool) (H : aAM a0 = some r) : FnS Tryz.prog 77 [aF jW a0] [] (aH r) (fun _ => []) := by
 unfold aAM at H
 refine bB Tryz.func77 rfl Tryz.ntmps77 rfl (fun β => ?_)
 refine Z7 ?_
 cases H
 exact To
def qS (fuel : Nat) (a0 : ScopeProg) : Option (Int) :=
 (aAE fuel (⟨a0.Free, a0.Nodes, a0.Defs, a0.Main⟩ : ScopeProg) (fun x => aAM x)).bind fun y1 =>
 some y1.2
theorem aCe (fuel : Nat)  (a0 : ScopeProg) (r : Int) (H : qS fuel a0 = some r) : FnS Tryz.prog 35 [fSt dJ a0] [] (aA .i64 r) (fun _ => []) := by
 unfold qS at H
 refine bB Tryz.func35 rfl Tryz.ntmps35 rfl (fun β => ?_)
 refine Z1 ?_
 refine Tn (cD rfl (has rfl) bJ) fun b1 => ?_
 revert H; refine B4 fun y1 h1 H => ?_
 refine gI trivial rfl rfl rfl (has rfl) (aK.cons (has rfl) (aK.cons (cW rfl (mV (cb rfl) (fun x r hx => aGe x r hx))) aK.nil)) rfl (cb rfl) (aHQ fuel (⟨a0.Free, a0.Nodes, a0.Defs, a0.Main⟩ : ScopeProg) (fun x => aAM x) y1 h1) rfl ?_
 refine Z11 ?_
 cases H
 refine aJ [] (by decide) ?_
 exact To
def yE (fuel : Nat) (a0 : ScopeProg) (a1 : Scope_looker → Option (List Int)) : Option ((List Int) × Int) :=
 (sV fuel (⟨a0.Free, a0.Nodes, a0.Defs, a0.Main⟩ : ScopeProg)).bind fun y1 =>
 match y1 with
 | Sum.inr pv1 => (unI 167 pv1).bind fun e1 => some ([], e1)
 | Sum.inl y1 =>
 (a1 y1).bind fun y2 =>
 some (y2, 0)
theorem aGV (fuel : Nat)  (a0 : ScopeProg) (a1 : Scope_looker → Option (List Int)) (r : (List Int) × Int) (H : yE fuel a0 a1 = some r) : FnS Tryz.prog 112 [fSt dJ a0, fFn Tryz.prog (fun (x : Scope_looker) => [aF jW x]) (fun (r : List Int) => fSl (aB .i64) r) a1] [] (dH [fSl (aB .i64) r.1, aA .i64 r.2]) (fun _ => []) := by
 unfold yE at H
 refine sU Tryz.func112 rfl Tryz.ntmps112 rfl (fun β => ?_)
 refine Z1 ?_
 refine Tn (cD rfl (has rfl) bJ) fun b1 => ?_
 refine Z1 ?_
 refine Tn (cL rfl aEX rfl) fun b2 => ?_
 refine Z2 ?_
 refine aCZ trivial rfl rfl (iF.cons (has rfl) iF.nil) ?_
 revert H; refine B4 fun y1 h1 H => ?_
 rcases y1 with y1 | pv1 <;> dsimp only at H
 refine Tc (yT _ _ _ h1).s ?_
 revert H; refine bs fun y2 h2 H => ?_
 refine uI y1 trivial rfl rfl rfl (has rfl) (aK.cons (has rfl) aK.nil) h2 ?_
 refine Z1 ?_
 refine cX (φs' := [aA .i64 0]) trivial rfl rfl (has rfl) (has rfl) (aD trivial) (sz rfl) rfl rfl ?_
 refine Z2 ?_
 cases H
 refine aJ [0] (by decide) ?_
 exact aFD (yZ (u := .returning) (by simp) rfl (bM rfl) rfl (sc rfl) (cb rfl) (aDB b2 0) rfl rfl)
 refine Tp (yT _ _ _ h1).pan ?_
 refine Z1 ?_
 have H0 := H; clear H; obtain ⟨e1, h3, H⟩ := bind_some H0; clear H0; have hv_e1 := aEe h3; subst hv_e1
 cases H
 refine aJ [0] (by decide) ?_
 exact aFl (yZ (u := .panicking [{ v := .iface 167 (.agg #[.int .i64 e1]), recovered := false }]) (by simp) rfl (iJ rfl dU) rfl (sc rfl) (cb rfl) (aEt b2 0 e1) rfl rfl)
def lX (a0 : Scope_looker) (w0 : ScopeProg) (w1 : Scope_looker × Int → Option Int) : Nat → (List Int) → Int → Option (List Int)
| 0, _, _ => none
| k + 1, x4, x5 =>
 if x5 < (w0.Nodes.length : Int) then
  (w1 (a0, x5)).bind fun y1 =>
  (dD (x4 ++ [y1])).bind fun z1 =>
  (chk (x5 + 1)).bind fun z2 =>
  lX a0 w0 w1 k z1 z2
 else
  some x4
def wI (fuel : Nat) (a0 : Scope_looker) (w0 : ScopeProg) (w1 : Scope_looker × Int → Option Int) : Option (List Int) :=
 (lX a0 w0 w1 fuel [] 0).bind fun x1 =>
 some x1
theorem aHp (fuel : Nat)  (a0 : Scope_looker) (w0 : ScopeProg) (w1 : Scope_looker × Int → Option Int) (r : List Int) (H : wI fuel a0 w0 w1 = some r) : FnS Tryz.prog 113 [aF jW a0, aF dJ w0, aF (tFn Tryz.prog (fun (x : Scope_looker × Int) => [aF jW x.1, aA .i64 x.2]) (fun (r : Int) => aA .i64 r)) w1] [] (fSl (aB .i64) r) (fun _ => []) := by
 unfold wI at H
 refine bB Tryz.func113 rfl Tryz.ntmps113 rfl (fun β => ?_)
 revert H; refine B6 fun o1 H Hr1 => ?_
 refine aW (ι := List Int × Value) (fun i => o1 = i.1) (fun i => [(5, fEq i.2)]) (fun i => [aE i.2 3 (aB .i64) i.1]) ?_ ?_
 refine Z7 ?_
 refine qC (aB .i64) 3 ?_
 refine Tl (ι := Nat × List Int × Int × Value) (fun i => lX a0 w0 w1 i.1 i.2.1 i.2.2.1 = _) (fun i => i.1) (fun i => [(0, aF jW a0), (2, aF (tFn Tryz.prog (fun (x : Scope_looker × Int) => [aF jW x.1, aA .i64 x.2]) (fun (r : Int) => aA .i64 r)) w1), (5, fEq i.2.2.2), (9, aA .i64 (w0.Nodes.length : Int)), (10, aA .i64 i.2.2.1)]) (fun i => [aE i.2.2.2 3 (aB .i64) i.2.1]) (fuel, [], 0, (.slice none 0 0)) H ?_
 clear H; rintro ⟨k1, x4, x5, v3⟩ H
 replace H : lX a0 w0 w1 k1 x4 x5 = _ := H
 try dsimp only
 obtain _ | k1 := k1
 rw [lX] at H; cases H
 rw [lX] at H
 refine aS 0 rfl (fun hc_v3 => ?_)
 refine Z3 ?_
 refine aG ?_
 revert H; refine is (fun c1 H => ?_) fun c1 H => ?_
 refine Z3 ?_
 refine aG ?_
 revert H; refine B10 fun y1 h1 H => ?_
 refine uI (a0, x5) trivial rfl rfl rfl (has rfl) (aK.cons (has rfl) (aK.cons (has rfl) aK.nil)) h1 ?_
 refine Tn (cJ (t := (aB .i64)) (xs := [y1]) rfl (et rfl) (aP.cons rfl (has rfl) (aT (aD trivial)) aP.nil) rfl rfl rfl) fun b1 => ?_
 generalize (Value.slice (some ⟨b1, 0, none⟩) _ _) = v4
 refine aS 0 rfl (fun hc_v4 => ?_)
 revert H; refine bs fun z1 h2 H => ?_
 refine aA1 trivial rfl rfl rfl (has rfl) (has rfl) (et rfl) rfl h2 (fun v5 => ?_)
 refine aS 0 rfl (fun hc_v5 => ?_)
 revert H; refine B5 fun z2 h3 H => ?_
 refine Z3 ?_
 exact Tm ((k1, z1, z2, v5)) ⟨H, ls⟩
 refine Z6 ?_
 exact Tm ((x4, v3)) (ij H)
 clear H; intro i hi; obtain ⟨x1, v1⟩ := i; subst o1; have H := Hr1; clear Hr1; try dsimp only at H
 try dsimp only
 refine aS 0 rfl (fun hc_v1 => ?_)
 refine Z5 ?_
 refine cO (φ := fSl (aB .i64) x1) (v := v1) [5, 21, 4] cG fz ?_
 refine cP ?_
 cases H
 exact To
def aAB (fuel : Nat) (a0 : ScopeProg) (a1 : Scope_looker × Int → Option Int) : Option ((List Int) × Int) :=
 (yE fuel (⟨a0.Free, a0.Nodes, a0.Defs, a0.Main⟩ : ScopeProg) (fun x => wI fuel x (⟨a0.Free, a0.Nodes, a0.Defs, a0.Main⟩ : ScopeProg) a1)).bind fun y1 =>
 some (y1.1, y1.2)
theorem aHf (fuel : Nat)  (a0 : ScopeProg) (a1 : Scope_looker × Int → Option Int) (r : (List Int) × Int) (H : aAB fuel a0 a1 = some r) : FnS Tryz.prog 97 [fSt dJ a0, fFn Tryz.prog (fun (x : Scope_looker × Int) => [aF jW x.1, aA .i64 x.2]) (fun (r : Int) => aA .i64 r) a1] [] (dH [fSl (aB .i64) r.1, aA .i64 r.2]) (fun _ => []) := by
 unfold aAB at H
 refine bB Tryz.func97 rfl Tryz.ntmps97 rfl (fun β => ?_)
 refine Z1 ?_
 refine Tn (cD rfl (has rfl) bJ) fun b1 => ?_
 refine Tn (cD rfl (has rfl) (aT (aBR))) fun b2 => ?_
 refine Z5 ?_
 refine cU ?_
 refine cO (φ := aF dJ (⟨a0.Free, a0.Nodes, a0.Defs, a0.Main⟩ : ScopeProg)) (v := ptr b1) [2] (hQ aM.rfl) fz ?_
 refine cP ?_
 refine cO (φ := aF (tFn Tryz.prog (fun (x : Scope_looker × Int) => [aF jW x.1, aA .i64 x.2]) (fun (r : Int) => aA .i64 r)) a1) (v := ptr b2) [3] (hQ aM.rfl) fz ?_
 refine cP ?_
 refine Yy (uT rfl (aK.cons hh (aK.cons hh aK.nil))) ?_
 revert H; refine bs fun y1 h1 H => ?_
 refine gI trivial rfl rfl rfl (has rfl) (aK.cons (has rfl) (aK.cons (cW rfl (ent_fn (cb rfl) (fun x r hx => aHp fuel x (⟨a0.Free, a0.Nodes, a0.Defs, a0.Main⟩ : ScopeProg) a1 r hx))) aK.nil)) rfl (cb rfl) (aGV fuel (⟨a0.Free, a0.Nodes, a0.Defs, a0.Main⟩ : ScopeProg) (fun x => wI fuel x (⟨a0.Free, a0.Nodes, a0.Defs, a0.Main⟩ : ScopeProg) a1) y1 h1) rfl ?_
 refine Z6 ?_
 cases H
 exact gK rfl (bM rfl) (bM rfl) rfl
def rF (a0 : Scope_looker) (a1 : Int) : Option (Int) :=
 (idx a0.sizes a1).bind fun y1 =>
 some y1
theorem aF5  (a0 : Scope_looker) (a1 : Int) (r : Int) (H : rF a0 a1 = some r) : FnS Tryz.prog 98 [aF jW a0, aA .i64 a1] [] (aA .i64 r) (fun _ => []) := by
 unfold rF at H
 refine bB Tryz.func98 rfl Tryz.ntmps98 rfl (fun β => ?_)
 revert H; refine B9 fun y1 h1 H => ?_
 refine Z5 ?_
 cases H
 exact To
def tN (fuel : Nat) (a0 : ScopeProg) : Option ((List Int) × Int) :=
 (aAB fuel (⟨a0.Free, a0.Nodes, a0.Defs, a0.Main⟩ : ScopeProg) (fun x => rF x.1 x.2)).bind fun y1 =>
 some (y1.1, y1.2)
theorem aGE (fuel : Nat)  (a0 : ScopeProg) (r : (List Int) × Int) (H : tN fuel a0 = some r) : FnS Tryz.prog 78 [fSt dJ a0] [] (dH [fSl (aB .i64) r.1, aA .i64 r.2]) (fun _ => []) := by
 unfold tN at H
 refine bB Tryz.func78 rfl Tryz.ntmps78 rfl (fun β => ?_)
 refine Z1 ?_
 refine Tn (cD rfl (has rfl) bJ) fun b1 => ?_
 revert H; refine B5 fun y1 h1 H => ?_
 refine gI trivial rfl rfl rfl (has rfl) (aK.cons (has rfl) (aK.cons (cW rfl (mV (cb rfl) (fun x r hx => aF5 x.1 x.2 r hx))) aK.nil)) rfl (cb rfl) (aHf fuel (⟨a0.Free, a0.Nodes, a0.Defs, a0.Main⟩ : ScopeProg) (fun x => rF x.1 x.2) y1 h1) rfl ?_
 refine Z6 ?_
 cases H
 refine aJ [] (by decide) ?_
 exact gK rfl (bM rfl) (bM rfl) rfl
def oU {σ : Type} (Y : Int → σ → Option σ) (y1 : ScopeDef) : Nat → Int → σ → Option (σ)
| 0, _, _ => none
| k + 1, x3, x4 =>
 if x3 < (y1.Spots.length : Int) then
  (idx y1.Spots x3).bind fun y2 =>
  (Y y2.Node x4).bind fun y3 =>
  (chk (x3 + 1)).bind fun z1 =>
  oU Y y1 k z1 y3
 else
  some x4
def qT {σ : Type} (fuel : Nat) (Y : Int → σ → Option σ) (s0 : σ) (w0 : Usage_text) (w1 : Int) : Option (σ) :=
 (idx w0.ScopeProg.Defs w1).bind fun y1 =>
 oU Y y1 fuel 0 s0
theorem aBo (fuel : Nat) {σ : Type} (J : σ → Tk) (Y : Int → σ → Option σ) (s0 : σ) (w0 : Usage_text) (w1 : Int) (r : σ) (H : qT fuel Y s0 w0 w1 = some r) : FnS Tryz.prog 101 [jE Tryz.prog (fun (x : Int) => [aA .i64 x]) Y J, aF (fO eJ) w0, aF (aB .i64) w1] [J s0] (dH []) (fun _ => [J r]) := by
 unfold qT at H
 refine bB Tryz.func101 rfl Tryz.ntmps101 rfl (fun β => ?_)
 refine aG ?_
 revert H; refine bs fun y1 h1 H => ?_
 apply bE (ods := [_, _, _, _, _, _, _, _, _, _, _]) 11 0 1 bF rfl rfl rfl
 refine ND ?_
 refine M8 ?_
 intros
 refine M3 ?_
 intros
 refine Z3 ?_
 refine Tl (ι := Nat × Int × σ) (fun i => oU Y y1 i.1 i.2.1 i.2.2 = _) (fun i => i.1) (fun i => [(0, jE Tryz.prog (fun (x : Int) => [aA .i64 x]) Y J), (14, fSl bV y1.Spots), (15, aA .i64 (y1.Spots.length : Int)), (16, aA .i64 i.2.1)]) (fun i => [J i.2.2]) (fuel, 0, s0) H ?_
 clear H; rintro ⟨k1, x3, x4⟩ H
 replace H : oU Y y1 k1 x3 x4 = _ := H
 try dsimp only
 obtain _ | k1 := k1
 rw [oU] at H; cases H
 rw [oU] at H
 refine Z3 ?_
 refine aG ?_
 revert H; refine is (fun c1 H => ?_) fun c1 H => ?_
 refine Z3 ?_
 refine aG ?_
 revert H; refine B2 fun y2 h2 H => ?_
 refine Z2 ?_
 refine Tn (cL rfl aBV rfl) fun b1 => ?_
 refine dG (φs' := [aA .i64 y2.In, aA .i64 y2.Node]) trivial rfl rfl (has rfl) (has rfl) (aO (aD trivial) (aO (aD trivial) bX)) (sz rfl) rfl rfl rfl ?_
 refine Z5 ?_
 refine cU ?_
 revert H; refine bs fun y3 h3 H => ?_
 refine aAp y2.Node trivial rfl rfl rfl (has rfl) (aK.cons (has rfl) aK.nil) h3 ?_
 revert H; refine B7 fun z1 h4 H => ?_
 refine Z3 ?_
 refine aJ [0] (by decide) ?_
 exact Tm ((k1, z1, y3)) ⟨H, ls⟩
 refine Z5 ?_
 cases H
 exact fG (.inr rfl) rfl rfl
 exact fk
 kernel_rfl
def qB (a0 : Usage_text) (a1 : Int) : Option (Usage_text × Int) :=
 some (a0, a1)
theorem aCK  (a0 : Usage_text) (a1 : Int) (r : Usage_text × Int) (H : qB a0 a1 = some r) : FnS Tryz.prog 83 [aF eJ a0, aA .i64 a1] [] (cZ 101 [aF (fO eJ) r.1, aF (aB .i64) r.2]) (fun _ => []) := by
 unfold qB at H
 refine bB Tryz.func83 rfl Tryz.ntmps83 rfl (fun β => ?_)
 refine Z1 ?_
 refine Tn (cD rfl (has rfl) (aT (uX))) fun b1 => ?_
 refine Tn (cD rfl (has rfl) (aT (aD trivial))) fun b2 => ?_
 refine Z3 ?_
 refine cU ?_
 refine cO (φ := aF (fO eJ) a0) (v := ptr b1) [2] (hQ aM.rfl) fz ?_
 refine cP ?_
 refine cO (φ := aF (aB .i64) a1) (v := ptr b2) [3] (hQ aM.rfl) fz ?_
 refine cP ?_
 refine Yy (uT rfl (aK.cons hh (aK.cons hh aK.nil))) ?_
 refine Z3 ?_
 cases H
 exact To
def mU {σ : Type} (Y : Int → σ → Option σ) (y1 : ScopeNode) : Nat → Int → σ → Option (σ)
| 0, _, _ => none
| k + 1, x4, x5 =>
 if x4 < (y1.Kids.length : Int) then
  (idx y1.Kids x4).bind fun y2 =>
  (Y y2 x5).bind fun y3 =>
  (chk (x4 + 1)).bind fun z1 =>
  mU Y y1 k z1 y3
 else
  some x5
def sJ {σ : Type} (Y : Int → σ → Option σ) (x6 : Int) (x8 : σ) : Option (σ) :=
 (Y x6 x8).bind fun y6 =>
 some y6
def oB {σ : Type} (Y : Int → σ → Option σ) (y7 : ScopeDef) : Nat → Int → σ → Option (σ)
| 0, _, _ => none
| k + 1, x12, x13 =>
 if x12 < (y7.Rules.length : Int) then
  (idx y7.Rules x12).bind fun y8 =>
  (Y y8.Node x13).bind fun y9 =>
  (chk (x12 + 1)).bind fun z2 =>
  oB Y y7 k z2 y9
 else
  some x13
def xY {σ : Type} (fuel : Nat) (Y : Int → σ → Option σ) (s0 : σ) (w0 : Usage_text) (w1 : Int) : Option (σ) :=
 (idx w0.ScopeProg.Nodes w1).bind fun y1 =>
 (mU Y y1 fuel 0 s0).bind fun x1 =>
 if y1.Op ≠ 4 then
  some x1
 else
  (qB w0 y1.N).bind fun y4 =>
  (qT fuel (fun (x : Int) (t : σ) => sJ Y x t) x1 y4.1 y4.2).bind fun y5 =>
  (idx w0.ScopeProg.Defs y1.N).bind fun y7 =>
  oB Y y7 fuel 0 y5
theorem aHy (fuel : Nat) {σ : Type} (J : σ → Tk) (Y : Int → σ → Option σ) (s0 : σ) (w0 : Usage_text) (w1 : Int) (r : σ) (H : xY fuel Y s0 w0 w1 = some r) : FnS Tryz.prog 114 [jE Tryz.prog (fun (x : Int) => [aA .i64 x]) Y J, aF (fO eJ) w0, aF (aB .i64) w1] [J s0] (dH []) (fun _ => [J r]) := by
 unfold xY at H
 refine sU Tryz.func114 rfl Tryz.ntmps114 rfl (fun β => ?_)
 refine Z1 ?_
 refine Tn (cD rfl (has rfl) (aT (aIo))) fun b1 => ?_
 refine Z1 ?_
 refine aG ?_
 revert H; refine bs fun y1 h1 H => ?_
 apply bE (ods := [_, _, _, _, _, _, _, _, _, _]) 10 1 3 bF rfl rfl rfl
 refine ND ?_
 refine M8 ?_
 intros
 refine Mn 2 (fun b2 => ptr b2) (fun b2 => aC b2 51 [aA .i64 0, aA .i64 0, fEq (.slice none 0 0), fEq (.slice none 0 0)]) rfl (cL rfl oT rfl) (fun b2 u1 => ?_)
 refine vV (od := od1 8 [2] true (fun b2 _ => fAny) (fun b2 _ => [aC b2 51 [aA .i64 y1.Op, aA .i64 y1.N, fSl bA y1.Args, fSl (aB .i64) y1.Kids]])) (p := 2) (φs' := [aA .i64 y1.Op, aA .i64 y1.N, fSl bA y1.Args, fSl (aB .i64) y1.Kids]) rfl (fun _ => rfl) (fun _ => rfl) trivial rfl rfl rfl (has rfl) (has rfl) (aO (aD trivial) (aO (aD trivial) (aO (aZ) (aO (aZ) bX)))) (sz rfl) rfl rfl rfl (fun _ => ?_)
 revert H; refine B2 fun o1 H Hr1 => ?_
 refine aW (ι := σ) (fun i => o1 = i) (fun i => [(1, aF (fO eJ) w0), (3, fEq (ptr b1)), (4, fEq (ptr b2))]) (fun i => [aC b1 158 [jE Tryz.prog (fun (x : Int) => [aA .i64 x]) Y J], aC b2 51 [aA .i64 y1.Op, aA .i64 y1.N, fSl bA y1.Args, fSl (aB .i64) y1.Kids], J i]) ?_ ?_
 refine Z7 ?_
 refine aJ [0, 2, 1] (by decide) ?_
 refine Tl (ι := Nat × Int × σ) (fun i => mU Y y1 i.1 i.2.1 i.2.2 = _) (fun i => i.1) (fun i => [(1, aF (fO eJ) w0), (3, fEq (ptr b1)), (4, fEq (ptr b2)), (19, fSl (aB .i64) y1.Kids), (20, aA .i64 (y1.Kids.length : Int)), (21, aA .i64 i.2.1)]) (fun i => [aC b1 158 [jE Tryz.prog (fun (x : Int) => [aA .i64 x]) Y J], aC b2 51 [aA .i64 y1.Op, aA .i64 y1.N, fSl bA y1.Args, fSl (aB .i64) y1.Kids], J i.2.2]) (fuel, 0, s0) H ?_
 clear H; rintro ⟨k1, x4, x5⟩ H
 replace H : mU Y y1 k1 x4 x5 = _ := H
 try dsimp only
 obtain _ | k1 := k1
 rw [mU] at H; cases H
 rw [mU] at H
 refine Z3 ?_
 refine aG ?_
 revert H; refine is (fun c1 H => ?_) fun c1 H => ?_
 refine Z3 ?_
 refine aG ?_
 revert H; refine B2 fun y2 h2 H => ?_
 refine Z7 ?_
 refine eB ?_
 revert H; refine bs fun y3 h3 H => ?_
 refine aAp y2 trivial rfl rfl rfl (has rfl) (aK.cons (has rfl) aK.nil) h3 ?_
 revert H; refine B7 fun z1 h4 H => ?_
 refine Z3 ?_
 refine aJ [1, 2, 0] (by decide) ?_
 exact Tm ((k1, z1, y3)) ⟨H, ls⟩
 refine Z6 ?_
 exact Tm (x5) (ij H)
 clear H; intro x1 hi; subst o1; have H := Hr1; clear Hr1; try dsimp only at H
 try dsimp only
 refine aG ?_
 revert H; refine I5 (fun c2 H => ?_) fun c2 H => ?_
 refine Z2 ?_
 cases H
 refine aJ [2] (by decide) ?_
 exact aBC [] (.inl rfl) rfl rfl rfl
 refine Z3 ?_
 refine aG ?_
 revert H; refine B4 fun y4 h5 H => ?_
 refine Tc (aCK _ _ _ h5) ?_
 refine Z2 ?_
 refine T_sub [(1, aF (fO eJ) w0), (3, fEq (ptr b1)), (4, fEq (ptr b2)), (30, fEq (ptr b2)), (31, aA .i64 y1.Op), (32, aH (decide (y1.Op ≠ 4))), (33, aF eJ w0), (34, fEq (.pointer (some ⟨b2, 1, none⟩))), (35, aA .i64 y1.N), (36, cZ 101 [aF (fO eJ) y4.1, aF (aB .i64) y4.2])] (Sc (Sc (Sc (Sc (Sc (Sc (Sc (Sc (Sc (Sc fW.nil)))))))))) ?_
 revert H; refine bs fun y5 h6 H => ?_
 refine aAm (s := x1) (s' := y5) (fun (x : Int) => [aA .i64 x]) (fun (x : Int) (t : σ) => sJ Y x t) (fun (t : σ) => [aC b1 158 [jE Tryz.prog (fun (x : Int) => [aA .i64 x]) Y J], aC b2 51 [aA .i64 y1.Op, aA .i64 y1.N, fSl bA y1.Args, fSl (aB .i64) y1.Kids], J t]) (has rfl) (cb rfl) rfl (fun _ => rfl) rfl (fun J => aBo fuel J (fun (x : Int) (t : σ) => sJ Y x t) x1 y4.1 y4.2 y5 h6) (fun β' l rec x6 t t' hs hp hY => ?_) (fun rb => ?_)
 generalize t = x8 at *
 have H : sJ Y x6 x8 = some t' := hY; clear hY; unfold sJ at H; try dsimp only at H
 show T β' _ _ (rD [37] ((fun (x : Int) => [aA .i64 x]) x6) [(1, aF (fO eJ) w0), (3, fEq (ptr b1)), (4, fEq (ptr b2)), (30, fEq (ptr b2)), (31, aA .i64 y1.Op), (32, aH (decide (y1.Op ≠ 4))), (33, aF eJ w0), (34, fEq (.pointer (some ⟨b2, 1, none⟩))), (35, aA .i64 y1.N), (36, cZ 101 [aF (fO eJ) y4.1, aF (aB .i64) y4.2])]) (tObj l (.loop rec) :: [aC b1 158 [jE Tryz.prog (fun (x : Int) => [aA .i64 x]) Y J], aC b2 51 [aA .i64 y1.Op, aA .i64 y1.N, fSl bA y1.Args, fSl (aB .i64) y1.Kids], J x8]) _
 refine Z3 ?_
 refine yW hs ?_
 refine Z4 ?_
 refine dZ ?_
 revert H; refine bs fun y6 h7 H => ?_
 refine aAp x6 trivial rfl rfl rfl (has rfl) (aK.cons (has rfl) aK.nil) h7 ?_
 refine Z5 ?_
 refine aJ [2, 3, 0, 1] (by decide) ?_
 cases H
 refine aJ [3, 0, 1, 2] (by decide) ?_
 exact aAL hs hp rfl
 generalize rb = rb1
 show T β _ _ [(1, aF (fO eJ) w0), (3, fEq (ptr b1)), (4, fEq (ptr b2)), (30, fEq (ptr b2)), (31, aA .i64 y1.Op), (32, aH (decide (y1.Op ≠ 4))), (33, aF eJ w0), (34, fEq (.pointer (some ⟨b2, 1, none⟩))), (35, aA .i64 y1.N), (36, cZ 101 [aF (fO eJ) y4.1, aF (aB .i64) y4.2])] ([jU rb1] ++ [aC b1 158 [jE Tryz.prog (fun (x : Int) => [aA .i64 x]) Y J], aC b2 51 [aA .i64 y1.Op, aA .i64 y1.N, fSl bA y1.Args, fSl (aB .i64) y1.Kids], J y5]) _
 dsimp only [List.append, List.cons_append, List.nil_append]
 refine Z2 ?_
 refine aG ?_
 revert H; refine bs fun y7 h8 H => ?_
 apply bE (ods := [_, _, _, _, _, _, _, _, _, _, _, _]) 12 0 4 bF rfl rfl rfl
 refine ND ?_
 refine M8 ?_
 intros
 refine M4 ?_
 intros
 refine Z3 ?_
 refine aJ [1, 2, 0, 3] (by decide) ?_
 refine Tl (ι := Nat × Int × σ) (fun i => oB Y y7 i.1 i.2.1 i.2.2 = _) (fun i => i.1) (fun i => [(3, fEq (ptr b1)), (51, fSl bH y7.Rules), (52, aA .i64 (y7.Rules.length : Int)), (53, aA .i64 i.2.1)]) (fun i => [aC b1 158 [jE Tryz.prog (fun (x : Int) => [aA .i64 x]) Y J], aC b2 51 [aA .i64 y1.Op, aA .i64 y1.N, fSl bA y1.Args, fSl (aB .i64) y1.Kids], jU rb1, J i.2.2]) (fuel, 0, y5) H ?_
 clear H; rintro ⟨k2, x12, x13⟩ H
 replace H : oB Y y7 k2 x12 x13 = _ := H
 try dsimp only
 obtain _ | k2 := k2
 rw [oB] at H; cases H
 rw [oB] at H
 refine Z3 ?_
 refine aG ?_
 revert H; refine is (fun c3 H => ?_) fun c3 H => ?_
 refine Z3 ?_
 refine aG ?_
 revert H; refine B2 fun y8 h9 H => ?_
 refine Z2 ?_
 refine Tn (cL rfl vD rfl) fun b3 => ?_
 refine dG (φs' := [aA .i64 y8.At, fSl (aB .i64) y8.Joins, aA .i64 y8.Node]) trivial rfl rfl (has rfl) (has rfl) (aO (aD trivial) (aO (aZ) (aO (aD trivial) bX))) (sz rfl) rfl rfl rfl ?_
 refine Z5 ?_
 refine bI ?_
 revert H; refine bs fun y9 h10 H => ?_
 refine aAp y8.Node trivial rfl rfl rfl (has rfl) (aK.cons (has rfl) aK.nil) h10 ?_
 revert H; refine B7 fun z2 h11 H => ?_
 refine Z3 ?_
 refine aJ [2, 3, 4, 0] (by decide) ?_
 exact Tm ((k2, z2, y9)) ⟨H, ls⟩
 refine Z5 ?_
 cases H
 refine aJ [2, 3] (by decide) ?_
 exact aBC [rb1] (.inr rfl) rfl rfl rfl
 exact fk
 kernel_rfl
 exact fk
 kernel_rfl
def yL (a0 : Usage_text) (a1 : Int) : Option (Usage_text × Int) :=
 some (a0, a1)
theorem aGX  (a0 : Usage_text) (a1 : Int) (r : Usage_text × Int) (H : yL a0 a1 = some r) : FnS Tryz.prog 99 [aF eJ a0, aA .i64 a1] [] (cZ 114 [aF (fO eJ) r.1, aF (aB .i64) r.2]) (fun _ => []) := by
 unfold yL at H
 refine bB Tryz.func99 rfl Tryz.ntmps99 rfl (fun β => ?_)
 refine Z1 ?_
 refine Tn (cD rfl (has rfl) (aT (uX))) fun b1 => ?_
 refine Tn (cD rfl (has rfl) (aT (aD trivial))) fun b2 => ?_
 refine Z3 ?_
 refine cU ?_
 refine cO (φ := aF (fO eJ) a0) (v := ptr b1) [2] (hQ aM.rfl) fz ?_
 refine cP ?_
 refine cO (φ := aF (aB .i64) a1) (v := ptr b2) [3] (hQ aM.rfl) fz ?_
 refine cP ?_
 refine Yy (uT rfl (aK.cons hh (aK.cons hh aK.nil))) ?_
 refine Z3 ?_
 cases H
 exact To
end Go.Proofs.YtmnbfgeljmhekaaGreat
set_option maxRecDepth 100000
set_option maxHeartbeats 2000000
namespace Go.Proofs.YtmnbfgeljmhekaaGreat
open Go.SX Go.SW Go.Dt
attribute [local irreducible] Code.wpIn wpListIn Exit.then Exit.inBlock
def kU (a0 : Usage_text) (a1 : Int) (y2 : ScopeNode) (y5 : ScopeDef) : Nat → Int → (aR Int Usage_channel) → Option (aR Int Usage_channel)
| 0, _, _ => none
| k + 1, x7, x8 =>
 if x7 < (y5.Chans.length : Int) then
  (idx a0.sizes a1).bind fun y6 =>
  (chk (y6 + x7)).bind fun z1 =>
  (chk (x7 + 1)).bind fun z2 =>
  kU a0 a1 y2 y5 k z2 (aR.upd x8 z1 (⟨y2.N, x7⟩ : Usage_channel))
 else
  some x8
def rY (rec_usage_text_fill : Usage_text → Int → (aR Int Usage_channel) → Option (List (aR Int Usage_channel) × List Int)) (a0 : Usage_text) (x1 : aR Int Usage_channel) (x9 : Int) (x12 : List (aR Int Usage_channel)) (x13 : List Int) : Option (List (aR Int Usage_channel) × List Int) :=
 (rec_usage_text_fill ({ a0 with denotes := x12, heads := x13 }) x9 x1).bind fun y9 =>
 some (y9.1, y9.2)
def kS : Nat → Usage_text → Int → (aR Int Usage_channel) → Option (List (aR Int Usage_channel) × List Int)
| 0, _, _, _ => none
| fuel + 1, a0, a1, a2 =>
 (idx a0.denotes a1).bind fun y1 =>
 (idx a0.ScopeProg.Nodes a1).bind fun y2 =>
 (if y2.Op = 4 then
  (idx a0.heads y2.N).bind fun y3 =>
  (some ()).bind fun _ =>
  ((idx a0.ScopeProg.Defs y2.N).bind fun y5 =>
  kU a0 a1 y2 y5 fuel 0 a2).bind fun x4 =>
  some (x4, a0.heads.set y2.N.toNat a1)
 else
  some (a2, a0.heads)).bind fun (x1, x2) =>
 (yL a0 a1).bind fun y7 =>
 (xY fuel (fun (x : Int) (t : List (aR Int Usage_channel) × List Int) => rY (kS fuel) a0 x1 x t.1 t.2) (a0.denotes.set a1.toNat a2, x2) y7.1 y7.2).bind fun y8 => match y8 with
 | (x14, x15) =>
 some (x14, x15)
theorem aHO : ∀ (fuel : Nat), (∀ (h0_0 : Value) (h0_1 : Value) (a0 : Usage_text) (a1 : Int) (a2 : aR Int Usage_channel) (r : List (aR Int Usage_channel) × List Int) (H : kS fuel a0 a1 a2 = some r), FnS Tryz.prog 79 [aF fS (⟨a0.ScopeProg, h0_0, a0.sizes, h0_1⟩ : Usage_text_R), aA .i64 a1, fQ cR (fun y => fSt dN y) a2] [aE h0_0 123 (gO cR (fun y => fSt dN y)) a0.denotes, aE h0_1 3 (aB .i64) a0.heads] (dH []) (fun _ => [aE h0_0 123 (gO cR (fun y => fSt dN y)) r.1, aE h0_1 3 (aB .i64) r.2])) := by
 intro fuel
 induction fuel with
 | zero => exact fun h0_0 h0_1 a0 a1 a2 r H => (by rw [kS] at H; cases H)
 | succ fuel ih =>
 have ih_usage_text_fill := ih
 refine ?_
 intro h0_0 h0_1 a0 a1 a2 r H
 rw [kS] at H
 refine sU Tryz.func79 rfl Tryz.ntmps79 rfl (fun β => ?_)
 refine Z1 ?_
 refine Tn (cD rfl (has rfl) (aT (uX))) fun b1 => ?_
 refine Tn (cD rfl (has rfl) (aT (aBz))) fun b2 => ?_
 refine Z1 ?_
 refine aG ?_
 revert H; refine bs fun y1 h1 H => ?_
 apply bE (ods := [_, _, _, _, _, _, _, _]) 8 0 4 bF rfl rfl rfl
 refine ND ?_
 refine M3 ?_
 intros
 refine My (aFp rfl hh (sc rfl) rfl gU) fun _ => ?_
 refine M3 ?_
 intros
 refine mB (od := odC [2] true (fAny) [aE h0_0 123 (gO cR (fun y => fSt dN y)) (a0.denotes.set a1.toNat a2)]) (p := 2) (z' := a2) rfl (fun _ => rfl) (fun _ => rfl) trivial rfl rfl rfl rfl (has rfl) (has rfl) (aBz) (sz rfl) (bN h1) rfl rfl (fun _ => ?_)
 revert H; refine B9 fun y2 h2 H => ?_
 refine Z2 ?_
 refine Tn (cL rfl oT rfl) fun b3 => ?_
 refine dG (φs' := [aA .i64 y2.Op, aA .i64 y2.N, fSl bA y2.Args, fSl (aB .i64) y2.Kids]) trivial rfl rfl (has rfl) (has rfl) (aO (aD trivial) (aO (aD trivial) (aO (aZ) (aO (aZ) bX)))) (sz rfl) rfl rfl rfl ?_
 revert H; refine B1 fun o1 H Hr1 => ?_
 refine aW (ι := aR Int Usage_channel × List Int) (fun i => o1 = (i.1, i.2)) (fun i => [(0, aF fS (⟨a0.ScopeProg, h0_0, a0.sizes, h0_1⟩ : Usage_text_R)), (1, aA .i64 a1), (3, fEq (ptr b1)), (5, fEq (ptr b2))]) (fun i => [aC b2 123 [fQ cR (fun y => fSt dN y) i.1], aC b3 51 [aA .i64 y2.Op, aA .i64 y2.N, fSl bA y2.Args, fSl (aB .i64) y2.Kids], aC b1 64 [aF fS (⟨a0.ScopeProg, h0_0, a0.sizes, h0_1⟩ : Usage_text_R)], aE h0_0 123 (gO cR (fun y => fSt dN y)) (a0.denotes.set a1.toNat a2), aE h0_1 3 (aB .i64) i.2]) ?_ ?_
 revert H; refine I5 (fun c1 H => ?_) fun c1 H => ?_
 refine Z1 ?_
 refine aG ?_
 revert H; refine bs fun y3 h3 H => ?_
 apply bE (ods := [_, _, _, _, _, _, _, _, _]) 9 0 5 bF rfl rfl rfl
 refine ND ?_
 refine M3 ?_
 intros
 refine My (aFp rfl hh (sc rfl) rfl gU) fun _ => ?_
 refine M4 ?_
 intros
 refine mB (od := odC [4] true (fAny) [aE h0_1 3 (aB .i64) (a0.heads.set y2.N.toNat a1)]) (p := 4) (z' := a1) rfl (fun _ => rfl) (fun _ => rfl) trivial rfl rfl rfl rfl (has rfl) (has rfl) (aD trivial) (sz rfl) (bN h3) rfl rfl (fun _ => ?_)
 refine Z3 ?_
 refine Tn (aAn (fun y => fSt dN y) cR rfl) fun b4 => ?_
 revert H; refine B2 fun o2 H Hr2 => ?_
 refine aW (ι := Unit) (fun i => o2 = ()) (fun i => [(0, aF fS (⟨a0.ScopeProg, h0_0, a0.sizes, h0_1⟩ : Usage_text_R)), (1, aA .i64 a1), (3, fEq (ptr b1)), (5, fEq (ptr b2)), (6, fEq (ptr b3)), (7, fEq (.map (some b4)))]) (fun i => [aC b3 51 [aA .i64 y2.Op, aA .i64 y2.N, fSl bA y2.Args, fSl (aB .i64) y2.Kids], aC b2 123 [fQ cR (fun y => fSt dN y) a2], aC b1 64 [aF fS (⟨a0.ScopeProg, h0_0, a0.sizes, h0_1⟩ : Usage_text_R)], hC cR (fun y => fSt dN y) b4 a2, aE h0_0 123 (gO cR (fun y => fSt dN y)) (a0.denotes.set a1.toNat a2), aE h0_1 3 (aB .i64) (a0.heads.set y2.N.toNat a1)]) ?_ ?_
 refine Z2 ?_
 refine Tn (n_range (kd := cR) (vf := (fun y => fSt dN y)) (g := a2) rfl (has rfl) vW) fun b5 => ?_
 refine Z2 ?_
 refine aJ [2, 3, 4, 1, 5, 6, 0] (by decide) ?_
 refine Tl (ι := aR Int Usage_channel) (fun _ => True) (fun i => a2.size - i.size) (fun i => [(0, aF fS (⟨a0.ScopeProg, h0_0, a0.sizes, h0_1⟩ : Usage_text_R)), (1, aA .i64 a1), (3, fEq (ptr b1)), (5, fEq (ptr b2)), (6, fEq (ptr b3)), (7, fEq (.map (some b4))), (40, fEq (ptr b5))]) (fun i => [aC b3 51 [aA .i64 y2.Op, aA .i64 y2.N, fSl bA y2.Args, fSl (aB .i64) y2.Kids], aC b2 123 [fQ cR (fun y => fSt dN y) a2], aC b1 64 [aF fS (⟨a0.ScopeProg, h0_0, a0.sizes, h0_1⟩ : Usage_text_R)], hC cR (fun y => fSt dN y) b4 i, aE h0_0 123 (gO cR (fun y => fSt dN y)) (a0.denotes.set a1.toNat a2), aE h0_1 3 (aB .i64) (a0.heads.set y2.N.toNat a1), wJ cR (fun y => fSt dN y) b5 a2 i]) aR.none trivial ?_
 intro g1 _
 try dsimp only
 refine Z1 ?_
 refine mX ?_
 refine T_next trivial rfl rfl rfl (has rfl) (fun hg => ?_) (fun x3 y4 h4 h5 h6 => ?_)
 subst hg
 refine Z2 ?_
 refine aG ?_
 refine Z6 ?_
 refine aJ [1, 2, 3, 4, 5, 6] (by decide) ?_
 exact Tm (()) (ij H)
 refine Z2 ?_
 refine aG ?_
 refine Z5 ?_
 refine Yo 0 rfl (o_entry rfl hh) ?_
 refine Z2 ?_
 refine Tn (cL rfl aBv rfl) fun b6 => ?_
 refine Z1 ?_
 refine dG (φs' := [aA .i64 y4.def_, aA .i64 y4.index]) trivial rfl rfl (has rfl) (has rfl) (aO (aD trivial) (aO (aD trivial) bX)) (sz rfl) rfl rfl rfl ?_
 refine Z5 ?_
 refine nM ?_
 refine jK (k := x3) (y := (⟨y4.def_, y4.index⟩ : Usage_channel)) trivial (.inl rfl) rfl (has rfl) (has rfl) rfl (has rfl) rfl vW ?_
 refine Z3 ?_
 refine eB ?_
 refine T_iterC ?_
 refine aJ [3, 4, 5, 1, 6, 7, 0] (by decide) ?_
 exact Tm (aR.upd g1 x3 y4) ⟨trivial, upd_meas h5 h6⟩
 clear H; intro i hi; subst o2; have H := Hr2; clear Hr2; try dsimp only at H
 try dsimp only
 revert H; refine bs fun o3 H Hr3 => ?_
 refine aW (ι := aR Int Usage_channel) (fun i => o3 = i) (fun i => [(0, aF fS (⟨a0.ScopeProg, h0_0, a0.sizes, h0_1⟩ : Usage_text_R)), (1, aA .i64 a1), (3, fEq (ptr b1)), (5, fEq (ptr b2)), (7, fEq (.map (some b4)))]) (fun i => [aC b3 51 [aA .i64 y2.Op, aA .i64 y2.N, fSl bA y2.Args, fSl (aB .i64) y2.Kids], aC b2 123 [fQ cR (fun y => fSt dN y) a2], aC b1 64 [aF fS (⟨a0.ScopeProg, h0_0, a0.sizes, h0_1⟩ : Usage_text_R)], hC cR (fun y => fSt dN y) b4 i, aE h0_0 123 (gO cR (fun y => fSt dN y)) (a0.denotes.set a1.toNat a2), aE h0_1 3 (aB .i64) (a0.heads.set y2.N.toNat a1)]) ?_ ?_
 refine aG ?_
 revert H; refine bs fun y5 h7 H => ?_
 apply bE (ods := [_, _, _, _, _, _, _, _, _, _, _, _]) 12 0 6 bF rfl rfl rfl
 refine ND ?_
 refine M8 ?_
 intros
 refine M4 ?_
 intros
 refine Z3 ?_
 refine Tl (ι := Nat × Int × aR Int Usage_channel) (fun i => kU a0 a1 y2 y5 i.1 i.2.1 i.2.2 = _) (fun i => i.1) (fun i => [(0, aF fS (⟨a0.ScopeProg, h0_0, a0.sizes, h0_1⟩ : Usage_text_R)), (1, aA .i64 a1), (3, fEq (ptr b1)), (5, fEq (ptr b2)), (6, fEq (ptr b3)), (7, fEq (.map (some b4))), (59, aA .i64 (y5.Chans.length : Int)), (60, aA .i64 i.2.1)]) (fun i => [aC b3 51 [aA .i64 y2.Op, aA .i64 y2.N, fSl bA y2.Args, fSl (aB .i64) y2.Kids], aC b2 123 [fQ cR (fun y => fSt dN y) a2], aC b1 64 [aF fS (⟨a0.ScopeProg, h0_0, a0.sizes, h0_1⟩ : Usage_text_R)], hC cR (fun y => fSt dN y) b4 i.2.2, aE h0_0 123 (gO cR (fun y => fSt dN y)) (a0.denotes.set a1.toNat a2), aE h0_1 3 (aB .i64) (a0.heads.set y2.N.toNat a1)]) (fuel, 0, a2) H ?_
 clear H; rintro ⟨k1, x7, x8⟩ H
 replace H : kU a0 a1 y2 y5 k1 x7 x8 = _ := H
 try dsimp only
 obtain _ | k1 := k1
 rw [kU] at H; cases H
 rw [kU] at H
 refine Z3 ?_
 refine aG ?_
 revert H; refine is (fun c2 H => ?_) fun c2 H => ?_
 refine Z3 ?_
 refine aG ?_
 revert H; refine B5 fun y6 h8 H => ?_
 revert H; refine bs fun z1 h9 H => ?_
 apply bE (ods := [_, _, _, _, _, _, _, _, _, _, _, _, _, _]) 14 0 6 bF rfl rfl rfl
 refine ND ?_
 refine M8 ?_
 intros
 refine M5 ?_
 intros
 refine My (dO (ψs := [aA .i64 y2.N, aA .i64 x7]) rfl aF8 rfl (aU.cons (has rfl) (aT (aD trivial)) (aU.cons (has rfl) (aT (aD trivial)) aU.nil)) rfl) fun _ => ?_
 refine Z1 ?_
 refine dZ ?_
 refine jK (k := z1) (y := (⟨y2.N, x7⟩ : Usage_channel)) trivial (.inl rfl) rfl (has rfl) (has rfl) rfl (has rfl) rfl vW ?_
 revert H; refine B4 fun z2 h10 H => ?_
 refine Z3 ?_
 refine aJ [1, 2, 3, 0, 4, 5] (by decide) ?_
 exact Tm ((k1, z2, aR.upd x8 z1 (⟨y2.N, x7⟩ : Usage_channel))) ⟨H, ls⟩
 exact fk
 kernel_rfl
 refine Z6 ?_
 exact Tm (x8) (ij H)
 exact fk
 kernel_rfl
 clear H; intro x4 hi; subst o3; have H := Hr3; clear Hr3; try dsimp only at H
 try dsimp only
 refine Z2 ?_
 refine cU ?_
 refine cX (φs' := [fEq (.map (some b4))]) trivial rfl rfl (has rfl) (has rfl) (aD trivial) (sz rfl) rfl rfl ?_
 refine Z1 ?_
 refine dZ ?_
 refine cO (φ := fQ cR (fun y => fSt dN y) x4) (v := .map (some b4)) [7, 78] aCP fz ?_
 refine gJ (φs' := [fQ cR (fun y => fSt dN y) x4]) (i := 0) rfl rfl ?_
 refine cP ?_
 exact Tm ((x4, a0.heads.set y2.N.toNat a1)) (ij H)
 exact fk
 kernel_rfl
 refine Z3 ?_
 refine aJ [1, 0, 2, 3, 4] (by decide) ?_
 exact Tm ((a2, a0.heads)) (ij H)
 clear H; intro i hi; obtain ⟨x1, x2⟩ := i; subst o1; have H := Hr1; clear Hr1; try dsimp only at H
 try dsimp only
 revert H; refine B3 fun y7 h11 H => ?_
 refine gI trivial rfl rfl rfl (has rfl) (aK.cons (cW rfl (aIG)) (aK.cons (has rfl) aK.nil)) rfl (cb rfl) (aGX a0 a1 y7 h11) rfl ?_
 refine Z2 ?_
 refine T_sub [(0, aF fS (⟨a0.ScopeProg, h0_0, a0.sizes, h0_1⟩ : Usage_text_R)), (1, aA .i64 a1), (3, fEq (ptr b1)), (5, fEq (ptr b2)), (79, aF fS (⟨a0.ScopeProg, h0_0, a0.sizes, h0_1⟩ : Usage_text_R)), (80, aA .i64 a1), (81, cZ 114 [aF (fO eJ) y7.1, aF (aB .i64) y7.2])] (Sc (Sc (Sc (Sc (Sc (Sc (Sc fW.nil))))))) ?_
 revert H; refine bs fun y8 h12 H => ?_
 refine aAm (s := (a0.denotes.set a1.toNat a2, x2)) (s' := y8) (fun (x : Int) => [aA .i64 x]) (fun (x : Int) (t : List (aR Int Usage_channel) × List Int) => rY (kS fuel) a0 x1 x t.1 t.2) (fun (t : List (aR Int Usage_channel) × List Int) => [aC b2 123 [fQ cR (fun y => fSt dN y) x1], aC b3 51 [aA .i64 y2.Op, aA .i64 y2.N, fSl bA y2.Args, fSl (aB .i64) y2.Kids], aC b1 64 [aF fS (⟨a0.ScopeProg, h0_0, a0.sizes, h0_1⟩ : Usage_text_R)], aE h0_0 123 (gO cR (fun y => fSt dN y)) t.1, aE h0_1 3 (aB .i64) t.2]) (has rfl) (cb rfl) rfl (fun _ => rfl) rfl (fun J => aHy fuel J (fun (x : Int) (t : List (aR Int Usage_channel) × List Int) => rY (kS fuel) a0 x1 x t.1 t.2) (a0.denotes.set a1.toNat a2, x2) y7.1 y7.2 y8 h12) (fun β' l rec x9 t t' hs hp hY => ?_) (fun rb => ?_)
 obtain ⟨x12, x13⟩ := t
 have H : rY (kS fuel) a0 x1 x9 x12 x13 = some t' := hY; clear hY; unfold rY at H; try dsimp only at H
 show T β' _ _ (rD [82] ((fun (x : Int) => [aA .i64 x]) x9) [(0, aF fS (⟨a0.ScopeProg, h0_0, a0.sizes, h0_1⟩ : Usage_text_R)), (1, aA .i64 a1), (3, fEq (ptr b1)), (5, fEq (ptr b2)), (79, aF fS (⟨a0.ScopeProg, h0_0, a0.sizes, h0_1⟩ : Usage_text_R)), (80, aA .i64 a1), (81, cZ 114 [aF (fO eJ) y7.1, aF (aB .i64) y7.2])]) (tObj l (.loop rec) :: [aC b2 123 [fQ cR (fun y => fSt dN y) x1], aC b3 51 [aA .i64 y2.Op, aA .i64 y2.N, fSl bA y2.Args, fSl (aB .i64) y2.Kids], aC b1 64 [aF fS (⟨a0.ScopeProg, h0_0, a0.sizes, h0_1⟩ : Usage_text_R)], aE h0_0 123 (gO cR (fun y => fSt dN y)) x12, aE h0_1 3 (aB .i64) x13]) _
 refine Z3 ?_
 refine yW hs ?_
 refine Z5 ?_
 refine nM ?_
 refine nM ?_
 revert H; refine bs fun y9 h13 H => ?_
 refine Tc (ih_usage_text_fill _ _ _ _ _ _ h13) ?_
 refine Z2 ?_
 refine aJ [3, 4, 5, 0, 1, 2] (by decide) ?_
 cases H
 refine aJ [5, 0, 1, 2, 3, 4] (by decide) ?_
 exact aAL hs hp rfl
 obtain ⟨x14, x15⟩ := y8; dsimp only at H
 generalize rb = rb1
 show T β _ _ [(0, aF fS (⟨a0.ScopeProg, h0_0, a0.sizes, h0_1⟩ : Usage_text_R)), (1, aA .i64 a1), (3, fEq (ptr b1)), (5, fEq (ptr b2)), (79, aF fS (⟨a0.ScopeProg, h0_0, a0.sizes, h0_1⟩ : Usage_text_R)), (80, aA .i64 a1), (81, cZ 114 [aF (fO eJ) y7.1, aF (aB .i64) y7.2])] ([jU rb1] ++ [aC b2 123 [fQ cR (fun y => fSt dN y) x1], aC b3 51 [aA .i64 y2.Op, aA .i64 y2.N, fSl bA y2.Args, fSl (aB .i64) y2.Kids], aC b1 64 [aF fS (⟨a0.ScopeProg, h0_0, a0.sizes, h0_1⟩ : Usage_text_R)], aE h0_0 123 (gO cR (fun y => fSt dN y)) x14, aE h0_1 3 (aB .i64) x15]) _
 dsimp only [List.append, List.cons_append, List.nil_append]
 refine Z1 ?_
 cases H
 refine aJ [0, 4, 5] (by decide) ?_
 exact aBC [rb1] (.inr rfl) rfl rfl rfl
 exact fk
 kernel_rfl
def oX (fuel : Nat) (a0 : ScopeProg) : Option (Usage_text) :=
 (mk aR.none (a0.Nodes.length : Int)).bind fun y1 =>
 (mk 0 (a0.Defs.length : Int)).bind fun y2 =>
 (tN fuel (⟨a0.Free, a0.Nodes, a0.Defs, a0.Main⟩ : ScopeProg)).bind fun y3 =>
 (kS fuel ({ (⟨(⟨a0.Free, a0.Nodes, a0.Defs, a0.Main⟩ : ScopeProg), y1, y3.1, y2⟩ : Usage_text) with denotes := y1, heads := y2 }) a0.Main (aR.none : aR Int Usage_channel)).bind fun y4 =>
 some (⟨(⟨((⟨(⟨a0.Free, a0.Nodes, a0.Defs, a0.Main⟩ : ScopeProg), y1, y3.1, y2⟩ : Usage_text).ScopeProg).Free, ((⟨(⟨a0.Free, a0.Nodes, a0.Defs, a0.Main⟩ : ScopeProg), y1, y3.1, y2⟩ : Usage_text).ScopeProg).Nodes, ((⟨(⟨a0.Free, a0.Nodes, a0.Defs, a0.Main⟩ : ScopeProg), y1, y3.1, y2⟩ : Usage_text).ScopeProg).Defs, ((⟨(⟨a0.Free, a0.Nodes, a0.Defs, a0.Main⟩ : ScopeProg), y1, y3.1, y2⟩ : Usage_text).ScopeProg).Main⟩ : ScopeProg), y4.1, (⟨(⟨a0.Free, a0.Nodes, a0.Defs, a0.Main⟩ : ScopeProg), y1, y3.1, y2⟩ : Usage_text).sizes, y4.2⟩ : Usage_text)
theorem aBE (fuel : Nat)  (a0 : ScopeProg) (r : Usage_text) (H : oX fuel a0 = some r) : FnS Tryz.prog 36 [fSt dJ a0] [] (aF bG r) (fun _ => []) := by
 unfold oX at H
 refine bB Tryz.func36 rfl Tryz.ntmps36 rfl (fun β => ?_)
 refine Z1 ?_
 refine Tn (cD rfl (has rfl) bJ) fun b1 => ?_
 refine Z2 ?_
 refine aG ?_
 revert H; refine bs fun y1 h1 H => ?_
 revert H; refine bs fun y2 h2 H => ?_
 apply bE (ods := [_, _, _, _, _, _, _, _, _, _, _, _]) 12 3 4 bF rfl rfl rfl
 refine ND ?_
 refine M4 ?_
 intros
 refine Mn 1 (fun b2 => .slice (some ⟨b2, 0, none⟩) y1.length y1.length) (fun b2 => aE (.slice (some ⟨b2, 0, none⟩) y1.length y1.length) 123 (gO cR (fun y => fSt dN y)) y1) rfl (n_makeE (t := (gO cR (fun y => fSt dN y))) (z := aR.none) rfl (has rfl) (et rfl) rfl aIx (aM.cons aF1 aM.nil) h1) (fun b2 u1 => ?_)
 refine M3 ?_
 intros
 refine Mn 2 (fun b3 => .slice (some ⟨b3, 0, none⟩) y2.length y2.length) (fun b3 => aE (.slice (some ⟨b3, 0, none⟩) y2.length y2.length) 3 (aB .i64) y2) rfl (lA (t := (aB .i64)) (z := 0) rfl (has rfl) (et rfl) rfl qZ rfl h2) (fun b3 u2 => ?_)
 refine D2 4 8 b2 _ b3 _ (fun b2 _ b3 _ => eD [fSl aN a0.Free, fSl aL a0.Nodes, fSl aI a0.Defs, aA .i64 a0.Main, fEq (.slice (some ⟨b2, 0, none⟩) y1.length y1.length), fEq (.slice none 0 0), fEq (.slice (some ⟨b3, 0, none⟩) y2.length y2.length)]) rfl rfl (dO (ψs := [fSl aN a0.Free, fSl aL a0.Nodes, fSl aI a0.Defs, aA .i64 a0.Main, fEq (.slice (some ⟨b2, 0, none⟩) y1.length y1.length), fEq (.slice none 0 0), fEq (.slice (some ⟨b3, 0, none⟩) y2.length y2.length)]) rfl ty_bu_84 rfl (aU.cons (has rfl) bJ (aU.cons (has rfl) (aT (aD trivial)) (aU.cons (has rfl) (aT (aD trivial)) aU.nil))) rfl) (fun _ => ?_)
 refine N_new (od := odN2 4 8 [3] true (fun b2 _ b3 _ b4 _ => fEq (ptr b4)) (fun b2 _ b3 _ b4 _ => [aC b4 84 [fSl aN a0.Free, fSl aL a0.Nodes, fSl aI a0.Defs, aA .i64 a0.Main, fEq (.slice (some ⟨b2, 0, none⟩) y1.length y1.length), fEq (.slice none 0 0), fEq (.slice (some ⟨b3, 0, none⟩) y2.length y2.length)]])) (p := 3) (f := fun b4 => ptr b4) (τ := fun b4 => aC b4 84 [fSl aN a0.Free, fSl aL a0.Nodes, fSl aI a0.Defs, aA .i64 a0.Main, fEq (.slice (some ⟨b2, 0, none⟩) y1.length y1.length), fEq (.slice none 0 0), fEq (.slice (some ⟨b3, 0, none⟩) y2.length y2.length)]) rfl (fun _ => rfl) (fun _ => rfl) trivial rfl rfl (cD rfl (has rfl) bJ) (fun b4 u3 => ?_)
 refine D1 10 b4 _ (fun b4 _ => fEq (ptr b4)) rfl (aAP rfl hh) (fun _ => ?_)
 refine Z1 ?_
 generalize (Value.slice (some ⟨b2, 0, none⟩) _ _) = v1
 refine aS 1 rfl (fun hc_v1 => ?_)
 generalize (Value.slice (some ⟨b3, 0, none⟩) _ _) = v2
 refine aS 2 rfl (fun hc_v2 => ?_)
 revert H; refine B4 fun y3 h3 H => ?_
 refine Tc (aGE _ _ _ h3) ?_
 refine Z5 ?_
 refine dZ ?_
 refine cX (φs' := [fSl aN a0.Free, fSl aL a0.Nodes, fSl aI a0.Defs, aA .i64 a0.Main, fEq v1, fSl (aB .i64) y3.1, fEq v2]) trivial rfl rfl (has rfl) (has rfl) (aZ) (sz rfl) rfl rfl ?_
 refine Z5 ?_
 refine Tn (aAn (fun y => fSt dN y) cR rfl) fun b5 => ?_
 refine cU ?_
 refine cO (φ := aF fS (⟨(⟨a0.Free, a0.Nodes, a0.Defs, a0.Main⟩ : ScopeProg), v1, y3.1, v2⟩ : Usage_text_R)) (v := ptr b4) [14, 3, 16, 21, 23] (hQ (aM.cons Ent.rfl (aM.cons Ent.rfl (aM.cons Ent.rfl (aM.cons Ent.rfl (aM.cons (aDD hc_v1) (aM.cons Ent.rfl (aM.cons (aDD hc_v2) aM.nil)))))))) fz ?_
 refine cP ?_
 refine cO (φ := fQ cR (fun y => fSt dN y) (aR.none : aR Int Usage_channel)) (v := .map (some b5)) [26] aCP fz ?_
 refine cP ?_
 refine eB ?_
 refine eB ?_
 revert H; refine bs fun y4 h4 H => ?_
 refine Tc (aHO _ _ _ _ _ _ _ h4) ?_
 refine Z6 ?_
 refine cO (φ := fSl (gO cR (fun y => fSt dN y)) y4.1) (v := v1) [8] cG fz ?_
 refine aDZ 2 (i := 4) (φs := [fSl aN (((⟨(⟨a0.Free, a0.Nodes, a0.Defs, a0.Main⟩ : ScopeProg), y1, y3.1, y2⟩ : Usage_text).ScopeProg).Free), fSl aL (((⟨(⟨a0.Free, a0.Nodes, a0.Defs, a0.Main⟩ : ScopeProg), y1, y3.1, y2⟩ : Usage_text).ScopeProg).Nodes), fSl aI (((⟨(⟨a0.Free, a0.Nodes, a0.Defs, a0.Main⟩ : ScopeProg), y1, y3.1, y2⟩ : Usage_text).ScopeProg).Defs), aA .i64 (((⟨(⟨a0.Free, a0.Nodes, a0.Defs, a0.Main⟩ : ScopeProg), y1, y3.1, y2⟩ : Usage_text).ScopeProg).Main), eH v1, fSl (aB .i64) ((⟨(⟨a0.Free, a0.Nodes, a0.Defs, a0.Main⟩ : ScopeProg), y1, y3.1, y2⟩ : Usage_text).sizes), eH v2]) (φs' := [fSl aN (((⟨(⟨a0.Free, a0.Nodes, a0.Defs, a0.Main⟩ : ScopeProg), y1, y3.1, y2⟩ : Usage_text).ScopeProg).Free), fSl aL (((⟨(⟨a0.Free, a0.Nodes, a0.Defs, a0.Main⟩ : ScopeProg), y1, y3.1, y2⟩ : Usage_text).ScopeProg).Nodes), fSl aI (((⟨(⟨a0.Free, a0.Nodes, a0.Defs, a0.Main⟩ : ScopeProg), y1, y3.1, y2⟩ : Usage_text).ScopeProg).Defs), aA .i64 (((⟨(⟨a0.Free, a0.Nodes, a0.Defs, a0.Main⟩ : ScopeProg), y1, y3.1, y2⟩ : Usage_text).ScopeProg).Main), fSl (gO cR (fun y => fSt dN y)) y4.1, fSl (aB .i64) ((⟨(⟨a0.Free, a0.Nodes, a0.Defs, a0.Main⟩ : ScopeProg), y1, y3.1, y2⟩ : Usage_text).sizes), eH v2]) rfl rfl rfl ?_
 refine cP ?_
 refine cO (φ := fSl (aB .i64) y4.2) (v := v2) [12] cG fz ?_
 refine aDZ 2 (i := 6) (φs := [fSl aN (((⟨(⟨a0.Free, a0.Nodes, a0.Defs, a0.Main⟩ : ScopeProg), y1, y3.1, y2⟩ : Usage_text).ScopeProg).Free), fSl aL (((⟨(⟨a0.Free, a0.Nodes, a0.Defs, a0.Main⟩ : ScopeProg), y1, y3.1, y2⟩ : Usage_text).ScopeProg).Nodes), fSl aI (((⟨(⟨a0.Free, a0.Nodes, a0.Defs, a0.Main⟩ : ScopeProg), y1, y3.1, y2⟩ : Usage_text).ScopeProg).Defs), aA .i64 (((⟨(⟨a0.Free, a0.Nodes, a0.Defs, a0.Main⟩ : ScopeProg), y1, y3.1, y2⟩ : Usage_text).ScopeProg).Main), fSl (gO cR (fun y => fSt dN y)) y4.1, fSl (aB .i64) ((⟨(⟨a0.Free, a0.Nodes, a0.Defs, a0.Main⟩ : ScopeProg), y1, y3.1, y2⟩ : Usage_text).sizes), eH v2]) (φs' := [fSl aN (((⟨(⟨a0.Free, a0.Nodes, a0.Defs, a0.Main⟩ : ScopeProg), y1, y3.1, y2⟩ : Usage_text).ScopeProg).Free), fSl aL (((⟨(⟨a0.Free, a0.Nodes, a0.Defs, a0.Main⟩ : ScopeProg), y1, y3.1, y2⟩ : Usage_text).ScopeProg).Nodes), fSl aI (((⟨(⟨a0.Free, a0.Nodes, a0.Defs, a0.Main⟩ : ScopeProg), y1, y3.1, y2⟩ : Usage_text).ScopeProg).Defs), aA .i64 (((⟨(⟨a0.Free, a0.Nodes, a0.Defs, a0.Main⟩ : ScopeProg), y1, y3.1, y2⟩ : Usage_text).ScopeProg).Main), fSl (gO cR (fun y => fSt dN y)) y4.1, fSl (aB .i64) ((⟨(⟨a0.Free, a0.Nodes, a0.Defs, a0.Main⟩ : ScopeProg), y1, y3.1, y2⟩ : Usage_text).sizes), fSl (aB .i64) y4.2]) rfl rfl rfl ?_
 refine cP ?_
 cases H
 refine aJ [] (by decide) ?_
 exact To
 exact fk
 kernel_rfl
def zO (fuel : Nat) (a0 : ScopeProg) (a1 : Int) (a2 : Int) : Option ((Option Usage_text) × Bool) :=
 (qS fuel (⟨a0.Free, a0.Nodes, a0.Defs, a0.Main⟩ : ScopeProg)).bind fun y1 =>
 if y1 ≠ 0 then
  some (none, false)
 else
  if a1 < 0 then
   some (none, false)
  else
   if (a0.Nodes.length : Int) ≤ a1 then
    some (none, false)
   else
    (oX fuel (⟨a0.Free, a0.Nodes, a0.Defs, a0.Main⟩ : ScopeProg)).bind fun y2 =>
    (if 0 ≤ a2 then
     (idx y2.sizes a1).bind fun y3 =>
     some (decide (a2 < y3))
    else
     some false).bind fun x1 =>
    some (some y2, x1)
theorem aDm (fuel : Nat)  (a0 : ScopeProg) (a1 : Int) (a2 : Int) (r : (Option Usage_text) × Bool) (H : zO fuel a0 a1 a2 = some r) : FnS Tryz.prog 25 [fSt dJ a0, aA .i64 a1, aA .i64 a2] [] (dH [fOpt bG r.1, aH r.2]) (fun _ => []) := by
 unfold zO at H
 refine bB Tryz.func25 rfl Tryz.ntmps25 rfl (fun β => ?_)
 refine Z1 ?_
 refine Tn (cD rfl (has rfl) bJ) fun b1 => ?_
 refine Z3 ?_
 refine aG ?_
 revert H; refine B2 fun y1 h1 H => ?_
 refine Tc (aCe _ _ _ h1) ?_
 revert H; refine I2 (fun c1 H => ?_) fun c1 H => ?_
 refine Z12 ?_
 refine Z5 ?_
 cases H
 refine aJ [] (by decide) ?_
 exact gK rfl (iJ rfl aBw) (bM rfl) rfl
 revert H; refine I4 (fun c2 H => ?_) fun c2 H => ?_
 refine Z12 ?_
 refine Z1 ?_
 cases H
 refine aJ [] (by decide) ?_
 exact gK rfl (iJ rfl aBw) (bM rfl) rfl
 revert H; refine I7 (fun c3 H => ?_) fun c3 H => ?_
 refine Z6 ?_
 cases H
 refine aJ [] (by decide) ?_
 exact gK rfl (iJ rfl aBw) (bM rfl) rfl
 revert H; refine B5 fun y2 h2 H => ?_
 refine Tc (aBE _ _ _ h2) ?_
 revert H; refine B2 fun o1 H Hr1 => ?_
 refine aW (ι := Bool) (fun i => o1 = i) (fun i => [(6, aF bG y2), (7, aH i)]) (fun i => [aC b1 26 [fSl aN a0.Free, fSl aL a0.Nodes, fSl aI a0.Defs, aA .i64 a0.Main]]) ?_ ?_
 revert H; refine is (fun c4 H => ?_) fun c4 H => ?_
 revert H; refine bs fun y3 h3 H => ?_
 apply bE (ods := [_, _, _, _, _, _, _, _, _, _, _, _, _, _, _, _]) 16 0 1 bF rfl rfl rfl
 refine ND ?_
 refine M8 ?_
 intros
 refine M8 ?_
 intros
 refine Z2 ?_
 exact Tm (decide (a2 < y3)) (ij H)
 exact fk
 kernel_rfl
 apply bE (ods := [_, _, _, _, _, _, _, _, _, _, _, _, _, _, _, _]) 16 0 1 bF rfl rfl rfl
 refine ND ?_
 refine M8 ?_
 intros
 refine M8 ?_
 intros
 refine Z2 ?_
 exact Tm (false) (ij H)
 exact fk
 kernel_rfl
 clear H; intro x1 hi; subst o1; have H := Hr1; clear Hr1; try dsimp only at H
 try dsimp only
 refine Z1 ?_
 cases H
 refine aJ [] (by decide) ?_
 exact gK rfl (iJ rfl ent_optS) (bM rfl) rfl
def mA (a0 : List Int) (a1 : List Int) (a2 : Bool) (w0 : Int × Int × Bool → Option Bool) : Nat → Int → Option ((Unit) ⊕ (Bool))
| 0, _ => none
| k + 1, x2 =>
 if x2 < (a0.length : Int) then
  (idx a0 x2).bind fun y1 =>
  (idx a1 x2).bind fun y2 =>
  (w0 (y1, y2, a2)).bind fun y3 =>
  bif y3 then
   (chk (x2 + 1)).bind fun z1 =>
   mA a0 a1 a2 w0 k z1
  else
   (some false).bind fun r => some (Sum.inr r)
 else
  some (Sum.inl ())
def rH (fuel : Nat) (a0 : List Int) (a1 : List Int) (a2 : Bool) (w0 : Int × Int × Bool → Option Bool) : Option (Bool) :=
 (mA a0 a1 a2 w0 fuel 0).bind fun o => match o with
 | Sum.inr r => some r
 | Sum.inl _ =>
 some true
theorem zG (fuel : Nat)  (a0 : List Int) (a1 : List Int) (a2 : Bool) (w0 : Int × Int × Bool → Option Bool) (r : Bool) (H : rH fuel a0 a1 a2 w0 = some r) : FnS Tryz.prog 82 [fSl (aB .i64) a0, fSl (aB .i64) a1, aH a2, aF (tFn Tryz.prog (fun (x : Int × Int × Bool) => [aA .i64 x.1, aA .i64 x.2.1, aH x.2.2]) (fun (r : Bool) => aH r)) w0] [] (aH r) (fun _ => []) := by
 unfold rH at H
 refine bB Tryz.func82 rfl Tryz.ntmps82 rfl (fun β => ?_)
 revert H; refine B3 fun o1 H Hr1 => ?_
 refine aW (ι := Unit) (fun i => o1 = Sum.inl ()) (fun i => []) (fun i => []) ?_ ?_
 refine Z6 ?_
 refine Tl (ι := Nat × Int) (fun i => mA a0 a1 a2 w0 i.1 i.2 = _) (fun i => i.1) (fun i => [(0, fSl (aB .i64) a0), (1, fSl (aB .i64) a1), (2, aH a2), (3, aF (tFn Tryz.prog (fun (x : Int × Int × Bool) => [aA .i64 x.1, aA .i64 x.2.1, aH x.2.2]) (fun (r : Bool) => aH r)) w0), (10, aA .i64 (a0.length : Int)), (11, aA .i64 i.2)]) (fun i => []) (fuel, 0) H ?_
 clear H; rintro ⟨k1, x2⟩ H
 replace H : mA a0 a1 a2 w0 k1 x2 = _ := H
 try dsimp only
 obtain _ | k1 := k1
 rw [mA] at H; cases H
 rw [mA] at H
 refine Z3 ?_
 refine aG ?_
 revert H; refine is (fun c1 H => ?_) fun c1 H => ?_
 refine Z3 ?_
 refine aG ?_
 refine Z5 ?_
 refine aG ?_
 revert H; refine bs fun y1 h1 H => ?_
 revert H; refine bs fun y2 h2 H => ?_
 revert H; refine bs fun y3 h3 H => ?_
 apply bE (ods := [_, _, _, _, _, _, _, _, _, _, _, _]) 12 0 0 bF rfl rfl rfl
 refine ND ?_
 refine M8 ?_
 intros
 refine M2 ?_
 intros
 refine aEb (od := odC [] true (aH y3) []) (Φ := aH y3) (y1, y2, a2) rfl (fun _ => rfl) trivial rfl rfl (has rfl) (aK.cons (has rfl) (aK.cons (has rfl) (aK.cons (has rfl) aK.nil))) h3 rfl (fun _ => ?_)
 refine M1 ?_
 intros
 refine Z2 ?_
 revert H; refine cs (fun c2 H => ?_) fun c2 H => ?_
 revert H; refine B5 fun z1 h4 H => ?_
 refine Z3 ?_
 exact Tm ((k1, z1)) ⟨H, ls⟩
 revert H; refine B10 fun r1 H e1 => ?_
 cases e1; cases Hr1
 cases H
 exact To
 exact fk
 kernel_rfl
 refine Z6 ?_
 exact Tm (()) (ij H)
 clear H; intro i hi; subst o1; have H := Hr1; clear Hr1; try dsimp only at H
 try dsimp only
 refine Z4 ?_
 cases H
 exact To
def lZ (fuel : Nat) (a0 : List UsageDef) (a1 : List UsageDef) (a2 : Int × Int × Bool → Option Bool) (x2 : Int) (y7 : UsageDef) : Nat → Int → Option ((Unit) ⊕ ((Unit) ⊕ (Bool)))
| 0, _ => none
| k + 1, x4 =>
 if x4 < (y7.Args.length : Int) then
  (idx a0 x2).bind fun y8 =>
  (idx y8.Args x4).bind fun y9 =>
  (idx a1 x2).bind fun y10 =>
  (idx y10.Args x4).bind fun y11 =>
  (rH fuel y9 y11 false a2).bind fun y12 =>
  bif y12 then
   (chk (x4 + 1)).bind fun z1 =>
   lZ fuel a0 a1 a2 x2 y7 k z1
  else
   ((some false).bind fun r => some (Sum.inr r)).bind fun r => some (Sum.inr r)
 else
  some (Sum.inl ())
def lY (fuel : Nat) (a0 : List UsageDef) (a1 : List UsageDef) (a2 : Int × Int × Bool → Option Bool) : Nat → Int → Option ((Unit) ⊕ (Bool))
| 0, _ => none
| k + 1, x2 =>
 if x2 < (a0.length : Int) then
  ((idx a0 x2).bind fun y1 =>
  (idx a1 x2).bind fun y2 =>
  (rH fuel y1.Chans y2.Chans true a2).bind fun y3 =>
  bif !y3 then
   ((some false).bind fun r => some (Sum.inr r)).bind fun r => some (Sum.inr r)
  else
   (idx a0 x2).bind fun y4 =>
   (idx a1 x2).bind fun y5 =>
   (rH fuel y4.Rules y5.Rules false a2).bind fun y6 =>
   bif y6 then
    (idx a0 x2).bind fun y7 =>
    lZ fuel a0 a1 a2 x2 y7 fuel 0
   else
    ((some false).bind fun r => some (Sum.inr r)).bind fun r => some (Sum.inr r)).bind fun o => match o with
  | Sum.inr r => some r
  | Sum.inl _ =>
  (chk (x2 + 1)).bind fun z2 =>
  lY fuel a0 a1 a2 k z2
 else
  some (Sum.inl ())
def pV (fuel : Nat) (a0 : List UsageDef) (a1 : List UsageDef) (a2 : Int × Int × Bool → Option Bool) : Option (Bool) :=
 (lY fuel a0 a1 a2 fuel 0).bind fun o => match o with
 | Sum.inr r => some r
 | Sum.inl _ =>
 some true
theorem aCJ (fuel : Nat)  (a0 : List UsageDef) (a1 : List UsageDef) (a2 : Int × Int × Bool → Option Bool) (r : Bool) (H : pV fuel a0 a1 a2 = some r) : FnS Tryz.prog 39 [fSl bD a0, fSl bD a1, fFn Tryz.prog (fun (x : Int × Int × Bool) => [aA .i64 x.1, aA .i64 x.2.1, aH x.2.2]) (fun (r : Bool) => aH r) a2] [] (aH r) (fun _ => []) := by
 unfold pV at H
 refine bB Tryz.func39 rfl Tryz.ntmps39 rfl (fun β => ?_)
 refine Z1 ?_
 refine Tn (cD rfl (has rfl) (aT (aBR))) fun b1 => ?_
 refine Z3 ?_
 refine cO (φ := aF (tFn Tryz.prog (fun (x : Int × Int × Bool) => [aA .i64 x.1, aA .i64 x.2.1, aH x.2.2]) (fun (r : Bool) => aH r)) a2) (v := ptr b1) [5] (hQ aM.rfl) fz ?_
 refine cP ?_
 refine Yy (uT rfl (aK.cons hh aK.nil)) ?_
 revert H; refine B2 fun o1 H Hr1 => ?_
 refine aW (ι := Unit) (fun i => o1 = Sum.inl ()) (fun i => []) (fun i => []) ?_ ?_
 refine Z6 ?_
 refine Tl (ι := Nat × Int) (fun i => lY fuel a0 a1 a2 i.1 i.2 = _) (fun i => i.1) (fun i => [(0, fSl bD a0), (1, fSl bD a1), (7, cZ 82 [aF (tFn Tryz.prog (fun (x : Int × Int × Bool) => [aA .i64 x.1, aA .i64 x.2.1, aH x.2.2]) (fun (r : Bool) => aH r)) a2]), (12, aA .i64 (a0.length : Int)), (13, aA .i64 i.2)]) (fun i => []) (fuel, 0) H ?_
 clear H; rintro ⟨k1, x2⟩ H
 replace H : lY fuel a0 a1 a2 k1 x2 = _ := H
 try dsimp only
 obtain _ | k1 := k1
 rw [lY] at H; cases H
 rw [lY] at H
 refine Z3 ?_
 refine aG ?_
 revert H; refine is (fun c1 H => ?_) fun c1 H => ?_
 refine dB (has rfl) c1 ?_
 revert H; refine B2 fun o2 H Hr2 => ?_
 refine aW (ι := Unit) (fun i => o2 = Sum.inl ()) (fun i => [(0, fSl bD a0), (1, fSl bD a1), (7, cZ 82 [aF (tFn Tryz.prog (fun (x : Int × Int × Bool) => [aA .i64 x.1, aA .i64 x.2.1, aH x.2.2]) (fun (r : Bool) => aH r)) a2]), (12, aA .i64 (a0.length : Int)), (13, aA .i64 x2)]) (fun i => []) ?_ ?_
 refine Z5 ?_
 refine aG ?_
 refine aG ?_
 revert H; refine bs fun y1 h1 H => ?_
 revert H; refine bs fun y2 h2 H => ?_
 revert H; refine bs fun y3 h3 H => ?_
 revert H; refine cs (fun c2 H => ?_) fun c2 H => ?_
 apply bE (ods := [_, _, _, _, _, _, _, _, _, _, _, _, _, _, _, _, _, _, _, _, _, _, _, _, _, _, _, _]) 28 0 0 bF rfl rfl rfl
 refine ND ?_
 refine M3 ?_
 intros
 refine My (cB rfl hh hh (el rfl) h1) fun _ => ?_
 refine M4 ?_
 intros
 refine My (cB rfl hh hh (el rfl) h2) fun _ => ?_
 refine M2 ?_
 intros
 refine aAt (od := odC [] true (aH y3) []) (Φ := aH y3) rfl (fun _ => rfl) trivial rfl rfl (has rfl) (aK.cons (has rfl) (aK.cons (has rfl) (aK.cons (has rfl) aK.nil))) rfl (cb rfl) (zG fuel y1.Chans y2.Chans true a2 y3 h3) (fun _ => ?_)
 refine M2 ?_
 intros
 refine Mt c2 fun _ => ?_
 refine Mt c2 fun _ => ?_
 refine Mt c2 fun _ => ?_
 refine Mt c2 fun _ => ?_
 refine Mt c2 fun _ => ?_
 refine Mt c2 fun _ => ?_
 refine Mt c2 fun _ => ?_
 refine Mt c2 fun _ => ?_
 refine Mt c2 fun _ => ?_
 refine Mt c2 fun _ => ?_
 refine Mt c2 fun _ => ?_
 refine Mt c2 fun _ => ?_
 refine Mt c2 fun _ => ?_
 refine My (dI rfl hh c2 hh) fun _ => ?_
 revert H; refine B9 fun r1 H e1 => ?_
 cases e1; cases Hr2
 revert H; refine B3 fun r2 H e2 => ?_
 cases e2; cases Hr1
 cases H
 exact To
 exact fk
 kernel_rfl
 revert H; refine bs fun y4 h4 H => ?_
 revert H; refine bs fun y5 h5 H => ?_
 revert H; refine bs fun y6 h6 H => ?_
 apply bE (ods := [_, _, _, _, _, _, _, _, _, _, _, _, _, _, _, _, _, _, _, _, _, _, _, _, _, _, _, _]) 28 0 0 bF rfl rfl rfl
 refine ND ?_
 refine M3 ?_
 intros
 refine My (cB rfl hh hh (el rfl) h1) fun _ => ?_
 refine M4 ?_
 intros
 refine My (cB rfl hh hh (el rfl) h2) fun _ => ?_
 refine M2 ?_
 intros
 refine aAt (od := odC [] true (aH y3) []) (Φ := aH y3) rfl (fun _ => rfl) trivial rfl rfl (has rfl) (aK.cons (has rfl) (aK.cons (has rfl) (aK.cons (has rfl) aK.nil))) rfl (cb rfl) (zG fuel y1.Chans y2.Chans true a2 y3 h3) (fun _ => ?_)
 refine M2 ?_
 intros
 refine Mg c2 (bW rfl hh) fun _ => ?_
 refine Mg c2 (bW rfl hh) fun _ => ?_
 refine Mg c2 (bW rfl hh) fun _ => ?_
 refine Mg c2 (cB rfl hh hh (el rfl) h4) fun _ => ?_
 refine Mg c2 (fU (t' := (tSl (aB .i64))) (z := y4.Rules) rfl hh (fa rfl) rfl) fun _ => ?_
 refine Mg c2 (fD rfl hh (sc rfl) rfl) fun _ => ?_
 refine Mg c2 (bW rfl hh) fun _ => ?_
 refine Mg c2 (bW rfl hh) fun _ => ?_
 refine Mg c2 (cB rfl hh hh (el rfl) h5) fun _ => ?_
 refine Mg c2 (fU (t' := (tSl (aB .i64))) (z := y5.Rules) rfl hh (fa rfl) rfl) fun _ => ?_
 refine Mg c2 (fD rfl hh (sc rfl) rfl) fun _ => ?_
 refine aAt (od := odC [] true (aH y6) []) (Φ := aH y6) rfl (fun _ => rfl) ⟨_, _, rfl, rfl, c2⟩ rfl rfl (has rfl) (aK.cons (has rfl) (aK.cons (has rfl) (aK.cons (has rfl) aK.nil))) rfl (cb rfl) (zG fuel y4.Rules y5.Rules false a2 y6 h6) (fun _ => ?_)
 refine Mg c2 (kE rfl hh) fun _ => ?_
 refine My (cM rfl hh c2 hh) fun _ => ?_
 refine Z2 ?_
 revert H; refine cs (fun c3 H => ?_) fun c3 H => ?_
 refine dF (has rfl) (oV c3) ?_
 revert H; refine B5 fun y7 h7 H => ?_
 refine Yy (cB rfl hh hh (el rfl) h7) ?_
 refine Z6 ?_
 refine Tl (ι := Nat × Int) (fun i => lZ fuel a0 a1 a2 x2 y7 i.1 i.2 = _) (fun i => i.1) (fun i => [(0, fSl bD a0), (1, fSl bD a1), (7, cZ 82 [aF (tFn Tryz.prog (fun (x : Int × Int × Bool) => [aA .i64 x.1, aA .i64 x.2.1, aH x.2.2]) (fun (r : Bool) => aH r)) a2]), (12, aA .i64 (a0.length : Int)), (13, aA .i64 x2), (8, aA .i64 x2), (49, aA .i64 (y7.Args.length : Int)), (50, aA .i64 i.2)]) (fun i => []) (fuel, 0) H ?_
 clear H; rintro ⟨k2, x4⟩ H
 replace H : lZ fuel a0 a1 a2 x2 y7 k2 x4 = _ := H
 try dsimp only
 obtain _ | k2 := k2
 rw [lZ] at H; cases H
 rw [lZ] at H
 refine Z3 ?_
 refine aG ?_
 revert H; refine is (fun c4 H => ?_) fun c4 H => ?_
 refine dB (has rfl) c4 ?_
 refine Z2 ?_
 refine aG ?_
 refine Z5 ?_
 refine aG ?_
 revert H; refine bs fun y8 h8 H => ?_
 revert H; refine bs fun y9 h9 H => ?_
 revert H; refine bs fun y10 h10 H => ?_
 revert H; refine bs fun y11 h11 H => ?_
 revert H; refine bs fun y12 h12 H => ?_
 apply bE (ods := [_, _, _, _, _, _, _, _, _, _, _, _, _, _, _, _, _, _, _]) 19 0 0 bF rfl rfl rfl
 refine ND ?_
 refine M3 ?_
 intros
 refine My (cB rfl hh hh (el rfl) h8) fun _ => ?_
 refine M3 ?_
 intros
 refine My (cB rfl hh hh (el rfl) h9) fun _ => ?_
 refine M3 ?_
 intros
 refine My (cB rfl hh hh (el rfl) h10) fun _ => ?_
 refine M3 ?_
 intros
 refine My (cB rfl hh hh (el rfl) h11) fun _ => ?_
 refine M1 ?_
 intros
 refine aAt (od := odC [] true (aH y12) []) (Φ := aH y12) rfl (fun _ => rfl) trivial rfl rfl (has rfl) (aK.cons (has rfl) (aK.cons (has rfl) (aK.cons (has rfl) aK.nil))) rfl (cb rfl) (zG fuel y9 y11 false a2 y12 h12) (fun _ => ?_)
 refine M1 ?_
 intros
 refine Z2 ?_
 revert H; refine cs (fun c5 H => ?_) fun c5 H => ?_
 refine dF (has rfl) (oV c5) ?_
 revert H; refine B4 fun z1 h13 H => ?_
 refine Yy (fF rfl hh hh h13) ?_
 refine Z2 ?_
 exact Tm ((k2, z1)) ⟨H, ls⟩
 refine dB (has rfl) (oZ c5) ?_
 revert H; refine B10 fun r3 H e3 => ?_
 cases e3; cases Hr2
 revert H; refine B3 fun r4 H e4 => ?_
 cases e4; cases Hr1
 cases H
 exact To
 exact fk
 kernel_rfl
 refine dF (has rfl) c4 ?_
 refine Z6 ?_
 exact Tm (()) (ij H)
 refine dB (has rfl) (oZ c3) ?_
 revert H; refine B6 fun r5 H e5 => ?_
 cases e5; cases Hr2
 revert H; refine B3 fun r6 H e6 => ?_
 cases e6; cases Hr1
 cases H
 exact To
 exact fk
 kernel_rfl
 clear H; intro i hi; subst o2; have H := Hr2; clear Hr2; try dsimp only at H
 try dsimp only
 revert H; refine B1 fun z2 h14 H => ?_
 refine Yy (fF rfl hh hh h14) ?_
 refine Z2 ?_
 exact Tm ((k1, z2)) ⟨H, ls⟩
 refine dF (has rfl) c1 ?_
 refine Z5 ?_
 exact Tm (()) (ij H)
 clear H; intro i hi; subst o1; have H := Hr1; clear Hr1; try dsimp only at H
 try dsimp only
 refine Z4 ?_
 cases H
 exact To
def aAA (a0 : Int) (a1 : Int) (a2 : Bool) : Option (Bool) :=
 (if 1 ≤ a0 then
  if a0 ≤ 4 then
   bif a2 then
    some true
   else
    some (decide (a0 ≠ 2))
  else
   some false
 else
  some false).bind fun x1 =>
 some x1
theorem aHP  (a0 : Int) (a1 : Int) (a2 : Bool) (r : Bool) (H : aAA a0 a1 a2 = some r) : FnS Tryz.prog 63 [aA .i64 a0, aA .i64 a1, aH a2] [] (aH r) (fun _ => []) := by
 unfold aAA at H
 refine bB Tryz.func63 rfl Tryz.ntmps63 rfl (fun β => ?_)
 revert H; refine B3 fun o1 H Hr1 => ?_
 refine aW (ι := Bool) (fun i => o1 = i) (fun i => [(6, aH i)]) (fun i => []) ?_ ?_
 revert H; refine I4 (fun c1 H => ?_) fun c1 H => ?_
 revert H; refine I4 (fun c2 H => ?_) fun c2 H => ?_
 refine Z2 ?_
 revert H; refine cs (fun c3 H => ?_) fun c3 H => ?_
 refine Z6 ?_
 exact Tm (true) (ij H)
 refine Z6 ?_
 exact Tm (decide (a0 ≠ 2)) (ij H)
 refine Z2 ?_
 refine dP (⟨_, _, _, _, rfl, rfl, rfl, nu⟩) rfl rfl ?_
 refine dP (⟨_, _, _, _, rfl, rfl, rfl, nu⟩) rfl rfl ?_
 refine Z4 ?_
 exact Tm (false) (ij H)
 refine Z6 ?_
 refine dP (⟨_, _, _, _, rfl, rfl, rfl, nu⟩) rfl rfl ?_
 refine dP (⟨_, _, _, _, rfl, rfl, rfl, nu⟩) rfl rfl ?_
 refine Z4 ?_
 exact Tm (false) (ij H)
 clear H; intro x1 hi; subst o1; have H := Hr1; clear Hr1; try dsimp only at H
 try dsimp only
 refine Z1 ?_
 cases H
 exact To
end Go.Proofs.YtmnbfgeljmhekaaGreat
set_option maxRecDepth 100000
set_option maxHeartbeats 2000000
namespace Go.Proofs.YtmnbfgeljmhekaaGreat
open Go.SX Go.SW Go.Dt
attribute [local irreducible] Code.wpIn wpListIn Exit.then Exit.inBlock
def sK (y1 : ScopeDef) (y2 : UsageDef) : Nat → Int → Option ((Unit) ⊕ ((Unit) ⊕ (Bool)))
| 0, _ => none
| k + 1, x4 =>
 if x4 < (y2.Args.length : Int) then
  (idx y2.Args x4).bind fun y3 =>
  (idx y1.Chans x4).bind fun y4 =>
  if (y3.length : Int) ≠ y4.Many then
   ((some false).bind fun r => some (Sum.inr r)).bind fun r => some (Sum.inr r)
  else
   (chk (x4 + 1)).bind fun z1 =>
   sK y1 y2 k z1
 else
  some (Sum.inl ())
def tI (fuel : Nat) (a0 : Usage_text) (a1 : List UsageDef) : Nat → Int → Option ((Unit) ⊕ (Bool))
| 0, _ => none
| k + 1, x2 =>
 if x2 < (a0.ScopeProg.Defs.length : Int) then
  ((idx a0.ScopeProg.Defs x2).bind fun y1 =>
  (idx a1 x2).bind fun y2 =>
  if (y2.Chans.length : Int) ≠ (y1.Chans.length : Int) then
   ((some false).bind fun r => some (Sum.inr r)).bind fun r => some (Sum.inr r)
  else
   if (y2.Rules.length : Int) ≠ (y1.Rules.length : Int) then
    ((some false).bind fun r => some (Sum.inr r)).bind fun r => some (Sum.inr r)
   else
    if (y2.Args.length : Int) ≠ (y1.Chans.length : Int) then
     ((some false).bind fun r => some (Sum.inr r)).bind fun r => some (Sum.inr r)
    else
     sK y1 y2 fuel 0).bind fun o => match o with
  | Sum.inr r => some r
  | Sum.inl _ =>
  (chk (x2 + 1)).bind fun z2 =>
  tI fuel a0 a1 k z2
 else
  some (Sum.inl ())
def zS (fuel : Nat) (a0 : Usage_text) (a1 : List UsageDef) : Option (Bool) :=
 if (a1.length : Int) ≠ (a0.ScopeProg.Defs.length : Int) then
  some false
 else
  (tI fuel a0 a1 fuel 0).bind fun o => match o with
  | Sum.inr r => some r
  | Sum.inl _ =>
  (pV fuel a1 a1 (fun x => aAA x.1 x.2.1 x.2.2)).bind fun y5 =>
  some y5
theorem aD4 (fuel : Nat)  (a0 : Usage_text) (a1 : List UsageDef) (r : Bool) (H : zS fuel a0 a1 = some r) : FnS Tryz.prog 26 [aF bG a0, fSl bD a1] [] (aH r) (fun _ => []) := by
 unfold zS at H
 refine bB Tryz.func26 rfl Tryz.ntmps26 rfl (fun β => ?_)
 refine Z3 ?_
 refine aG ?_
 revert H; refine I11 (fun c1 H => ?_) fun c1 H => ?_
 refine Z5 ?_
 cases H
 exact To
 revert H; refine B3 fun o1 H Hr1 => ?_
 refine aW (ι := Unit) (fun i => o1 = Sum.inl ()) (fun i => [(1, fSl bD a1)]) (fun i => []) ?_ ?_
 refine Z10 ?_
 refine Tl (ι := Nat × Int) (fun i => tI fuel a0 a1 i.1 i.2 = _) (fun i => i.1) (fun i => [(1, fSl bD a1), (23, fSl aI a0.ScopeProg.Defs), (24, aA .i64 (a0.ScopeProg.Defs.length : Int)), (25, aA .i64 i.2)]) (fun i => []) (fuel, 0) H ?_
 clear H; rintro ⟨k1, x2⟩ H
 replace H : tI fuel a0 a1 k1 x2 = _ := H
 try dsimp only
 obtain _ | k1 := k1
 rw [tI] at H; cases H
 rw [tI] at H
 refine Z3 ?_
 refine aG ?_
 revert H; refine is (fun c2 H => ?_) fun c2 H => ?_
 revert H; refine B3 fun o2 H Hr2 => ?_
 refine aW (ι := Unit) (fun i => o2 = Sum.inl ()) (fun i => [(1, fSl bD a1), (23, fSl aI a0.ScopeProg.Defs), (24, aA .i64 (a0.ScopeProg.Defs.length : Int)), (25, aA .i64 x2)]) (fun i => []) ?_ ?_
 revert H; refine B3 fun y1 h1 H => ?_
 refine Z2 ?_
 refine Tn (cL rfl tS rfl) fun b1 => ?_
 refine Z1 ?_
 refine dG (φs' := [fSl bC y1.Chans, fSl bV y1.Spots, fSl bH y1.Rules]) trivial rfl rfl (has rfl) (has rfl) (aO (aZ) (aO (aZ) (aO (aZ) bX))) (sz rfl) rfl rfl rfl ?_
 revert H; refine B4 fun y2 h2 H => ?_
 refine Z2 ?_
 refine Tn (cL rfl sT rfl) fun b2 => ?_
 refine dG (φs' := [fSl (aB .i64) y2.Chans, fSl (aB .i64) y2.Rules, fSl (tSl (aB .i64)) y2.Args]) trivial rfl rfl (has rfl) (has rfl) (aO (aZ) (aO (aZ) (aO (aZ) bX))) (sz rfl) rfl rfl rfl ?_
 refine Z1 ?_
 refine aG ?_
 revert H; refine I9 (fun c3 H => ?_) fun c3 H => ?_
 refine Z12 ?_
 refine Z12 ?_
 revert H; refine B1 fun r1 H e1 => ?_
 cases e1; cases Hr2
 revert H; refine B3 fun r2 H e2 => ?_
 cases e2; cases Hr1
 cases H
 refine aJ [] (by decide) ?_
 exact To
 revert H; refine I9 (fun c4 H => ?_) fun c4 H => ?_
 refine Z12 ?_
 revert H; refine B4 fun r3 H e3 => ?_
 cases e3; cases Hr2
 revert H; refine B3 fun r4 H e4 => ?_
 cases e4; cases Hr1
 cases H
 refine aJ [] (by decide) ?_
 exact To
 revert H; refine I9 (fun c5 H => ?_) fun c5 H => ?_
 revert H; refine B7 fun r5 H e5 => ?_
 cases e5; cases Hr2
 revert H; refine B3 fun r6 H e6 => ?_
 cases e6; cases Hr1
 cases H
 refine aJ [] (by decide) ?_
 exact To
 refine Z10 ?_
 refine Tl (ι := Nat × Int) (fun i => sK y1 y2 i.1 i.2 = _) (fun i => i.1) (fun i => [(1, fSl bD a1), (23, fSl aI a0.ScopeProg.Defs), (24, aA .i64 (a0.ScopeProg.Defs.length : Int)), (25, aA .i64 x2), (6, fEq (ptr b1)), (60, fSl (tSl (aB .i64)) y2.Args), (61, aA .i64 (y2.Args.length : Int)), (62, aA .i64 i.2)]) (fun i => [aC b2 61 [fSl (aB .i64) y2.Chans, fSl (aB .i64) y2.Rules, fSl (tSl (aB .i64)) y2.Args], aC b1 99 [fSl bC y1.Chans, fSl bV y1.Spots, fSl bH y1.Rules]]) (fuel, 0) H ?_
 clear H; rintro ⟨k2, x4⟩ H
 replace H : sK y1 y2 k2 x4 = _ := H
 try dsimp only
 obtain _ | k2 := k2
 rw [sK] at H; cases H
 rw [sK] at H
 refine Z3 ?_
 refine aG ?_
 revert H; refine is (fun c6 H => ?_) fun c6 H => ?_
 refine Z3 ?_
 refine aG ?_
 revert H; refine B3 fun y3 h3 H => ?_
 revert H; refine B11 fun y4 h4 H => ?_
 revert H; refine I5 (fun c7 H => ?_) fun c7 H => ?_
 revert H; refine B11 fun r7 H e7 => ?_
 cases e7; cases Hr2
 revert H; refine B3 fun r8 H e8 => ?_
 cases e8; cases Hr1
 cases H
 refine aJ [] (by decide) ?_
 exact To
 revert H; refine B5 fun z1 h5 H => ?_
 refine Z3 ?_
 exact Tm ((k2, z1)) ⟨H, ls⟩
 refine Z7 ?_
 refine aJ [] (by decide) ?_
 exact Tm (()) (ij H)
 clear H; intro i hi; subst o2; have H := Hr2; clear Hr2; try dsimp only at H
 try dsimp only
 revert H; refine B1 fun z2 h6 H => ?_
 refine Z3 ?_
 exact Tm ((k1, z2)) ⟨H, ls⟩
 refine Z6 ?_
 exact Tm (()) (ij H)
 clear H; intro i hi; subst o1; have H := Hr1; clear Hr1; try dsimp only at H
 try dsimp only
 revert H; refine B3 fun y5 h7 H => ?_
 refine gI trivial rfl rfl rfl (has rfl) (aK.cons (has rfl) (aK.cons (has rfl) (aK.cons (cW rfl (mV (cb rfl) (fun x r hx => aHP x.1 x.2.1 x.2.2 r hx))) aK.nil))) rfl (cb rfl) (aCJ fuel a1 a1 (fun x => aAA x.1 x.2.1 x.2.2) y5 h7) rfl ?_
 refine Z3 ?_
 cases H
 exact To
def lS (a0 : Int) : Option (Int) :=
 if a0 = 1 then
  some 0
 else
  if a0 = 4 then
   some 2
  else
   some 1
theorem uN  (a0 : Int) (r : Int) (H : lS a0 = some r) : FnS Tryz.prog 46 [aA .i64 a0] [] (aA .i64 r) (fun _ => []) := by
 unfold lS at H
 refine bB Tryz.func46 rfl Tryz.ntmps46 rfl (fun β => ?_)
 refine Z3 ?_
 refine aG ?_
 revert H; refine I8 (fun c1 H => ?_) fun c1 H => ?_
 refine Z7 ?_
 cases H
 exact To
 revert H; refine I5 (fun c2 H => ?_) fun c2 H => ?_
 refine Z7 ?_
 cases H
 exact To
 refine Z8 ?_
 cases H
 exact To
def nU (a0 : Int) (a1 : Int) : Option (Int) :=
 (chk (a0 + a1)).bind fun z1 =>
 some (min z1 2)
theorem aAj  (a0 : Int) (a1 : Int) (r : Int) (H : nU a0 a1 = some r) : FnS Tryz.prog 66 [aA .i64 a0, aA .i64 a1] [] (aA .i64 r) (fun _ => []) := by
 unfold nU at H
 refine bB Tryz.func66 rfl Tryz.ntmps66 rfl (fun β => ?_)
 revert H; refine B6 fun z1 h1 H => ?_
 refine Z5 ?_
 cases H
 exact To
def pP (a0 : Usage_text) (a1 : Usage_channel) (a2 : Int) : Option (Bool) :=
 (idx a0.ScopeProg.Defs a1.def_).bind fun y1 =>
 (idx y1.Chans a1.index).bind fun y2 =>
 (idx a0.ScopeProg.Nodes a2).bind fun y3 =>
 some (decide (y2.Many = (y3.Args.length : Int)))
theorem aDN  (a0 : Usage_text) (a1 : Usage_channel) (a2 : Int) (r : Bool) (H : pP a0 a1 a2 = some r) : FnS Tryz.prog 75 [aF bG a0, fSt dN a1, aA .i64 a2] [] (aH r) (fun _ => []) := by
 unfold pP at H
 refine bB Tryz.func75 rfl Tryz.ntmps75 rfl (fun β => ?_)
 refine Z1 ?_
 refine Tn (cD rfl (has rfl) bJ) fun b1 => ?_
 refine Z2 ?_
 refine aG ?_
 revert H; refine bs fun y1 h1 H => ?_
 revert H; refine bs fun y2 h2 H => ?_
 revert H; refine bs fun y3 h3 H => ?_
 apply bE (ods := [_, _, _, _, _, _, _, _, _, _, _, _, _, _, _, _, _, _, _, _, _, _, _, _, _, _, _]) 27 0 1 bF rfl rfl rfl
 refine ND ?_
 refine M8 ?_
 intros
 refine M8 ?_
 intros
 refine M8 ?_
 intros
 refine M3 ?_
 intros
 refine Z3 ?_
 cases H
 refine aJ [] (by decide) ?_
 exact To
 exact fk
 kernel_rfl
def kZ (a1 : List UsageDef) (a3 : Int) (y1 : ScopeNode) (y2 : aR Int Usage_channel) : Nat → Int → Int → Option (Int)
| 0, _, _ => none
| k + 1, x5, x6 =>
 if x6 < (y1.Args.length : Int) then
  ((idx y1.Args x6).bind fun y4 =>
  if y4.Op ≠ 2 then
   some x5
  else
   if y4.N ≠ a3 then
    some x5
   else
    bif (y2.get y1.N).isSome then
     (idx a1 (((y2.get y1.N).getD (⟨0, 0⟩ : Usage_channel)).def_)).bind fun y5 =>
     (idx y5.Args (((y2.get y1.N).getD (⟨0, 0⟩ : Usage_channel)).index)).bind fun y6 =>
     (idx y6 x6).bind fun y7 =>
     (lS y7).bind fun y8 =>
     (nU x5 y8).bind fun y9 =>
     some y9
    else
     some 2).bind fun x7 =>
  (chk (x6 + 1)).bind fun z1 =>
  kZ a1 a3 y1 y2 k x7 z1
 else
  some x5
def wT (fuel : Nat) (a0 : Usage_text) (a1 : List UsageDef) (a2 : Int) (a3 : Int) : Option (Int) :=
 (idx a0.ScopeProg.Nodes a2).bind fun y1 =>
 (idx a0.denotes a2).bind fun y2 =>
 (bif (y2.get y1.N).isSome then
  (pP a0 (⟨((y2.get y1.N).getD (⟨0, 0⟩ : Usage_channel)).def_, ((y2.get y1.N).getD (⟨0, 0⟩ : Usage_channel)).index⟩ : Usage_channel) a2).bind fun y3 =>
  bif y3 then
   some (Sum.inl ())
  else
   (some 0).bind fun r => some (Sum.inr r)
 else
  some (Sum.inl ())).bind fun o => match o with
 | Sum.inr r => some r
 | Sum.inl _ =>
 (if y1.N = a3 then
  some 1
 else
  some 0).bind fun x1 =>
 (kZ a1 a3 y1 y2 fuel x1 0).bind fun x2 =>
 some x2
theorem aF9 (fuel : Nat)  (a0 : Usage_text) (a1 : List UsageDef) (a2 : Int) (a3 : Int) (r : Int) (H : wT fuel a0 a1 a2 a3 = some r) : FnS Tryz.prog 64 [aF bG a0, fSl bD a1, aA .i64 a2, aA .i64 a3] [] (aA .i64 r) (fun _ => []) := by
 unfold wT at H
 refine bB Tryz.func64 rfl Tryz.ntmps64 rfl (fun β => ?_)
 revert H; refine B10 fun y1 h1 H => ?_
 refine Z2 ?_
 refine Tn (cL rfl oT rfl) fun b1 => ?_
 refine dG (φs' := [aA .i64 y1.Op, aA .i64 y1.N, fSl bA y1.Args, fSl (aB .i64) y1.Kids]) trivial rfl rfl (has rfl) (has rfl) (aO (aD trivial) (aO (aD trivial) (aO (aZ) (aO (aZ) bX)))) (sz rfl) rfl rfl rfl ?_
 refine Z1 ?_
 refine aG ?_
 revert H; refine bs fun y2 h2 H => ?_
 apply bE (ods := [_, _, _, _, _, _, _, _, _, _, _, _, _, _, _, _]) 16 1 2 bF rfl rfl rfl
 refine ND ?_
 refine M8 ?_
 intros
 refine M1 ?_
 intros
 refine My (aD0 (zα := (⟨0, 0⟩ : Usage_channel)) (k := y1.N) rfl hh hh rfl vW (qQ [(.int .i64 0), (.int .i64 0)])) fun _ => ?_
 refine M3 ?_
 intros
 refine Mn 1 (fun b2 => ptr b2) (fun b2 => aC b2 121 [aA .i64 0, aA .i64 0]) rfl (cL rfl aBv rfl) (fun b2 u1 => ?_)
 refine vV (od := od1 13 [1] true (fun b2 _ => fAny) (fun b2 _ => [aC b2 121 [aA .i64 (((y2.get y1.N).getD (⟨0, 0⟩ : Usage_channel)).def_), aA .i64 (((y2.get y1.N).getD (⟨0, 0⟩ : Usage_channel)).index)]])) (p := 1) (φs' := [aA .i64 (((y2.get y1.N).getD (⟨0, 0⟩ : Usage_channel)).def_), aA .i64 (((y2.get y1.N).getD (⟨0, 0⟩ : Usage_channel)).index)]) rfl (fun _ => rfl) (fun _ => rfl) trivial rfl rfl rfl (has rfl) (has rfl) (aO (aD trivial) (aO (aD trivial) bX)) (sz rfl) rfl rfl rfl (fun _ => ?_)
 refine M1 ?_
 intros
 revert H; refine B2 fun o1 H Hr1 => ?_
 refine aW (ι := Unit) (fun i => o1 = Sum.inl ()) (fun i => [(1, fSl bD a1), (3, aA .i64 a3), (9, fEq (ptr b1)), (10, fEq (ptr b2)), (11, aH ((y2.get y1.N).isSome))]) (fun i => [aC b1 51 [aA .i64 y1.Op, aA .i64 y1.N, fSl bA y1.Args, fSl (aB .i64) y1.Kids], aC b2 121 [aA .i64 (((y2.get y1.N).getD (⟨0, 0⟩ : Usage_channel)).def_), aA .i64 (((y2.get y1.N).getD (⟨0, 0⟩ : Usage_channel)).index)]]) ?_ ?_
 refine Z3 ?_
 revert H; refine cs (fun c1 H => ?_) fun c1 H => ?_
 revert H; refine B3 fun y3 h3 H => ?_
 refine Tc (aDN _ _ _ _ h3) ?_
 refine Z3 ?_
 revert H; refine cs (fun c2 H => ?_) fun c2 H => ?_
 refine Z3 ?_
 exact Tm (()) (ij H)
 revert H; refine B5 fun r1 H e1 => ?_
 cases e1; cases Hr1
 cases H
 refine aJ [] (by decide) ?_
 exact To
 refine Z10 ?_
 exact Tm (()) (ij H)
 clear H; intro i hi; subst o1; have H := Hr1; clear Hr1; try dsimp only at H
 try dsimp only
 revert H; refine B3 fun o2 H Hr2 => ?_
 refine aW (ι := Int) (fun i => o2 = i) (fun i => [(1, fSl bD a1), (3, aA .i64 a3), (9, fEq (ptr b1)), (10, fEq (ptr b2)), (11, aH ((y2.get y1.N).isSome)), (12, aA .i64 i)]) (fun i => [aC b1 51 [aA .i64 y1.Op, aA .i64 y1.N, fSl bA y1.Args, fSl (aB .i64) y1.Kids], aC b2 121 [aA .i64 (((y2.get y1.N).getD (⟨0, 0⟩ : Usage_channel)).def_), aA .i64 (((y2.get y1.N).getD (⟨0, 0⟩ : Usage_channel)).index)]]) ?_ ?_
 revert H; refine I6 (fun c3 H => ?_) fun c3 H => ?_
 refine Z4 ?_
 exact Tm (1) (ij H)
 refine Z3 ?_
 exact Tm (0) (ij H)
 clear H; intro x1 hi; subst o2; have H := Hr2; clear Hr2; try dsimp only at H
 try dsimp only
 revert H; refine bs fun o3 H Hr3 => ?_
 refine aW (ι := Int) (fun i => o3 = i) (fun i => [(12, aA .i64 i)]) (fun i => [aC b1 51 [aA .i64 y1.Op, aA .i64 y1.N, fSl bA y1.Args, fSl (aB .i64) y1.Kids], aC b2 121 [aA .i64 (((y2.get y1.N).getD (⟨0, 0⟩ : Usage_channel)).def_), aA .i64 (((y2.get y1.N).getD (⟨0, 0⟩ : Usage_channel)).index)]]) ?_ ?_
 refine Z7 ?_
 refine Tl (ι := Nat × Int × Int) (fun i => kZ a1 a3 y1 y2 i.1 i.2.1 i.2.2 = _) (fun i => i.1) (fun i => [(1, fSl bD a1), (3, aA .i64 a3), (10, fEq (ptr b2)), (11, aH ((y2.get y1.N).isSome)), (12, aA .i64 i.2.1), (49, fSl bA y1.Args), (50, aA .i64 (y1.Args.length : Int)), (51, aA .i64 i.2.2)]) (fun i => [aC b1 51 [aA .i64 y1.Op, aA .i64 y1.N, fSl bA y1.Args, fSl (aB .i64) y1.Kids], aC b2 121 [aA .i64 (((y2.get y1.N).getD (⟨0, 0⟩ : Usage_channel)).def_), aA .i64 (((y2.get y1.N).getD (⟨0, 0⟩ : Usage_channel)).index)]]) (fuel, x1, 0) H ?_
 clear H; rintro ⟨k1, x5, x6⟩ H
 replace H : kZ a1 a3 y1 y2 k1 x5 x6 = _ := H
 try dsimp only
 obtain _ | k1 := k1
 rw [kZ] at H; cases H
 rw [kZ] at H
 refine Z3 ?_
 refine aG ?_
 revert H; refine is (fun c4 H => ?_) fun c4 H => ?_
 revert H; refine B3 fun o4 H Hr4 => ?_
 refine aW (ι := Int) (fun i => o4 = i) (fun i => [(1, fSl bD a1), (3, aA .i64 a3), (10, fEq (ptr b2)), (11, aH ((y2.get y1.N).isSome)), (12, aA .i64 i), (49, fSl bA y1.Args), (50, aA .i64 (y1.Args.length : Int)), (51, aA .i64 x6)]) (fun i => [aC b1 51 [aA .i64 y1.Op, aA .i64 y1.N, fSl bA y1.Args, fSl (aB .i64) y1.Kids], aC b2 121 [aA .i64 (((y2.get y1.N).getD (⟨0, 0⟩ : Usage_channel)).def_), aA .i64 (((y2.get y1.N).getD (⟨0, 0⟩ : Usage_channel)).index)]]) ?_ ?_
 revert H; refine B3 fun y4 h4 H => ?_
 refine Z2 ?_
 refine Tn (cL rfl aBU rfl) fun b3 => ?_
 refine Z1 ?_
 refine dG (φs' := [aA .i64 y4.Op, aA .i64 y4.N, fX y4.Kids]) trivial rfl rfl (has rfl) (has rfl) (aO (aD trivial) (aO (aD trivial) (aO (zN) bX))) (sz rfl) rfl rfl rfl ?_
 revert H; refine I7 (fun c5 H => ?_) fun c5 H => ?_
 refine Z12 ?_
 refine aJ [1, 2] (by decide) ?_
 exact Tm (x5) (ij H)
 revert H; refine I7 (fun c6 H => ?_) fun c6 H => ?_
 refine Z5 ?_
 refine aJ [1, 2] (by decide) ?_
 exact Tm (x5) (ij H)
 refine Z5 ?_
 revert H; refine cs (fun c7 H => ?_) fun c7 H => ?_
 revert H; refine B1 fun y5 h5 H => ?_
 revert H; refine bs fun y6 h6 H => ?_
 revert H; refine bs fun y7 h7 H => ?_
 revert H; refine bs fun y8 h8 H => ?_
 revert H; refine bs fun y9 h9 H => ?_
 apply bE (ods := [_, _, _, _, _, _, _, _, _, _, _, _, _, _, _, _, _]) 17 0 3 bF rfl rfl rfl
 refine ND ?_
 refine M8 ?_
 intros
 refine M6 ?_
 intros
 refine Nc (uN _ _ h8) fun _ => ?_
 refine Nc (aAj _ _ _ h9) fun _ => ?_
 refine M1 ?_
 intros
 refine Z5 ?_
 refine aJ [1, 2] (by decide) ?_
 exact Tm (y9) (ij H)
 exact fk
 kernel_rfl
 refine Z7 ?_
 refine aJ [1, 2] (by decide) ?_
 exact Tm (2) (ij H)
 clear H; intro x7 hi; subst o4; have H := Hr4; clear Hr4; try dsimp only at H
 try dsimp only
 revert H; refine B1 fun z1 h10 H => ?_
 refine Z3 ?_
 exact Tm ((k1, x7, z1)) ⟨H, ls⟩
 refine Z6 ?_
 exact Tm (x5) (ij H)
 clear H; intro x2 hi; subst o3; have H := Hr3; clear Hr3; try dsimp only at H
 try dsimp only
 refine Z5 ?_
 cases H
 refine aJ [] (by decide) ?_
 exact To
 exact fk
 kernel_rfl
def oY (a0 : Int) (a1 : Int) : Option (Int) :=
 if a0 < a1 then
  some a1
 else
  some a0
theorem aE6  (a0 : Int) (a1 : Int) (r : Int) (H : oY a0 a1 = some r) : FnS Tryz.prog 67 [aA .i64 a0, aA .i64 a1] [] (aA .i64 r) (fun _ => []) := by
 unfold oY at H
 refine bB Tryz.func67 rfl Tryz.ntmps67 rfl (fun β => ?_)
 refine Z3 ?_
 refine aG ?_
 revert H; refine I5 (fun c1 H => ?_) fun c1 H => ?_
 refine Z6 ?_
 cases H
 exact To
 refine Z8 ?_
 cases H
 exact To
def wE (a0 : Int) (a1 : Int) : Option (Int) :=
 (chk (a0 * a1)).bind fun z1 =>
 some (min z1 2)
theorem aGM  (a0 : Int) (a1 : Int) (r : Int) (H : wE a0 a1 = some r) : FnS Tryz.prog 93 [aA .i64 a0, aA .i64 a1] [] (aA .i64 r) (fun _ => []) := by
 unfold wE at H
 refine bB Tryz.func93 rfl Tryz.ntmps93 rfl (fun β => ?_)
 revert H; refine B6 fun z1 h1 H => ?_
 refine Z5 ?_
 cases H
 exact To
end Go.Proofs.YtmnbfgeljmhekaaGreat
set_option maxRecDepth 100000
set_option maxHeartbeats 2000000
namespace Go.Proofs.YtmnbfgeljmhekaaGreat
open Go.SX Go.SW Go.Dt
attribute [local irreducible] Code.wpIn wpListIn Exit.then Exit.inBlock
def sF (rec_usage_text_sends : Usage_text → (List UsageDef) → Int → Int → Option (Int)) (a0 : Usage_text) (a1 : List UsageDef) (a3 : Int) (x1 : Int) (x3 : Int) : Option (Int) :=
 (rec_usage_text_sends a0 a1 x1 a3).bind fun y6 =>
 (nU x3 y6).bind fun y7 =>
 some y7
def oJ (rec_usage_text_sends : Usage_text → (List UsageDef) → Int → Int → Option (Int)) (a0 : Usage_text) (a1 : List UsageDef) (a3 : Int) (y1 : ScopeNode) (y8 : ScopeDef) : Nat → Int → Int → Option (Int)
| 0, _, _ => none
| k + 1, x8, x9 =>
 if x8 < (y8.Rules.length : Int) then
  (idx y8.Rules x8).bind fun y9 =>
  (idx a1 y1.N).bind fun y10 =>
  (idx y10.Rules x8).bind fun y11 =>
  (lS y11).bind fun y12 =>
  (rec_usage_text_sends a0 a1 y9.Node a3).bind fun y13 =>
  (wE y12 y13).bind fun y14 =>
  (nU x9 y14).bind fun y15 =>
  (chk (x8 + 1)).bind fun z1 =>
  oJ rec_usage_text_sends a0 a1 a3 y1 y8 k z1 y15
 else
  some x9
mutual
def fA : Nat → Usage_text → (List UsageDef) → Int → Int → Option (Int)
| 0, _, _, _, _ => none
| fuel + 1, a0, a1, a2, a3 =>
 (idx a0.ScopeProg.Nodes a2).bind fun y1 =>
 if y1.Op = 2 then
  (wT fuel a0 a1 a2 a3).bind fun y2 =>
  some y2
 else
  if y1.Op = 3 then
   ((rQ fuel) a0 a1 a2 a3 (fun x => nU x.1 x.2)).bind fun y3 =>
   some y3
  else
   if y1.Op = 5 then
    ((rQ fuel) a0 a1 a2 a3 (fun x => oY x.1 x.2)).bind fun y4 =>
    some y4
   else
    (if y1.Op = 6 then
     some (decide (y1.Op = 6))
    else
     some (decide (y1.Op = 8))).bind fun x1 =>
    bif x1 then
     (idx a0.ScopeProg.Nodes a2).bind fun y5 =>
     (idx y5.Kids 0).bind fun y6 =>
     ((fA fuel) a0 a1 y6 a3).bind fun y7 =>
     some y7
    else
     if y1.Op = 4 then
      ((pF fuel) a0 a1 a2 a3).bind fun y8 =>
      some y8
     else
      some 0
def rQ : Nat → Usage_text → (List UsageDef) → Int → Int → (Int × Int → Option Int) → Option (Int)
| 0, _, _, _, _, _ => none
| fuel + 1, a0, a1, a2, a3, a4 =>
 (idx a0.ScopeProg.Nodes a2).bind fun y1 =>
 (idx y1.Kids 0).bind fun y2 =>
 ((fA fuel) a0 a1 y2 a3).bind fun y3 =>
 (idx y1.Kids 1).bind fun y4 =>
 ((fA fuel) a0 a1 y4 a3).bind fun y5 =>
 (a4 (y3, y5)).bind fun y6 =>
 some y6
def pF : Nat → Usage_text → (List UsageDef) → Int → Int → Option (Int)
| 0, _, _, _, _ => none
| fuel + 1, a0, a1, a2, a3 =>
 (idx a0.ScopeProg.Nodes a2).bind fun y1 =>
 (idx y1.Kids 0).bind fun y2 =>
 ((fA fuel) a0 a1 y2 a3).bind fun y3 =>
 (qB a0 y1.N).bind fun y4 =>
 (qT fuel (fun (x : Int) (t : Int) => sF (fA fuel) a0 a1 a3 x t) y3 y4.1 y4.2).bind fun y5 =>
 ((idx a0.ScopeProg.Defs y1.N).bind fun y8 =>
 oJ (fA fuel) a0 a1 a3 y1 y8 fuel 0 y5).bind fun x5 =>
 some x5
end
theorem aE7 : ∀ (fuel : Nat), (∀  (a0 : Usage_text) (a1 : List UsageDef) (a2 : Int) (a3 : Int) (r : Int) (H : fA fuel a0 a1 a2 a3 = some r), FnS Tryz.prog 27 [aF bG a0, fSl bD a1, aA .i64 a2, aA .i64 a3] [] (aA .i64 r) (fun _ => [])) ∧ (∀  (a0 : Usage_text) (a1 : List UsageDef) (a2 : Int) (a3 : Int) (a4 : Int × Int → Option Int) (r : Int) (H : rQ fuel a0 a1 a2 a3 a4 = some r), FnS Tryz.prog 65 [aF bG a0, fSl bD a1, aA .i64 a2, aA .i64 a3, fFn Tryz.prog (fun (x : Int × Int) => [aA .i64 x.1, aA .i64 x.2]) (fun (r : Int) => aA .i64 r) a4] [] (aA .i64 r) (fun _ => [])) ∧ (∀  (a0 : Usage_text) (a1 : List UsageDef) (a2 : Int) (a3 : Int) (r : Int) (H : pF fuel a0 a1 a2 a3 = some r), FnS Tryz.prog 68 [aF bG a0, fSl bD a1, aA .i64 a2, aA .i64 a3] [] (aA .i64 r) (fun _ => [])) := by
 intro fuel
 induction fuel with
 | zero => exact ⟨fun a0 a1 a2 a3 r H => (by rw [fA] at H; cases H), fun a0 a1 a2 a3 a4 r H => (by rw [rQ] at H; cases H), fun a0 a1 a2 a3 r H => (by rw [pF] at H; cases H)⟩
 | succ fuel ih =>
 obtain ⟨ih_usage_text_sends, ih_usage_text_both, ih_usage_text_inner⟩ := ih
 refine ⟨?_, ?_, ?_⟩
 intro a0 a1 a2 a3 r H
 rw [fA] at H
 refine bB Tryz.func27 rfl Tryz.ntmps27 rfl (fun β => ?_)
 refine Z3 ?_
 refine aG ?_
 revert H; refine B7 fun y1 h1 H => ?_
 revert H; refine I9 (fun c1 H => ?_) fun c1 H => ?_
 revert H; refine B6 fun y2 h2 H => ?_
 refine Tc (aF9 _ _ _ _ _ _ h2) ?_
 refine Z5 ?_
 cases H
 exact To
 revert H; refine I5 (fun c2 H => ?_) fun c2 H => ?_
 revert H; refine B6 fun y3 h3 H => ?_
 refine gI trivial rfl rfl rfl (has rfl) (aK.cons (has rfl) (aK.cons (has rfl) (aK.cons (has rfl) (aK.cons (has rfl) (aK.cons (cW rfl (mV (cb rfl) (fun x r hx => aAj x.1 x.2 r hx))) aK.nil))))) rfl (cb rfl) (ih_usage_text_both a0 a1 a2 a3 (fun x => nU x.1 x.2) y3 h3) rfl ?_
 refine Z5 ?_
 cases H
 exact To
 revert H; refine I5 (fun c3 H => ?_) fun c3 H => ?_
 revert H; refine B6 fun y4 h4 H => ?_
 refine gI trivial rfl rfl rfl (has rfl) (aK.cons (has rfl) (aK.cons (has rfl) (aK.cons (has rfl) (aK.cons (has rfl) (aK.cons (cW rfl (mV (cb rfl) (fun x r hx => aE6 x.1 x.2 r hx))) aK.nil))))) rfl (cb rfl) (ih_usage_text_both a0 a1 a2 a3 (fun x => oY x.1 x.2) y4 h4) rfl ?_
 refine Z5 ?_
 cases H
 exact To
 revert H; refine B1 fun o1 H Hr1 => ?_
 refine aW (ι := Bool) (fun i => o1 = i) (fun i => [(0, aF bG a0), (1, fSl bD a1), (2, aA .i64 a2), (3, aA .i64 a3), (17, aA .i64 y1.Op), (39, aH i)]) (fun i => []) ?_ ?_
 revert H; refine I4 (fun c4 H => ?_) fun c4 H => ?_
 refine Z3 ?_
 exact Tm (decide (y1.Op = 6)) (ij H)
 refine Z5 ?_
 exact Tm (decide (y1.Op = 8)) (ij H)
 clear H; intro x1 hi; subst o1; have H := Hr1; clear Hr1; try dsimp only at H
 try dsimp only
 revert H; refine cs (fun c5 H => ?_) fun c5 H => ?_
 revert H; refine B10 fun y5 h5 H => ?_
 revert H; refine B3 fun y6 h6 H => ?_
 revert H; refine B3 fun y7 h7 H => ?_
 refine Tc (ih_usage_text_sends _ _ _ _ _ h7) ?_
 refine Z5 ?_
 cases H
 exact To
 revert H; refine I5 (fun c6 H => ?_) fun c6 H => ?_
 revert H; refine B6 fun y8 h8 H => ?_
 refine Tc (ih_usage_text_inner _ _ _ _ _ h8) ?_
 refine Z5 ?_
 cases H
 exact To
 refine Z8 ?_
 cases H
 exact To
 intro a0 a1 a2 a3 a4 r H
 rw [rQ] at H
 refine bB Tryz.func65 rfl Tryz.ntmps65 rfl (fun β => ?_)
 revert H; refine B10 fun y1 h1 H => ?_
 refine Z5 ?_
 refine aG ?_
 revert H; refine bs fun y2 h2 H => ?_
 revert H; refine bs fun y3 h3 H => ?_
 revert H; refine bs fun y4 h4 H => ?_
 revert H; refine bs fun y5 h5 H => ?_
 revert H; refine bs fun y6 h6 H => ?_
 apply bE (ods := [_, _, _, _, _, _, _, _, _, _, _, _, _, _, _, _, _]) 17 0 0 bF rfl rfl rfl
 refine ND ?_
 refine M7 ?_
 intros
 refine Nc (ih_usage_text_sends _ _ _ _ _ h3) fun _ => ?_
 refine M6 ?_
 intros
 refine Nc (ih_usage_text_sends _ _ _ _ _ h5) fun _ => ?_
 refine aEb (od := odC [] true (aA .i64 y6) []) (Φ := aA .i64 y6) (y3, y5) rfl (fun _ => rfl) trivial rfl rfl (has rfl) (aK.cons (has rfl) (aK.cons (has rfl) aK.nil)) h6 rfl (fun _ => ?_)
 refine M1 ?_
 intros
 refine Z3 ?_
 cases H
 exact To
 exact fk
 kernel_rfl
 intro a0 a1 a2 a3 r H
 rw [pF] at H
 refine sU Tryz.func68 rfl Tryz.ntmps68 rfl (fun β => ?_)
 refine Z1 ?_
 refine Tn (cD rfl (has rfl) (aT (uX))) fun b1 => ?_
 refine Tn (cD rfl (has rfl) (aT (aZ))) fun b2 => ?_
 refine Tn (cD rfl (has rfl) (aT (aD trivial))) fun b3 => ?_
 revert H; refine B9 fun y1 h1 H => ?_
 refine Z2 ?_
 refine Tn (cL rfl oT rfl) fun b4 => ?_
 refine dG (φs' := [aA .i64 y1.Op, aA .i64 y1.N, fSl bA y1.Args, fSl (aB .i64) y1.Kids]) trivial rfl rfl (has rfl) (has rfl) (aO (aD trivial) (aO (aD trivial) (aO (aZ) (aO (aZ) bX)))) (sz rfl) rfl rfl rfl ?_
 refine Z1 ?_
 refine aG ?_
 revert H; refine bs fun y2 h2 H => ?_
 revert H; refine bs fun y3 h3 H => ?_
 apply bE (ods := [_, _, _, _, _, _, _, _, _, _]) 10 1 5 bF rfl rfl rfl
 refine ND ?_
 refine M7 ?_
 intros
 refine Nc (ih_usage_text_sends _ _ _ _ _ h3) fun _ => ?_
 refine Mn 4 (fun b5 => ptr b5) (fun b5 => aC b5 67 [aA .i64 0]) rfl (cL rfl aDq rfl) (fun b5 u1 => ?_)
 refine jR (od := od1 8 [4] true (fun b5 _ => fAny) (fun b5 _ => [aC b5 67 [aA .i64 y3]])) (p := 4) (φs' := [aA .i64 y3]) rfl (fun _ => rfl) (fun _ => rfl) trivial rfl rfl rfl (has rfl) (has rfl) (aD trivial) (sz rfl) rfl rfl (fun _ => ?_)
 refine Z2 ?_
 refine aG ?_
 revert H; refine B4 fun y4 h4 H => ?_
 refine gI trivial rfl rfl rfl (has rfl) (aK.cons (cW rfl aE5) (aK.cons (has rfl) aK.nil)) rfl (cb rfl) (aCK a0 y1.N y4 h4) rfl ?_
 refine Z2 ?_
 refine T_sub [(0, aF bG a0), (1, fSl bD a1), (2, aA .i64 a2), (3, aA .i64 a3), (4, fEq (ptr b1)), (5, fEq (ptr b2)), (7, fEq (ptr b3)), (8, aA .i64 0), (14, aF bG a0), (15, aF bG a0), (16, aF dJ a0.ScopeProg), (17, aF (tSl aL) a0.ScopeProg.Nodes), (18, fSl aL a0.ScopeProg.Nodes), (19, aA .i64 a2), (20, aF aL y1), (21, fSt aL y1), (9, fEq (ptr b4)), (22, aF bG a0), (23, fSl bD a1), (24, fEq (.pointer (some ⟨b4, 3, none⟩))), (25, fSl (aB .i64) y1.Kids), (26, aF (aB .i64) y2), (27, aA .i64 y2), (28, aA .i64 a3), (29, aA .i64 y3), (10, fEq (ptr b5)), (30, aF bG a0), (31, fEq (.pointer (some ⟨b4, 1, none⟩))), (32, aA .i64 y1.N), (33, cZ 101 [aF (fO eJ) y4.1, aF (aB .i64) y4.2])] (Sc (Sc (Sc (Sc (Sc (Sc (Sc (Sc (Sc (Sc (Sc (Sc (Sc (Sc (Sc (Sc (Sc (Sc (Sc (Sc (Sc (Sc (Sc (Sc (Sc (Sc (Sc (Sc (Sc (Sc fW.nil)))))))))))))))))))))))))))))) ?_
 revert H; refine bs fun y5 h5 H => ?_
 refine aAm (s := y3) (s' := y5) (fun (x : Int) => [aA .i64 x]) (fun (x : Int) (t : Int) => sF (fA fuel) a0 a1 a3 x t) (fun (t : Int) => [aC b4 51 [aA .i64 y1.Op, aA .i64 y1.N, fSl bA y1.Args, fSl (aB .i64) y1.Kids], aC b3 3 [aA .i64 a3], aC b2 27 [fSl bD a1], aC b1 64 [aF bG a0], aC b5 67 [aA .i64 t]]) (has rfl) (cb rfl) rfl (fun _ => rfl) rfl (fun J => aBo fuel J (fun (x : Int) (t : Int) => sF (fA fuel) a0 a1 a3 x t) y3 y4.1 y4.2 y5 h5) (fun β' l rec x1 t t' hs hp hY => ?_) (fun rb => ?_)
 generalize t = x3 at *
 have H : sF (fA fuel) a0 a1 a3 x1 x3 = some t' := hY; clear hY; unfold sF at H; try dsimp only at H
 show T β' _ _ (rD [34] ((fun (x : Int) => [aA .i64 x]) x1) [(0, aF bG a0), (1, fSl bD a1), (2, aA .i64 a2), (3, aA .i64 a3), (4, fEq (ptr b1)), (5, fEq (ptr b2)), (7, fEq (ptr b3)), (8, aA .i64 0), (14, aF bG a0), (15, aF bG a0), (16, aF dJ a0.ScopeProg), (17, aF (tSl aL) a0.ScopeProg.Nodes), (18, fSl aL a0.ScopeProg.Nodes), (19, aA .i64 a2), (20, aF aL y1), (21, fSt aL y1), (9, fEq (ptr b4)), (22, aF bG a0), (23, fSl bD a1), (24, fEq (.pointer (some ⟨b4, 3, none⟩))), (25, fSl (aB .i64) y1.Kids), (26, aF (aB .i64) y2), (27, aA .i64 y2), (28, aA .i64 a3), (29, aA .i64 y3), (10, fEq (ptr b5)), (30, aF bG a0), (31, fEq (.pointer (some ⟨b4, 1, none⟩))), (32, aA .i64 y1.N), (33, cZ 101 [aF (fO eJ) y4.1, aF (aB .i64) y4.2])]) (tObj l (.loop rec) :: [aC b4 51 [aA .i64 y1.Op, aA .i64 y1.N, fSl bA y1.Args, fSl (aB .i64) y1.Kids], aC b3 3 [aA .i64 a3], aC b2 27 [fSl bD a1], aC b1 64 [aF bG a0], aC b5 67 [aA .i64 x3]]) _
 refine Z3 ?_
 refine yW hs ?_
 revert H; refine B1 fun y6 h6 H => ?_
 revert H; refine bs fun y7 h7 H => ?_
 apply bE (ods := [_, _, _, _, _, _, _, _]) 8 0 6 bF rfl rfl rfl
 refine ND ?_
 refine M5 ?_
 intros
 refine Nc (ih_usage_text_sends _ _ _ _ _ h6) fun _ => ?_
 refine Nc (aAj _ _ _ h7) fun _ => ?_
 refine jR (od := odC [5] true (fAny) [aC b5 67 [aA .i64 y7]]) (p := 5) (φs' := [aA .i64 y7]) rfl (fun _ => rfl) (fun _ => rfl) trivial rfl rfl rfl (has rfl) (has rfl) (aD trivial) (sz rfl) rfl rfl (fun _ => ?_)
 refine Z3 ?_
 refine aJ [1, 2, 3, 4, 5, 0] (by decide) ?_
 cases H
 refine aJ [5, 0, 1, 2, 3, 4] (by decide) ?_
 exact aAL hs hp rfl
 exact fk
 kernel_rfl
 generalize rb = rb1
 show T β _ _ [(0, aF bG a0), (1, fSl bD a1), (2, aA .i64 a2), (3, aA .i64 a3), (4, fEq (ptr b1)), (5, fEq (ptr b2)), (7, fEq (ptr b3)), (8, aA .i64 0), (14, aF bG a0), (15, aF bG a0), (16, aF dJ a0.ScopeProg), (17, aF (tSl aL) a0.ScopeProg.Nodes), (18, fSl aL a0.ScopeProg.Nodes), (19, aA .i64 a2), (20, aF aL y1), (21, fSt aL y1), (9, fEq (ptr b4)), (22, aF bG a0), (23, fSl bD a1), (24, fEq (.pointer (some ⟨b4, 3, none⟩))), (25, fSl (aB .i64) y1.Kids), (26, aF (aB .i64) y2), (27, aA .i64 y2), (28, aA .i64 a3), (29, aA .i64 y3), (10, fEq (ptr b5)), (30, aF bG a0), (31, fEq (.pointer (some ⟨b4, 1, none⟩))), (32, aA .i64 y1.N), (33, cZ 101 [aF (fO eJ) y4.1, aF (aB .i64) y4.2])] ([jU rb1] ++ [aC b4 51 [aA .i64 y1.Op, aA .i64 y1.N, fSl bA y1.Args, fSl (aB .i64) y1.Kids], aC b3 3 [aA .i64 a3], aC b2 27 [fSl bD a1], aC b1 64 [aF bG a0], aC b5 67 [aA .i64 y5]]) _
 dsimp only [List.append, List.cons_append, List.nil_append]
 revert H; refine B2 fun o1 H Hr1 => ?_
 refine aW (ι := Int) (fun i => o1 = i) (fun i => [(10, fEq (ptr b5))]) (fun i => [aC b4 51 [aA .i64 y1.Op, aA .i64 y1.N, fSl bA y1.Args, fSl (aB .i64) y1.Kids], aC b3 3 [aA .i64 a3], aC b2 27 [fSl bD a1], aC b1 64 [aF bG a0], aC b5 67 [aA .i64 i], jU rb1]) ?_ ?_
 refine aG ?_
 revert H; refine bs fun y8 h8 H => ?_
 apply bE (ods := [_, _, _, _, _, _, _, _, _, _, _, _]) 12 0 6 bF rfl rfl rfl
 refine ND ?_
 refine M8 ?_
 intros
 refine M4 ?_
 intros
 refine Z3 ?_
 refine aJ [1, 2, 3, 4, 5, 0] (by decide) ?_
 refine Tl (ι := Nat × Int × Int) (fun i => oJ (fA fuel) a0 a1 a3 y1 y8 i.1 i.2.1 i.2.2 = _) (fun i => i.1) (fun i => [(4, fEq (ptr b1)), (5, fEq (ptr b2)), (7, fEq (ptr b3)), (9, fEq (ptr b4)), (10, fEq (ptr b5)), (51, fSl bH y8.Rules), (52, aA .i64 (y8.Rules.length : Int)), (53, aA .i64 i.2.1)]) (fun i => [aC b4 51 [aA .i64 y1.Op, aA .i64 y1.N, fSl bA y1.Args, fSl (aB .i64) y1.Kids], aC b3 3 [aA .i64 a3], aC b2 27 [fSl bD a1], aC b1 64 [aF bG a0], aC b5 67 [aA .i64 i.2.2], jU rb1]) (fuel, 0, y5) H ?_
 clear H; rintro ⟨k1, x8, x9⟩ H
 replace H : oJ (fA fuel) a0 a1 a3 y1 y8 k1 x8 x9 = _ := H
 try dsimp only
 obtain _ | k1 := k1
 rw [oJ] at H; cases H
 rw [oJ] at H
 refine Z3 ?_
 refine aG ?_
 revert H; refine is (fun c1 H => ?_) fun c1 H => ?_
 refine Z3 ?_
 refine aG ?_
 revert H; refine B3 fun y9 h9 H => ?_
 refine Z2 ?_
 refine Tn (cL rfl vD rfl) fun b6 => ?_
 refine Z1 ?_
 refine dG (φs' := [aA .i64 y9.At, fSl (aB .i64) y9.Joins, aA .i64 y9.Node]) trivial rfl rfl (has rfl) (has rfl) (aO (aD trivial) (aO (aZ) (aO (aD trivial) bX))) (sz rfl) rfl rfl rfl ?_
 revert H; refine B1 fun y10 h10 H => ?_
 revert H; refine bs fun y11 h11 H => ?_
 revert H; refine bs fun y12 h12 H => ?_
 revert H; refine bs fun y13 h13 H => ?_
 revert H; refine bs fun y14 h14 H => ?_
 revert H; refine bs fun y15 h15 H => ?_
 apply bE (ods := [_, _, _, _, _, _, _, _, _, _, _, _, _, _, _, _, _, _, _, _]) 20 0 7 bF rfl rfl rfl
 refine ND ?_
 refine M8 ?_
 intros
 refine M2 ?_
 intros
 refine Nc (uN _ _ h12) fun _ => ?_
 refine M5 ?_
 intros
 refine Nc (ih_usage_text_sends _ _ _ _ _ h13) fun _ => ?_
 refine Nc (aGM _ _ _ h14) fun _ => ?_
 refine Nc (aAj _ _ _ h15) fun _ => ?_
 refine jR (od := odC [5] true (fAny) [aC b5 67 [aA .i64 y15]]) (p := 5) (φs' := [aA .i64 y15]) rfl (fun _ => rfl) (fun _ => rfl) trivial rfl rfl rfl (has rfl) (has rfl) (aD trivial) (sz rfl) rfl rfl (fun _ => ?_)
 revert H; refine B5 fun z1 h16 H => ?_
 refine Z3 ?_
 refine aJ [1, 2, 3, 4, 5, 6] (by decide) ?_
 exact Tm ((k1, z1, y15)) ⟨H, ls⟩
 exact fk
 kernel_rfl
 refine Z6 ?_
 exact Tm (x9) (ij H)
 exact fk
 kernel_rfl
 clear H; intro x5 hi; subst o1; have H := Hr1; clear Hr1; try dsimp only at H
 try dsimp only
 refine Z5 ?_
 cases H
 refine aJ [5] (by decide) ?_
 exact aDM [rb1] rfl (bM rfl) rfl rfl
 exact fk
 kernel_rfl
theorem aEj (fuel : Nat)  (a0 : Usage_text) (a1 : List UsageDef) (a2 : Int) (a3 : Int) (r : Int) (H : fA fuel a0 a1 a2 a3 = some r) : FnS Tryz.prog 27 [aF bG a0, fSl bD a1, aA .i64 a2, aA .i64 a3] [] (aA .i64 r) (fun _ => []) := (aE7 fuel).1 a0 a1 a2 a3 r H
theorem aIz (fuel : Nat)  (a0 : Usage_text) (a1 : List UsageDef) (a2 : Int) (a3 : Int) (r : Int) (H : pF fuel a0 a1 a2 a3 = some r) : FnS Tryz.prog 68 [aF bG a0, fSl bD a1, aA .i64 a2, aA .i64 a3] [] (aA .i64 r) (fun _ => []) := (aE7 fuel).2.2 a0 a1 a2 a3 r H
def qF (a0 : Int) : Option (Int) :=
 if a0 = 0 then
  some 1
 else
  if a0 = 1 then
   some 3
  else
   some 4
theorem zR  (a0 : Int) (r : Int) (H : qF a0 = some r) : FnS Tryz.prog 28 [aA .i64 a0] [] (aA .i64 r) (fun _ => []) := by
 unfold qF at H
 refine bB Tryz.func28 rfl Tryz.ntmps28 rfl (fun β => ?_)
 refine Z3 ?_
 refine aG ?_
 revert H; refine I8 (fun c1 H => ?_) fun c1 H => ?_
 refine Z7 ?_
 cases H
 exact To
 revert H; refine I5 (fun c2 H => ?_) fun c2 H => ?_
 refine Z7 ?_
 cases H
 exact To
 refine Z8 ?_
 cases H
 exact To
def aBH (fuel : Nat) (a0 : ScopeProg) (a1 : List UsageDef) (a2 : Int) (a3 : Int) : Option (Int × Int) :=
 (zO fuel (⟨a0.Free, a0.Nodes, a0.Defs, a0.Main⟩ : ScopeProg) a2 a3).bind fun y1 =>
 bif !y1.2 then
  some (0, 2)
 else
  (y1.1).bind fun y2 =>
  (zS fuel y2 a1).bind fun y3 =>
  bif y3 then
   (fA fuel y2 a1 a2 a3).bind fun y4 =>
   (qF y4).bind fun y5 =>
   some (y5, 0)
  else
   some (0, 2)
theorem aG8 (fuel : Nat)  (a0 : ScopeProg) (a1 : List UsageDef) (a2 : Int) (a3 : Int) (r : Int × Int) (H : aBH fuel a0 a1 a2 a3 = some r) : FnS Tryz.prog 10 [fSt dJ a0, fSl bD a1, aA .i64 a2, aA .i64 a3] [] (dH [aA .i64 r.1, aA .i64 r.2]) (fun _ => []) := by
 unfold aBH at H
 refine bB Tryz.func10 rfl Tryz.ntmps10 rfl (fun β => ?_)
 refine Z1 ?_
 refine Tn (cD rfl (has rfl) bJ) fun b1 => ?_
 revert H; refine B7 fun y1 h1 H => ?_
 refine Tc (aDm _ _ _ _ _ h1) ?_
 refine Z6 ?_
 refine aG ?_
 refine Z4 ?_
 revert H; refine cs (fun c1 H => ?_) fun c1 H => ?_
 refine Z12 ?_
 cases H
 refine aJ [] (by decide) ?_
 exact gK rfl (bM rfl) (bM rfl) rfl
 revert H; refine B2 fun y2 h2 H => ?_
 refine kY 17 rfl (uS h2) ?_
 refine kY 10 rfl (uS h2) ?_
 refine kY 22 rfl (uS h2) ?_
 revert H; refine bs fun y3 h3 H => ?_
 refine Tc (aD4 _ _ _ _ h3) ?_
 refine Z3 ?_
 revert H; refine cs (fun c2 H => ?_) fun c2 H => ?_
 revert H; refine B8 fun y4 h4 H => ?_
 refine Tc (aEj _ _ _ _ _ _ h4) ?_
 revert H; refine bs fun y5 h5 H => ?_
 refine Tc (zR _ _ h5) ?_
 refine Z4 ?_
 cases H
 refine aJ [] (by decide) ?_
 exact gK rfl (bM rfl) (bM rfl) rfl
 refine Z6 ?_
 cases H
 refine aJ [] (by decide) ?_
 exact gK rfl (bM rfl) (bM rfl) rfl
def qR (rec_usage_text_sure : Usage_text → Int → Int → Option (Int)) (a0 : Usage_text) (a2 : Int) (x1 : Int) (x3 : Int) : Option (Int) :=
 (rec_usage_text_sure a0 x1 a2).bind fun y6 =>
 (chk (x3 + y6)).bind fun z1 =>
 some z1
mutual
def gY : Nat → Usage_text → Int → Int → Option (Int)
| 0, _, _, _ => none
| fuel + 1, a0, a1, a2 =>
 (idx a0.ScopeProg.Nodes a1).bind fun y1 =>
 (if y1.Op = 2 then
  (idx a0.denotes a1).bind fun y2 =>
  bif (y2.get a2).isSome then
   if y1.N = a2 then
    (pP a0 (⟨((y2.get a2).getD (⟨0, 0⟩ : Usage_channel)).def_, ((y2.get a2).getD (⟨0, 0⟩ : Usage_channel)).index⟩ : Usage_channel) a1).bind fun y3 =>
    bif y3 then
     (some 1).bind fun r => some (Sum.inr r)
    else
     some (Sum.inl ())
   else
    some (Sum.inl ())
  else
   some (Sum.inl ())
 else
  if y1.Op = 3 then
   (idx y1.Kids 0).bind fun y4 =>
   ((gY fuel) a0 y4 a2).bind fun y5 =>
   (idx y1.Kids 1).bind fun y6 =>
   ((gY fuel) a0 y6 a2).bind fun y7 =>
   (chk (y5 + y7)).bind fun z1 =>
   (some z1).bind fun r => some (Sum.inr r)
  else
   if y1.Op = 5 then
    (idx y1.Kids 0).bind fun y8 =>
    ((gY fuel) a0 y8 a2).bind fun y9 =>
    (idx y1.Kids 1).bind fun y10 =>
    ((gY fuel) a0 y10 a2).bind fun y11 =>
    (some (min y9 y11)).bind fun r => some (Sum.inr r)
   else
    if y1.Op = 4 then
     ((lJ fuel) a0 a1 a2).bind fun y12 =>
     (some y12).bind fun r => some (Sum.inr r)
    else
     some (Sum.inl ())).bind fun o => match o with
 | Sum.inr r => some r
 | Sum.inl _ =>
 some 0
def lJ : Nat → Usage_text → Int → Int → Option (Int)
| 0, _, _, _ => none
| fuel + 1, a0, a1, a2 =>
 (idx a0.ScopeProg.Nodes a1).bind fun y1 =>
 (idx y1.Kids 0).bind fun y2 =>
 ((gY fuel) a0 y2 a2).bind fun y3 =>
 (qB a0 y1.N).bind fun y4 =>
 (qT fuel (fun (x : Int) (t : Int) => qR (gY fuel) a0 a2 x t) y3 y4.1 y4.2).bind fun y5 =>
 some y5
end
theorem aFd : ∀ (fuel : Nat), (∀  (a0 : Usage_text) (a1 : Int) (a2 : Int) (r : Int) (H : gY fuel a0 a1 a2 = some r), FnS Tryz.prog 33 [aF bG a0, aA .i64 a1, aA .i64 a2] [] (aA .i64 r) (fun _ => [])) ∧ (∀  (a0 : Usage_text) (a1 : Int) (a2 : Int) (r : Int) (H : lJ fuel a0 a1 a2 = some r), FnS Tryz.prog 41 [aF bG a0, aA .i64 a1, aA .i64 a2] [] (aA .i64 r) (fun _ => [])) := by
 intro fuel
 induction fuel with
 | zero => exact ⟨fun a0 a1 a2 r H => (by rw [gY] at H; cases H), fun a0 a1 a2 r H => (by rw [lJ] at H; cases H)⟩
 | succ fuel ih =>
 obtain ⟨ih_usage_text_sure, ih_usage_text_begun⟩ := ih
 refine ⟨?_, ?_⟩
 intro a0 a1 a2 r H
 rw [gY] at H
 refine bB Tryz.func33 rfl Tryz.ntmps33 rfl (fun β => ?_)
 revert H; refine B10 fun y1 h1 H => ?_
 refine Z2 ?_
 refine Tn (cL rfl oT rfl) fun b1 => ?_
 refine dG (φs' := [aA .i64 y1.Op, aA .i64 y1.N, fSl bA y1.Args, fSl (aB .i64) y1.Kids]) trivial rfl rfl (has rfl) (has rfl) (aO (aD trivial) (aO (aD trivial) (aO (aZ) (aO (aZ) bX)))) (sz rfl) rfl rfl rfl ?_
 revert H; refine B1 fun o1 H Hr1 => ?_
 refine aW (ι := Unit) (fun i => o1 = Sum.inl ()) (fun i => []) (fun i => [aC b1 51 [aA .i64 y1.Op, aA .i64 y1.N, fSl bA y1.Args, fSl (aB .i64) y1.Kids]]) ?_ ?_
 revert H; refine I9 (fun c1 H => ?_) fun c1 H => ?_
 revert H; refine B7 fun y2 h2 H => ?_
 refine Z3 ?_
 refine Yy (aD0 (zα := (⟨0, 0⟩ : Usage_channel)) (k := a2) rfl hh hh rfl vW (qQ [(.int .i64 0), (.int .i64 0)])) ?_
 refine Z3 ?_
 refine Tn (cL rfl aBv rfl) fun b2 => ?_
 refine dG (φs' := [aA .i64 (((y2.get a2).getD (⟨0, 0⟩ : Usage_channel)).def_), aA .i64 (((y2.get a2).getD (⟨0, 0⟩ : Usage_channel)).index)]) trivial rfl rfl (has rfl) (has rfl) (aO (aD trivial) (aO (aD trivial) bX)) (sz rfl) rfl rfl rfl ?_
 refine Z5 ?_
 revert H; refine cs (fun c2 H => ?_) fun c2 H => ?_
 revert H; refine I6 (fun c3 H => ?_) fun c3 H => ?_
 revert H; refine B3 fun y3 h3 H => ?_
 refine Tc (aDN _ _ _ _ h3) ?_
 refine Z2 ?_
 revert H; refine cs (fun c4 H => ?_) fun c4 H => ?_
 revert H; refine B7 fun r1 H e1 => ?_
 cases e1; cases Hr1
 cases H
 refine aJ [] (by decide) ?_
 exact To
 refine Z4 ?_
 refine aJ [1] (by decide) ?_
 exact Tm (()) (ij H)
 refine Z10 ?_
 refine aJ [1] (by decide) ?_
 exact Tm (()) (ij H)
 refine Z12 ?_
 refine Z4 ?_
 refine aJ [1] (by decide) ?_
 exact Tm (()) (ij H)
 revert H; refine I5 (fun c5 H => ?_) fun c5 H => ?_
 refine Z1 ?_
 refine aG ?_
 revert H; refine bs fun y4 h4 H => ?_
 revert H; refine bs fun y5 h5 H => ?_
 revert H; refine bs fun y6 h6 H => ?_
 revert H; refine bs fun y7 h7 H => ?_
 revert H; refine bs fun z1 h8 H => ?_
 apply bE (ods := [_, _, _, _, _, _, _, _, _, _, _, _, _, _, _, _]) 16 0 1 bF rfl rfl rfl
 refine ND ?_
 refine M6 ?_
 intros
 refine Nc (ih_usage_text_sure _ _ _ _ h5) fun _ => ?_
 refine M6 ?_
 intros
 refine Nc (ih_usage_text_sure _ _ _ _ h7) fun _ => ?_
 refine M2 ?_
 intros
 revert H; refine B5 fun r2 H e2 => ?_
 cases e2; cases Hr1
 cases H
 refine aJ [] (by decide) ?_
 exact To
 exact fk
 kernel_rfl
 revert H; refine I5 (fun c6 H => ?_) fun c6 H => ?_
 refine Z1 ?_
 refine aG ?_
 revert H; refine bs fun y8 h9 H => ?_
 revert H; refine bs fun y9 h10 H => ?_
 revert H; refine bs fun y10 h11 H => ?_
 revert H; refine bs fun y11 h12 H => ?_
 apply bE (ods := [_, _, _, _, _, _, _, _, _, _, _, _, _, _, _, _]) 16 0 1 bF rfl rfl rfl
 refine ND ?_
 refine M6 ?_
 intros
 refine Nc (ih_usage_text_sure _ _ _ _ h10) fun _ => ?_
 refine M6 ?_
 intros
 refine Nc (ih_usage_text_sure _ _ _ _ h12) fun _ => ?_
 refine M2 ?_
 intros
 revert H; refine B5 fun r3 H e3 => ?_
 cases e3; cases Hr1
 cases H
 refine aJ [] (by decide) ?_
 exact To
 exact fk
 kernel_rfl
 revert H; refine I5 (fun c7 H => ?_) fun c7 H => ?_
 revert H; refine B5 fun y12 h13 H => ?_
 refine Tc (ih_usage_text_begun _ _ _ _ h13) ?_
 revert H; refine B5 fun r4 H e4 => ?_
 cases e4; cases Hr1
 cases H
 refine aJ [] (by decide) ?_
 exact To
 refine Z4 ?_
 exact Tm (()) (ij H)
 clear H; intro i hi; subst o1; have H := Hr1; clear Hr1; try dsimp only at H
 try dsimp only
 refine Z4 ?_
 cases H
 refine aJ [] (by decide) ?_
 exact To
 intro a0 a1 a2 r H
 rw [lJ] at H
 refine sU Tryz.func41 rfl Tryz.ntmps41 rfl (fun β => ?_)
 refine Z1 ?_
 refine Tn (cD rfl (has rfl) (aT (uX))) fun b1 => ?_
 refine Tn (cD rfl (has rfl) (aT (aD trivial))) fun b2 => ?_
 revert H; refine B9 fun y1 h1 H => ?_
 refine Z2 ?_
 refine Tn (cL rfl oT rfl) fun b3 => ?_
 refine dG (φs' := [aA .i64 y1.Op, aA .i64 y1.N, fSl bA y1.Args, fSl (aB .i64) y1.Kids]) trivial rfl rfl (has rfl) (has rfl) (aO (aD trivial) (aO (aD trivial) (aO (aZ) (aO (aZ) bX)))) (sz rfl) rfl rfl rfl ?_
 refine Z1 ?_
 refine aG ?_
 revert H; refine bs fun y2 h2 H => ?_
 revert H; refine bs fun y3 h3 H => ?_
 apply bE (ods := [_, _, _, _, _, _, _, _, _]) 9 1 4 bF rfl rfl rfl
 refine ND ?_
 refine M6 ?_
 intros
 refine Nc (ih_usage_text_sure _ _ _ _ h3) fun _ => ?_
 refine Mn 3 (fun b4 => ptr b4) (fun b4 => aC b4 3 [aA .i64 0]) rfl (cL rfl qZ rfl) (fun b4 u1 => ?_)
 refine jR (od := od1 7 [3] true (fun b4 _ => fAny) (fun b4 _ => [aC b4 3 [aA .i64 y3]])) (p := 3) (φs' := [aA .i64 y3]) rfl (fun _ => rfl) (fun _ => rfl) trivial rfl rfl rfl (has rfl) (has rfl) (aD trivial) (sz rfl) rfl rfl (fun _ => ?_)
 refine Z2 ?_
 refine aG ?_
 revert H; refine B4 fun y4 h4 H => ?_
 refine gI trivial rfl rfl rfl (has rfl) (aK.cons (cW rfl aE5) (aK.cons (has rfl) aK.nil)) rfl (cb rfl) (aCK a0 y1.N y4 h4) rfl ?_
 refine Z2 ?_
 refine T_sub [(0, aF bG a0), (1, aA .i64 a1), (2, aA .i64 a2), (3, fEq (ptr b1)), (5, fEq (ptr b2)), (6, aA .i64 0), (10, aF bG a0), (11, aF bG a0), (12, aF dJ a0.ScopeProg), (13, aF (tSl aL) a0.ScopeProg.Nodes), (14, fSl aL a0.ScopeProg.Nodes), (15, aA .i64 a1), (16, aF aL y1), (17, fSt aL y1), (7, fEq (ptr b3)), (18, aF bG a0), (19, fEq (.pointer (some ⟨b3, 3, none⟩))), (20, fSl (aB .i64) y1.Kids), (21, aF (aB .i64) y2), (22, aA .i64 y2), (23, aA .i64 a2), (24, aA .i64 y3), (8, fEq (ptr b4)), (25, aF bG a0), (26, fEq (.pointer (some ⟨b3, 1, none⟩))), (27, aA .i64 y1.N), (28, cZ 101 [aF (fO eJ) y4.1, aF (aB .i64) y4.2])] (Sc (Sc (Sc (Sc (Sc (Sc (Sc (Sc (Sc (Sc (Sc (Sc (Sc (Sc (Sc (Sc (Sc (Sc (Sc (Sc (Sc (Sc (Sc (Sc (Sc (Sc (Sc fW.nil))))))))))))))))))))))))))) ?_
 revert H; refine bs fun y5 h5 H => ?_
 refine aAm (s := y3) (s' := y5) (fun (x : Int) => [aA .i64 x]) (fun (x : Int) (t : Int) => qR (gY fuel) a0 a2 x t) (fun (t : Int) => [aC b3 51 [aA .i64 y1.Op, aA .i64 y1.N, fSl bA y1.Args, fSl (aB .i64) y1.Kids], aC b2 3 [aA .i64 a2], aC b1 64 [aF bG a0], aC b4 3 [aA .i64 t]]) (has rfl) (cb rfl) rfl (fun _ => rfl) rfl (fun J => aBo fuel J (fun (x : Int) (t : Int) => qR (gY fuel) a0 a2 x t) y3 y4.1 y4.2 y5 h5) (fun β' l rec x1 t t' hs hp hY => ?_) (fun rb => ?_)
 generalize t = x3 at *
 have H : qR (gY fuel) a0 a2 x1 x3 = some t' := hY; clear hY; unfold qR at H; try dsimp only at H
 show T β' _ _ (rD [29] ((fun (x : Int) => [aA .i64 x]) x1) [(0, aF bG a0), (1, aA .i64 a1), (2, aA .i64 a2), (3, fEq (ptr b1)), (5, fEq (ptr b2)), (6, aA .i64 0), (10, aF bG a0), (11, aF bG a0), (12, aF dJ a0.ScopeProg), (13, aF (tSl aL) a0.ScopeProg.Nodes), (14, fSl aL a0.ScopeProg.Nodes), (15, aA .i64 a1), (16, aF aL y1), (17, fSt aL y1), (7, fEq (ptr b3)), (18, aF bG a0), (19, fEq (.pointer (some ⟨b3, 3, none⟩))), (20, fSl (aB .i64) y1.Kids), (21, aF (aB .i64) y2), (22, aA .i64 y2), (23, aA .i64 a2), (24, aA .i64 y3), (8, fEq (ptr b4)), (25, aF bG a0), (26, fEq (.pointer (some ⟨b3, 1, none⟩))), (27, aA .i64 y1.N), (28, cZ 101 [aF (fO eJ) y4.1, aF (aB .i64) y4.2])]) (tObj l (.loop rec) :: [aC b3 51 [aA .i64 y1.Op, aA .i64 y1.N, fSl bA y1.Args, fSl (aB .i64) y1.Kids], aC b2 3 [aA .i64 a2], aC b1 64 [aF bG a0], aC b4 3 [aA .i64 x3]]) _
 refine Z3 ?_
 refine yW hs ?_
 revert H; refine B1 fun y6 h6 H => ?_
 revert H; refine bs fun z1 h7 H => ?_
 apply bE (ods := [_, _, _, _, _, _, _]) 7 0 5 bF rfl rfl rfl
 refine ND ?_
 refine M4 ?_
 intros
 refine Nc (ih_usage_text_sure _ _ _ _ h6) fun _ => ?_
 refine M1 ?_
 intros
 refine jR (od := odC [4] true (fAny) [aC b4 3 [aA .i64 z1]]) (p := 4) (φs' := [aA .i64 z1]) rfl (fun _ => rfl) (fun _ => rfl) trivial rfl rfl rfl (has rfl) (has rfl) (aD trivial) (sz rfl) rfl rfl (fun _ => ?_)
 refine Z3 ?_
 refine aJ [1, 2, 3, 4, 0] (by decide) ?_
 cases H
 refine aJ [4, 0, 1, 2, 3] (by decide) ?_
 exact aAL hs hp rfl
 exact fk
 kernel_rfl
 generalize rb = rb1
 show T β _ _ [(0, aF bG a0), (1, aA .i64 a1), (2, aA .i64 a2), (3, fEq (ptr b1)), (5, fEq (ptr b2)), (6, aA .i64 0), (10, aF bG a0), (11, aF bG a0), (12, aF dJ a0.ScopeProg), (13, aF (tSl aL) a0.ScopeProg.Nodes), (14, fSl aL a0.ScopeProg.Nodes), (15, aA .i64 a1), (16, aF aL y1), (17, fSt aL y1), (7, fEq (ptr b3)), (18, aF bG a0), (19, fEq (.pointer (some ⟨b3, 3, none⟩))), (20, fSl (aB .i64) y1.Kids), (21, aF (aB .i64) y2), (22, aA .i64 y2), (23, aA .i64 a2), (24, aA .i64 y3), (8, fEq (ptr b4)), (25, aF bG a0), (26, fEq (.pointer (some ⟨b3, 1, none⟩))), (27, aA .i64 y1.N), (28, cZ 101 [aF (fO eJ) y4.1, aF (aB .i64) y4.2])] ([jU rb1] ++ [aC b3 51 [aA .i64 y1.Op, aA .i64 y1.N, fSl bA y1.Args, fSl (aB .i64) y1.Kids], aC b2 3 [aA .i64 a2], aC b1 64 [aF bG a0], aC b4 3 [aA .i64 y5]]) _
 dsimp only [List.append, List.cons_append, List.nil_append]
 refine Z7 ?_
 cases H
 refine aJ [0] (by decide) ?_
 exact aDM [rb1] rfl (bM rfl) rfl rfl
 exact fk
 kernel_rfl
theorem aGp (fuel : Nat)  (a0 : Usage_text) (a1 : Int) (a2 : Int) (r : Int) (H : gY fuel a0 a1 a2 = some r) : FnS Tryz.prog 33 [aF bG a0, aA .i64 a1, aA .i64 a2] [] (aA .i64 r) (fun _ => []) := (aFd fuel).1 a0 a1 a2 r H
theorem aEB (fuel : Nat)  (a0 : Usage_text) (a1 : Int) (a2 : Int) (r : Int) (H : lJ fuel a0 a1 a2 = some r) : FnS Tryz.prog 41 [aF bG a0, aA .i64 a1, aA .i64 a2] [] (aA .i64 r) (fun _ => []) := (aFd fuel).2 a0 a1 a2 r H
def aBx (fuel : Nat) (a0 : ScopeProg) (a1 : Int) (a2 : Int) : Option (Int × Int) :=
 (zO fuel (⟨a0.Free, a0.Nodes, a0.Defs, a0.Main⟩ : ScopeProg) a1 a2).bind fun y1 =>
 bif y1.2 then
  (y1.1).bind fun y2 =>
  (gY fuel y2 a1 a2).bind fun y3 =>
  some (y3, 0)
 else
  some (0, 2)
theorem aF2 (fuel : Nat)  (a0 : ScopeProg) (a1 : Int) (a2 : Int) (r : Int × Int) (H : aBx fuel a0 a1 a2 = some r) : FnS Tryz.prog 12 [fSt dJ a0, aA .i64 a1, aA .i64 a2] [] (dH [aA .i64 r.1, aA .i64 r.2]) (fun _ => []) := by
 unfold aBx at H
 refine bB Tryz.func12 rfl Tryz.ntmps12 rfl (fun β => ?_)
 refine Z1 ?_
 refine Tn (cD rfl (has rfl) bJ) fun b1 => ?_
 revert H; refine B7 fun y1 h1 H => ?_
 refine Tc (aDm _ _ _ _ _ h1) ?_
 refine Z6 ?_
 refine aG ?_
 refine Z4 ?_
 revert H; refine cs (fun c1 H => ?_) fun c1 H => ?_
 revert H; refine B7 fun y2 h2 H => ?_
 refine kY 15 rfl (uS h2) ?_
 refine kY 8 rfl (uS h2) ?_
 refine kY 19 rfl (uS h2) ?_
 revert H; refine bs fun y3 h3 H => ?_
 refine Tc (aGp _ _ _ _ _ h3) ?_
 refine Z4 ?_
 cases H
 refine aJ [] (by decide) ?_
 exact gK rfl (bM rfl) (bM rfl) rfl
 refine Z6 ?_
 cases H
 refine aJ [] (by decide) ?_
 exact gK rfl (bM rfl) (bM rfl) rfl
def aCH (a0 : Int) (a1 : Int) : Option (Int × Int) :=
 (shrI .u64 a0 32).bind fun z1 =>
 (shrI .u64 a1 32).bind fun z2 =>
 (shrI .u64 (IntKind.wrap .u64 ((andI .u64 a0 4294967295) * (andI .u64 a1 4294967295))) 32).bind fun z3 =>
 (shrI .u64 (IntKind.wrap .u64 ((IntKind.wrap .u64 (z1 * (andI .u64 a1 4294967295))) + z3)) 32).bind fun z4 =>
 (shrI .u64 (IntKind.wrap .u64 ((andI .u64 (IntKind.wrap .u64 ((IntKind.wrap .u64 (z1 * (andI .u64 a1 4294967295))) + z3)) 4294967295) + (IntKind.wrap .u64 ((andI .u64 a0 4294967295) * z2)))) 32).bind fun z5 =>
 some (IntKind.wrap .u64 ((IntKind.wrap .u64 ((IntKind.wrap .u64 (z1 * z2)) + z4)) + z5), IntKind.wrap .u64 (a0 * a1))
theorem aF7  (a0 : Int) (a1 : Int) (r : Int × Int) (H : aCH a0 a1 = some r) : FnS Tryz.prog 116 [aA .u64 a0, aA .u64 a1] [] (dH [aA .u64 r.1, aA .u64 r.2]) (fun _ => []) := by
 unfold aCH at H
 refine bB Tryz.func116 rfl Tryz.ntmps116 rfl (fun β => ?_)
 revert H; refine B11 fun z1 h1 H => ?_
 revert H; refine B10 fun z2 h2 H => ?_
 refine Z12 ?_
 revert H; refine B2 fun z3 h3 H => ?_
 revert H; refine B11 fun z4 h4 H => ?_
 refine Z12 ?_
 revert H; refine B6 fun z5 h5 H => ?_
 refine Z11 ?_
 cases H
 exact gK rfl (bM rfl) (bM rfl) rfl
def aCd (a0 : Int) (a1 : Int) : Option (Int × Int) :=
 (aCH a0 a1).bind fun y1 =>
 some (y1.1, y1.2)
theorem aF4  (a0 : Int) (a1 : Int) (r : Int × Int) (H : aCd a0 a1 = some r) : FnS Tryz.prog 100 [aA .u64 a0, aA .u64 a1] [] (dH [aA .u64 r.1, aA .u64 r.2]) (fun _ => []) := by
 unfold aCd at H
 refine bB Tryz.func100 rfl Tryz.ntmps100 rfl (fun β => ?_)
 refine Z4 ?_
 refine aG ?_
 revert H; refine B6 fun y1 h1 H => ?_
 refine Tc (aF7 _ _ _ h1) ?_
 refine Z12 ?_
 refine Z1 ?_
 cases H
 exact gK rfl (bM rfl) (bM rfl) rfl
end Go.Proofs.YtmnbfgeljmhekaaGreat
set_option maxRecDepth 100000
set_option maxHeartbeats 2000000
namespace Go.Proofs.YtmnbfgeljmhekaaGreat
open Go.SX Go.SW Go.Dt
attribute [local irreducible] Code.wpIn wpListIn Exit.then Exit.inBlock
def tE  : Nat → (List Int) → Int → Option (List Int)
| 0, _, _ => none
| k + 1, x4, x5 =>
 if x5 < (x4.length : Int) then
  (slc x4 x5 (x4.length : Int)).bind fun y3 =>
  (slc x4 0 x5).bind fun y4 =>
  (chk (x5 + ((min (Int.toNat x5 - Int.toNat 0) (Int.toNat (x4.length : Int) - Int.toNat x5) : Nat) : Int))).bind fun z1 =>
  tE k (cpy x4 (List.drop (Int.toNat 0) x4) (Int.toNat x5) (min (Int.toNat x5 - Int.toNat 0) (Int.toNat (x4.length : Int) - Int.toNat x5))) z1
 else
  some x4
def rM (fuel : Nat) (a0 : List Int) (a1 : Int) : Option (List Int) :=
 if a1 < 0 then
  none
 else
  (aCd (IntKind.wrap .u64 (a0.length : Int)) (IntKind.wrap .u64 a1)).bind fun y1 =>
  if 0 < y1.1 then
   none
  else
   if 9223372036854775807 < y1.2 then
    none
   else
    (mk 0 (IntKind.wrap .i64 y1.2)).bind fun y2 =>
    (tE fuel (cpy y2 a0 0 (min a0.length y2.length)) ((min a0.length y2.length : Nat) : Int)).bind fun x1 =>
    some x1
theorem aBP (fuel : Nat)  (a0 : List Int) (a1 : Int) (r : List Int) (H : rM fuel a0 a1 = some r) : FnS Tryz.prog 80 [fSl (aB .i64) a0, aA .i64 a1] [] fAny (fun v => [(fun v => aE v 30 (aB .i64) r) v]) := by
 unfold rM at H
 refine bB Tryz.func80 rfl Tryz.ntmps80 rfl (fun β => ?_)
 refine Z3 ?_
 refine aG ?_
 revert H; refine I4 (fun c1 H => ?_) fun c1 H => ?_
 refine Z2 ?_
 refine Yy (mK rfl hh aB9) ?_
 cases H
 refine Z6 ?_
 refine Yy (sW rfl hh tW aBn) ?_
 refine Z1 ?_
 refine Yy (sW rfl hh tW aBn) ?_
 revert H; refine bs fun y1 h1 H => ?_
 refine Tc (aF4 _ _ _ h1) ?_
 refine Z6 ?_
 refine aG ?_
 revert H; refine I4 (fun c2 H => ?_) fun c2 H => ?_
 refine Z6 ?_
 refine Yy (mK rfl hh aB9) ?_
 cases H
 revert H; refine I4 (fun c3 H => ?_) fun c3 H => ?_
 refine Z2 ?_
 refine Yy (mK rfl hh aB9) ?_
 cases H
 refine Z5 ?_
 refine Yy (sW rfl hh aBn tW) ?_
 revert H; refine bs fun y2 h2 H => ?_
 refine Tn (lA (t := (aB .i64)) (z := 0) rfl (has rfl) (et rfl) rfl ty_ze_30 rfl h2) fun b1 => ?_
 generalize (Value.slice (some ⟨b1, 0, none⟩) _ _) = v1
 refine aS 0 rfl (fun hc_v1 => ?_)
 refine Z5 ?_
 refine T_copyF (ys := a0) trivial rfl rfl rfl (has rfl) (has rfl) (et rfl) ?_
 revert H; refine B2 fun o1 H Hr1 => ?_
 refine aW (ι := List Int) (fun i => o1 = i) (fun i => [(7, fEq v1)]) (fun i => [aE v1 30 (aB .i64) i]) ?_ ?_
 refine Z1 ?_
 refine Tl (ι := Nat × List Int × Int) (fun i => tE i.1 i.2.1 i.2.2 = _) (fun i => i.1) (fun i => [(7, fEq v1), (8, aA .i64 i.2.2)]) (fun i => [aE v1 30 (aB .i64) i.2.1]) (fuel, cpy y2 a0 0 (min a0.length y2.length), ((min a0.length y2.length : Nat) : Int)) H ?_
 clear H; rintro ⟨k1, x4, x5⟩ H
 replace H : tE k1 x4 x5 = _ := H
 try dsimp only
 obtain _ | k1 := k1
 rw [tE] at H; cases H
 rw [tE] at H
 refine aG ?_
 revert H; refine I6 (fun c4 H => ?_) fun c4 H => ?_
 revert H; refine B4 fun y3 h3 H => ?_
 revert H; refine bs fun y4 h4 H => ?_
 revert H; refine bs fun z1 h5 H => ?_
 apply bE (ods := [_, _, _, _, _, _, _, _, _, _]) 10 0 1 bF rfl rfl rfl
 refine ND ?_
 refine M3 ?_
 intros
 refine Mo 0 rfl (aEP (l := x5) (h := (x4.length : Int)) rfl hh (yU hh) yG (el rfl) h3) fun _ => ?_
 refine M2 ?_
 intros
 refine Mo 0 rfl (aEP (l := 0) (h := x5) rfl hh yG (yU hh) (el rfl) h4) fun _ => ?_
 refine N_copyR (od := odC [0] true (aA .i64 ((min (Int.toNat x5 - Int.toNat 0) (Int.toNat (x4.length : Int) - Int.toNat x5) : Nat) : Int)) [aE v1 30 (aB .i64) (cpy x4 (List.drop (Int.toNat 0) x4) (Int.toNat x5) (min (Int.toNat x5 - Int.toNat 0) (Int.toNat (x4.length : Int) - Int.toNat x5)))]) (p := 0) rfl (fun _ => rfl) (fun _ => rfl) trivial rfl rfl rfl rfl (has rfl) (has rfl) (et rfl) ⟨(aAa h3).1, (aAa h3).2, (aAa h4).1, (aAa h4).2⟩ (fun _ => ?_)
 refine M2 ?_
 intros
 refine Z4 ?_
 exact Tm ((k1, cpy x4 (List.drop (Int.toNat 0) x4) (Int.toNat x5) (min (Int.toNat x5 - Int.toNat 0) (Int.toNat (x4.length : Int) - Int.toNat x5)), z1)) ⟨H, ls⟩
 exact fk
 kernel_rfl
 refine Z6 ?_
 exact Tm (x4) (ij H)
 clear H; intro x1 hi; subst o1; have H := Hr1; clear Hr1; try dsimp only at H
 try dsimp only
 refine Z5 ?_
 cases H
 exact pH rfl (bM rfl) (fun _ _ _ => trivial) rfl
def nN (fuel : Nat) (y1 : ScopeDef) : Nat → Int → (List (List Int)) → Option (List (List Int))
| 0, _, _ => none
| k + 1, x10, x11 =>
 if x10 < (y1.Chans.length : Int) then
  (idx y1.Chans x10).bind fun y4 =>
  (rM fuel [1] y4.Many).bind fun y5 =>
  (dD (x11 ++ ([y5] : List (List Int)))).bind fun z1 =>
  (chk (x10 + 1)).bind fun z2 =>
  nN fuel y1 k z2 z1
 else
  some x11
def nG (fuel : Nat) (a0 : Usage_text) : Nat → (List UsageDef) → Int → Option (List UsageDef)
| 0, _, _ => none
| k + 1, x4, x5 =>
 if x5 < (a0.ScopeProg.Defs.length : Int) then
  ((idx a0.ScopeProg.Defs x5).bind fun y1 =>
  (rM fuel [1] (y1.Chans.length : Int)).bind fun y2 =>
  (rM fuel [1] (y1.Rules.length : Int)).bind fun y3 =>
  (nN fuel y1 fuel 0 []).bind fun x7 =>
  (dD (x4 ++ ([(⟨y2, y3, x7⟩ : UsageDef)] : List UsageDef))).bind fun z3 =>
  some z3).bind fun x6 =>
  (chk (x5 + 1)).bind fun z4 =>
  nG fuel a0 k x6 z4
 else
  some x4
def tG (fuel : Nat) (a0 : Usage_text) : Option (List UsageDef) :=
 (nG fuel a0 fuel [] 0).bind fun x1 =>
 some x1
theorem aG7 (fuel : Nat)  (a0 : Usage_text) (r : List UsageDef) (H : tG fuel a0 = some r) : FnS Tryz.prog 37 [aF bG a0] [] fAny (fun v => [(fun v => bR v 61 dM r) v]) := by
 unfold tG at H
 refine bB Tryz.func37 rfl Tryz.ntmps37 rfl (fun β => ?_)
 revert H; refine B6 fun o1 H Hr1 => ?_
 refine aW (ι := List UsageDef × Value) (fun i => o1 = i.1) (fun i => [(3, fEq i.2)]) (fun i => [bR i.2 61 dM i.1]) ?_ ?_
 refine Z10 ?_
 refine wV dM 61 ?_
 refine Tl (ι := Nat × List UsageDef × Int × Value) (fun i => nG fuel a0 i.1 i.2.1 i.2.2.1 = _) (fun i => i.1) (fun i => [(3, fEq i.2.2.2), (13, fSl aI a0.ScopeProg.Defs), (14, aA .i64 (a0.ScopeProg.Defs.length : Int)), (15, aA .i64 i.2.2.1)]) (fun i => [bR i.2.2.2 61 dM i.2.1]) (fuel, [], 0, (.slice none 0 0)) H ?_
 clear H; rintro ⟨k1, x4, x5, v3⟩ H
 replace H : nG fuel a0 k1 x4 x5 = _ := H
 try dsimp only
 obtain _ | k1 := k1
 rw [nG] at H; cases H
 rw [nG] at H
 refine eG 0 rfl (fun hc_v3 => ?_)
 refine Z3 ?_
 refine aG ?_
 revert H; refine is (fun c1 H => ?_) fun c1 H => ?_
 revert H; refine B3 fun o2 H Hr2 => ?_
 refine aW (ι := List UsageDef × Value) (fun i => o2 = i.1) (fun i => [(13, fSl aI a0.ScopeProg.Defs), (14, aA .i64 (a0.ScopeProg.Defs.length : Int)), (15, aA .i64 x5), (3, fEq i.2)]) (fun i => [bR i.2 61 dM i.1]) ?_ ?_
 revert H; refine B2 fun y1 h1 H => ?_
 refine Z2 ?_
 refine Tn (cL rfl tS rfl) fun b1 => ?_
 refine dG (φs' := [fSl bC y1.Chans, fSl bV y1.Spots, fSl bH y1.Rules]) trivial rfl rfl (has rfl) (has rfl) (aO (aZ) (aO (aZ) (aO (aZ) bX))) (sz rfl) rfl rfl rfl ?_
 refine Z1 ?_
 refine aG ?_
 revert H; refine bs fun y2 h2 H => ?_
 revert H; refine bs fun y3 h3 H => ?_
 apply bE (ods := [_, _, _, _, _, _, _, _, _, _, _, _, _]) 13 3 5 bF rfl rfl rfl
 refine ND ?_
 refine Mf (φ := fSl (aB .i64) [1]) (cJ (t := (aB .i64)) (xs := [1]) rfl (et rfl) (aP.cons rfl (has rfl) (aT (aD trivial)) aP.nil) rfl rfl rfl) (fun b => cG) fun _ => ?_
 refine M3 ?_
 intros
 refine aBQ (od := odN [2] true (fun _ v6 => eH v6) (fun _ v6 => [aE v6 30 (aB .i64) y2])) (p := 2) (τ := fun v => aE v 30 (aB .i64) y2) rfl (fun _ => rfl) (fun _ => rfl) trivial rfl rfl rfl (has rfl) (aK.cons (has rfl) (aK.cons (has rfl) aK.nil)) rfl (cb rfl) (aBP fuel [1] (y1.Chans.length : Int) y2 h2) (fun _ => dS) (fun u1 v6 => ?_)
 refine Mf (φ := fSl (aB .i64) [1]) (cJ (t := (aB .i64)) (xs := [1]) rfl (et rfl) (aP.cons rfl (has rfl) (aT (aD trivial)) aP.nil) rfl rfl rfl) (fun b => cG) fun _ => ?_
 refine M3 ?_
 intros
 refine aBQ (od := odN [3] true (fun _ v8 => eH v8) (fun _ v8 => [aE v8 30 (aB .i64) y3])) (p := 3) (τ := fun v => aE v 30 (aB .i64) y3) rfl (fun _ => rfl) (fun _ => rfl) trivial rfl rfl rfl (has rfl) (aK.cons (has rfl) (aK.cons (has rfl) aK.nil)) rfl (cb rfl) (aBP fuel [1] (y1.Rules.length : Int) y3 h3) (fun _ => dS) (fun u2 v8 => ?_)
 refine D2 4 9 _ v6 _ v8 (fun _ v6 _ v8 => eD [eH v6, eH v8, fEq (.slice none 0 0)]) rfl rfl (dO (ψs := [eH v6, eH v8, fEq (.slice none 0 0)]) rfl aAT rfl (aU.cons (has rfl) (aT (jI)) (aU.cons (has rfl) (aT (jI)) aU.nil)) rfl) (fun _ => ?_)
 refine Mn 4 (fun b4 => ptr b4) (fun b4 => aC b4 61 [fEq (.slice none 0 0), fEq (.slice none 0 0), fEq (.slice none 0 0)]) rfl (cL rfl sT rfl) (fun b4 u3 => ?_)
 refine vV (od := od3 4 9 11 [4] true (fun _ v6 _ v8 b4 _ => fAny) (fun _ v6 _ v8 b4 _ => [aC b4 61 [eH v6, eH v8, fEq (.slice none 0 0)]])) (p := 4) (φs' := [eH v6, eH v8, fEq (.slice none 0 0)]) rfl (fun _ => rfl) (fun _ => rfl) trivial rfl rfl rfl (has rfl) (has rfl) (aO (jI) (aO (jI) (aO (aD trivial) bX))) (sz rfl) rfl rfl rfl (fun _ => ?_)
 refine Z1 ?_
 refine kY 23 rfl gU ?_
 refine kY 28 rfl gU ?_
 refine kY 29 rfl (fZ (aM.cons gU (aM.cons gU (aM.cons Ent.rfl aM.nil)))) ?_
 refine aS 2 rfl (fun hc_v6 => ?_)
 refine aS 3 rfl (fun hc_v8 => ?_)
 refine bI ?_
 refine T_blkE (aM.cons gU (aM.cons gU (aM.cons Ent.rfl aM.nil))) ?_
 revert H; refine B1 fun o3 H Hr3 => ?_
 refine aW (ι := List (List Int) × Value) (fun i => o3 = i.1) (fun i => [(3, fEq v3), (13, fSl aI a0.ScopeProg.Defs), (14, aA .i64 (a0.ScopeProg.Defs.length : Int)), (15, aA .i64 x5), (6, fEq (ptr b4))]) (fun i => [aC b4 61 [fEq v6, fEq v8, fEq i.2], aC b1 99 [fSl bC y1.Chans, fSl bV y1.Spots, fSl bH y1.Rules], bR v3 61 dM x4, aE v6 30 (aB .i64) y2, aE v8 30 (aB .i64) y3, bR i.2 58 (cN 30 (aB .i64)) i.1]) ?_ ?_
 refine Z7 ?_
 refine wV (cN 30 (aB .i64)) 58 ?_
 refine aJ [1, 2, 3, 4, 5, 0] (by decide) ?_
 refine Tl (ι := Nat × Int × List (List Int) × Value) (fun i => nN fuel y1 i.1 i.2.1 i.2.2.1 = _) (fun i => i.1) (fun i => [(3, fEq v3), (13, fSl aI a0.ScopeProg.Defs), (14, aA .i64 (a0.ScopeProg.Defs.length : Int)), (15, aA .i64 x5), (6, fEq (ptr b4)), (31, fSl bC y1.Chans), (32, aA .i64 (y1.Chans.length : Int)), (33, aA .i64 i.2.1)]) (fun i => [aC b4 61 [fEq v6, fEq v8, fEq i.2.2.2], aC b1 99 [fSl bC y1.Chans, fSl bV y1.Spots, fSl bH y1.Rules], bR v3 61 dM x4, aE v6 30 (aB .i64) y2, aE v8 30 (aB .i64) y3, bR i.2.2.2 58 (cN 30 (aB .i64)) i.2.2.1]) (fuel, 0, [], (.slice none 0 0)) H ?_
 clear H; rintro ⟨k2, x10, x11, v11⟩ H
 replace H : nN fuel y1 k2 x10 x11 = _ := H
 try dsimp only
 obtain _ | k2 := k2
 rw [nN] at H; cases H
 rw [nN] at H
 refine eG 5 rfl (fun hc_v11 => ?_)
 refine Z3 ?_
 refine aG ?_
 revert H; refine is (fun c2 H => ?_) fun c2 H => ?_
 refine Z3 ?_
 refine aG ?_
 revert H; refine B2 fun y4 h4 H => ?_
 refine Z2 ?_
 refine Tn (cL rfl aBi rfl) fun b5 => ?_
 refine dG (φs' := [aA .i64 y4.At, aA .i64 y4.Many]) trivial rfl rfl (has rfl) (has rfl) (aO (aD trivial) (aO (aD trivial) bX)) (sz rfl) rfl rfl rfl ?_
 revert H; refine B1 fun y5 h5 H => ?_
 apply bE (ods := [_, _, _, _, _, _, _]) 7 2 9 bF rfl rfl rfl
 refine ND ?_
 refine M2 ?_
 intros
 refine Mf (φ := fSl (aB .i64) [1]) (cJ (t := (aB .i64)) (xs := [1]) rfl (et rfl) (aP.cons rfl (has rfl) (aT (aD trivial)) aP.nil) rfl rfl rfl) (fun b => cG) fun _ => ?_
 refine M2 ?_
 intros
 refine aBQ (od := odN [7] true (fun _ v13 => eH v13) (fun _ v13 => [aE v13 30 (aB .i64) y5])) (p := 7) (τ := fun v => aE v 30 (aB .i64) y5) rfl (fun _ => rfl) (fun _ => rfl) trivial rfl rfl rfl (has rfl) (aK.cons (has rfl) (aK.cons (has rfl) aK.nil)) rfl (cb rfl) (aBP fuel [1] y4.Many y5 h5) (fun _ => dS) (fun u4 v13 => ?_)
 refine N_new (od := odN1 5 [8] true (fun _ v13 b7 _ => fEq (.slice (some ⟨b7, 0, none⟩) 1 1)) (fun _ v13 b7 _ => [aE (.slice (some ⟨b7, 0, none⟩) 1 1) 58 (tF 1) [[⟨eH v13, jI⟩]]])) (p := 8) (f := fun b7 => .slice (some ⟨b7, 0, none⟩) 1 1) (τ := fun b7 => aE (.slice (some ⟨b7, 0, none⟩) 1 1) 58 (tF 1) [[⟨eH v13, jI⟩]]) rfl (fun _ => rfl) (fun _ => rfl) trivial rfl rfl (cJ (t := tF 1) (xs := [[⟨eH v13, jI⟩]]) rfl (et rfl) (aP.cons rfl (has rfl) (aT (jI)) aP.nil) rfl rfl rfl) (fun b7 u5 => ?_)
 refine Z1 ?_
 refine kY 42 rfl gU ?_
 refine aS 7 rfl (fun hc_v13 => ?_)
 generalize (Value.slice (some ⟨b7, 0, none⟩) 1 1) = v14
 refine T_fr8 ?_
 refine sE ?_
 refine T_fr8 ?_
 refine gP (p := 0) (f := (fun v => aE v 30 (aB .i64) y5)) (hf := (fun _ => dS)) rfl gU ?_
 refine rT (o := (cN 30 (aB .i64))) (xs := ([y5] : List (List Int))) rfl rfl rfl ?_
 refine eG 0 rfl (fun hc_v14 => ?_)
 revert H; refine bs fun z1 h6 H => ?_
 refine T_fr7 ?_
 refine cU ?_
 refine zF (q := (cN 30 (aB .i64))) trivial rfl rfl rfl (has rfl) (has rfl) (et rfl) rfl h6 (fun v15 => ?_)
 refine eG 0 rfl (fun hc_v15 => ?_)
 refine Z1 ?_
 refine eB ?_
 refine cX (φs' := [fEq v6, fEq v8, fEq v15]) trivial rfl rfl (has rfl) (has rfl) (aD hc_v15) (sz rfl) rfl rfl ?_
 revert H; refine B4 fun z2 h7 H => ?_
 refine Z3 ?_
 refine aJ [0, 3, 4, 5, 6, 1] (by decide) ?_
 exact Tm ((k2, z2, z1, v15)) ⟨H, ls⟩
 exact fk
 kernel_rfl
 refine Z6 ?_
 exact Tm ((x11, v11)) (ij H)
 clear H; intro i hi; obtain ⟨x7, v9⟩ := i; subst o3; have H := Hr3; clear Hr3; try dsimp only at H
 try dsimp only
 refine eG 5 rfl (fun hc_v9 => ?_)
 refine Z3 ?_
 refine Tn (cJ (t := tF 3) (xs := [[⟨fEq v6, aD hc_v6⟩, ⟨fEq v8, aD hc_v8⟩, ⟨fEq v9, aD hc_v9⟩]]) rfl (et rfl) (aP.cons rfl (has rfl) bJ aP.nil) rfl rfl rfl) fun b8 => ?_
 generalize (Value.slice (some ⟨b8, 0, none⟩) _ _) = v16
 refine sE ?_
 refine bI ?_
 refine gP (p := 0) (f := (fun v => aE v 30 (aB .i64) y2)) (hf := (fun _ => dS)) rfl Ent.rfl ?_
 refine bI ?_
 refine gP (p := 1) (f := (fun v => aE v 30 (aB .i64) y3)) (hf := (fun _ => dS)) rfl Ent.rfl ?_
 refine bI ?_
 refine gP (p := 2) (f := (fun v => bR v 58 (cN 30 (aB .i64)) x7)) (hf := (fun _ => lG)) rfl Ent.rfl ?_
 refine rT (o := dM) (xs := ([(⟨y2, y3, x7⟩ : UsageDef)] : List UsageDef)) rfl rfl rfl ?_
 refine eG 0 rfl (fun hc_v16 => ?_)
 revert H; refine bs fun z3 h8 H => ?_
 refine dZ ?_
 refine cU ?_
 refine zF (q := dM) trivial rfl rfl rfl (has rfl) (has rfl) (et rfl) rfl h8 (fun v17 => ?_)
 refine eG 0 rfl (fun hc_v17 => ?_)
 refine Z4 ?_
 refine aJ [0] (by decide) ?_
 exact Tm ((z3, v17)) (ij H)
 exact fk
 kernel_rfl
 clear H; intro i hi; obtain ⟨x6, v4⟩ := i; subst o2; have H := Hr2; clear Hr2; try dsimp only at H
 try dsimp only
 refine eG 0 rfl (fun hc_v4 => ?_)
 revert H; refine B1 fun z4 h9 H => ?_
 refine Z3 ?_
 exact Tm ((k1, x6, z4, v4)) ⟨H, ls⟩
 refine Z6 ?_
 exact Tm ((x4, v3)) (ij H)
 clear H; intro i hi; obtain ⟨x1, v1⟩ := i; subst o1; have H := Hr1; clear Hr1; try dsimp only at H
 try dsimp only
 refine eG 0 rfl (fun hc_v1 => ?_)
 refine Z5 ?_
 cases H
 exact pH rfl (bM rfl) (fun _ _ _ => trivial) rfl
def qJ (a0 : Usage_text) (a1 : Int) (a2 : Int) : Option (Int) :=
 (idx a0.heads a1).bind fun y1 =>
 (idx a0.sizes y1).bind fun y2 =>
 (chk (y2 + a2)).bind fun z1 =>
 some z1
theorem zL  (a0 : Usage_text) (a1 : Int) (a2 : Int) (r : Int) (H : qJ a0 a1 a2 = some r) : FnS Tryz.prog 42 [aF bG a0, aA .i64 a1, aA .i64 a2] [] (aA .i64 r) (fun _ => []) := by
 unfold qJ at H
 refine bB Tryz.func42 rfl Tryz.ntmps42 rfl (fun β => ?_)
 refine Z3 ?_
 refine aG ?_
 revert H; refine bs fun y1 h1 H => ?_
 revert H; refine bs fun y2 h2 H => ?_
 revert H; refine bs fun z1 h3 H => ?_
 apply bE (ods := [_, _, _, _, _, _, _, _, _, _, _, _, _, _, _, _]) 16 0 0 bF rfl rfl rfl
 refine ND ?_
 refine M8 ?_
 intros
 refine M8 ?_
 intros
 refine Z3 ?_
 cases H
 exact To
 exact fk
 kernel_rfl
def nH (fuel : Nat) (a0 : Usage_text) (a1 : List UsageDef) (a2 : Int) (y1 : ScopeDef) : Nat → (List (List Int)) → Int → (List Int) → Option (List (List Int) × List Int)
| 0, _, _, _ => none
| k + 1, x6, x7, x8 =>
 if x7 < (y1.Chans.length : Int) then
  (idx y1.Chans x7).bind fun y3 =>
  (idx a0.heads a2).bind fun y4 =>
  (qJ a0 a2 x7).bind fun y5 =>
  (pF fuel a0 a1 y4 y5).bind fun y6 =>
  (qF y6).bind fun y7 =>
  (dD (x8 ++ [y7])).bind fun z1 =>
  (mk 0 y3.Many).bind fun y8 =>
  (idx x6 x7).bind fun y9 =>
  (chk (x7 + 1)).bind fun z2 =>
  nH fuel a0 a1 a2 y1 k (x6.set x7.toNat y8) z2 z1
 else
  some (x6, x8)
def mZ (a1 : List UsageDef) (a2 : Int) (y10 : ScopeRule) : Nat → Int → Int → Option (Int)
| 0, _, _ => none
| k + 1, x22, x23 =>
 if x23 < (y10.Joins.length : Int) then
  (idx y10.Joins x23).bind fun y11 =>
  (idx a1 a2).bind fun y12 =>
  (idx y12.Chans y11).bind fun y13 =>
  (lS y13).bind fun y14 =>
  (chk (x23 + 1)).bind fun z3 =>
  mZ a1 a2 y10 k (min x22 y14) z3
 else
  some x22
def nD (fuel : Nat) (a0 : Usage_text) (a1 : List UsageDef) (y10 : ScopeRule) (x27 : List (List Int)) (y20 : Int) (y21 : List Int) : Nat → Int → Int → (List Int) → Option (List (List Int) × Int)
| 0, _, _, _ => none
| k + 1, x35, x36, x37 =>
 if x36 < (y21.length : Int) then
  (idx x27 y20).bind fun y22 =>
  (idx x27 y20).bind fun y23 =>
  (idx x37 x36).bind fun y24 =>
  (fA fuel a0 a1 y10.Node x35).bind fun y25 =>
  (oY y24 y25).bind fun y26 =>
  (idx x37 x36).bind fun y27 =>
  (chk (x35 + 1)).bind fun z6 =>
  (chk (x36 + 1)).bind fun z7 =>
  nD fuel a0 a1 y10 x27 y20 y21 k z6 z7 (x37.set x36.toNat y26)
 else
  some (x27.set y20.toNat x37, x35)
def lW (fuel : Nat) (a0 : Usage_text) (a1 : List UsageDef) (y10 : ScopeRule) (z4 : List Int) : Nat → (List (List Int)) → Int → Int → Option (List (List Int) × List Int)
| 0, _, _, _ => none
| k + 1, x27, x28, x29 =>
 if x29 < (y10.Joins.length : Int) then
  ((idx y10.Joins x29).bind fun y20 =>
  (idx x27 y20).bind fun y21 =>
  nD fuel a0 a1 y10 x27 y20 y21 fuel x28 0 y21).bind fun (x30, x31) =>
  (chk (x29 + 1)).bind fun z8 =>
  lW fuel a0 a1 y10 z4 k x30 x31 z8
 else
  some (x27, z4)
def lI (fuel : Nat) (a0 : Usage_text) (a1 : List UsageDef) (a2 : Int) (y1 : ScopeDef) : Nat → (List (List Int)) → Int → (List Int) → Option (List (List Int) × List Int)
| 0, _, _, _ => none
| k + 1, x14, x15, x16 =>
 if x15 < (y1.Rules.length : Int) then
  ((idx y1.Rules x15).bind fun y10 =>
  (mZ a1 a2 y10 fuel 2 0).bind fun x19 =>
  (qF x19).bind fun y15 =>
  (dD (x16 ++ [y15])).bind fun z4 =>
  (idx a1 a2).bind fun y16 =>
  (idx y16.Rules x15).bind fun y17 =>
  (lS y17).bind fun y18 =>
  if y18 = 0 then
   some (x14, z4)
  else
   (qJ a0 a2 (y1.Chans.length : Int)).bind fun y19 =>
   (chk (y19 + (y1.Spots.length : Int))).bind fun z5 =>
   lW fuel a0 a1 y10 z4 fuel x14 z5 0).bind fun (x17, x18) =>
  (chk (x15 + 1)).bind fun z9 =>
  lI fuel a0 a1 a2 y1 k x17 z9 x18
 else
  some (x14, x16)
def lT (y28 : List Int) : Nat → (List Int) → Int → Option (List Int)
| 0, _, _ => none
| k + 1, x50, x51 =>
 if x51 < (y28.length : Int) then
  (idx y28 x51).bind fun y29 =>
  (qF y29).bind fun y30 =>
  (dD (x50 ++ [y30])).bind fun z10 =>
  (chk (x51 + 1)).bind fun z11 =>
  lT y28 k z10 z11
 else
  some x50
def mY (fuel : Nat) (x9 : List (List Int)) : Nat → (List (List Int)) → Int → (List (List Int)) → Option (List (List Int))
| 0, _, _, _ => none
| k + 1, x42, x43, x44 =>
 if x43 < (x9.length : Int) then
  ((idx x42 x43).bind fun y28 =>
  (lT y28 fuel [] 0).bind fun x47 =>
  (dD (x44 ++ ([x47] : List (List Int)))).bind fun z12 =>
  some (x42.set x43.toNat y28, z12)).bind fun (x45, x46) =>
  (chk (x43 + 1)).bind fun z13 =>
  mY fuel x9 k x45 z13 x46
 else
  some x44
def uL (fuel : Nat) (a0 : Usage_text) (a1 : List UsageDef) (a2 : Int) : Option (UsageDef) :=
 (idx a0.ScopeProg.Defs a2).bind fun y1 =>
 (mk ([] : List Int) (y1.Chans.length : Int)).bind fun y2 =>
 (nH fuel a0 a1 a2 y1 fuel y2 0 []).bind fun (x1, x2) =>
 (lI fuel a0 a1 a2 y1 fuel x1 0 []).bind fun (x9, x10) =>
 (mY fuel x9 fuel x9 0 []).bind fun x38 =>
 some (⟨x2, x10, x38⟩ : UsageDef)
theorem aHg (fuel : Nat)  (a0 : Usage_text) (a1 : List UsageDef) (a2 : Int) (r : UsageDef) (H : uL fuel a0 a1 a2 = some r) : FnS Tryz.prog 81 [aF bG a0, fSl bD a1, aA .i64 a2] [] fAny (fun v => [rJ .agg [.own (fun v => aE v 30 (aB .i64) r.Chans) (fun _ => dS), .own (fun v => aE v 30 (aB .i64) r.Rules) (fun _ => dS), .own (fun v => bR v 58 (cN 30 (aB .i64)) r.Args) (fun _ => lG)] v]) := by
 unfold uL at H
 refine bB Tryz.func81 rfl Tryz.ntmps81 rfl (fun β => ?_)
 refine Z1 ?_
 refine Tn (cL rfl sT rfl) fun b1 => ?_
 revert H; refine B8 fun y1 h1 H => ?_
 refine Z2 ?_
 refine Tn (cL rfl tS rfl) fun b2 => ?_
 refine dG (φs' := [fSl bC y1.Chans, fSl bV y1.Spots, fSl bH y1.Rules]) trivial rfl rfl (has rfl) (has rfl) (aO (aZ) (aO (aZ) (aO (aZ) bX))) (sz rfl) rfl rfl rfl ?_
 refine Z2 ?_
 refine Tn (cL rfl sT rfl) fun b3 => ?_
 revert H; refine B5 fun y2 h2 H => ?_
 obtain ⟨h3, h4⟩ := mk_rep (z' := ([⟨fEq (.slice none 0 0), aD trivial⟩] : List LF)) h2
 refine Tn (lA (t := tF 1) (z := [⟨fEq (.slice none 0 0), aD trivial⟩]) rfl (has rfl) (et rfl) rfl aHU rfl h4) fun b4 => ?_
 generalize (Value.slice (some ⟨b4, 0, none⟩) _ _) = v1
 refine T_nilsD2 (o := (cN 67 (aB .i64))) (ys := y2) h3 rfl nil_tk ?_
 refine eG 0 rfl (fun hc_v1 => ?_)
 revert H; refine B2 fun o1 H Hr1 => ?_
 refine aW (ι := List (List Int) × List Int × Value) (fun i => o1 = (i.1, i.2.1)) (fun i => [(0, aF bG a0), (1, fSl bD a1), (2, aA .i64 a2), (6, fEq (ptr b1)), (7, fEq (ptr b2)), (8, fEq (ptr b3)), (9, fEq v1)]) (fun i => [aC b3 61 [fEq i.2.2, fEq (.slice none 0 0), fEq (.slice none 0 0)], aC b2 99 [fSl bC y1.Chans, fSl bV y1.Spots, fSl bH y1.Rules], aC b1 61 [fEq (.slice none 0 0), fEq (.slice none 0 0), fEq (.slice none 0 0)], bR v1 157 (cN 67 (aB .i64)) i.1, aE i.2.2 30 (aB .i64) i.2.1]) ?_ ?_
 refine Z7 ?_
 refine qC (aB .i64) 30 ?_
 refine aJ [2, 3, 4, 1, 0] (by decide) ?_
 refine Tl (ι := Nat × List (List Int) × Int × List Int × Value) (fun i => nH fuel a0 a1 a2 y1 i.1 i.2.1 i.2.2.1 i.2.2.2.1 = _) (fun i => i.1) (fun i => [(0, aF bG a0), (1, fSl bD a1), (2, aA .i64 a2), (6, fEq (ptr b1)), (7, fEq (ptr b2)), (8, fEq (ptr b3)), (9, fEq v1), (39, fSl bC y1.Chans), (40, aA .i64 (y1.Chans.length : Int)), (41, aA .i64 i.2.2.1)]) (fun i => [aC b3 61 [fEq i.2.2.2.2, fEq (.slice none 0 0), fEq (.slice none 0 0)], aC b2 99 [fSl bC y1.Chans, fSl bV y1.Spots, fSl bH y1.Rules], aC b1 61 [fEq (.slice none 0 0), fEq (.slice none 0 0), fEq (.slice none 0 0)], bR v1 157 (cN 67 (aB .i64)) i.2.1, aE i.2.2.2.2 30 (aB .i64) i.2.2.2.1]) (fuel, y2, 0, [], (.slice none 0 0)) H ?_
 clear H; rintro ⟨k1, x6, x7, x8, v4⟩ H
 replace H : nH fuel a0 a1 a2 y1 k1 x6 x7 x8 = _ := H
 try dsimp only
 obtain _ | k1 := k1
 rw [nH] at H; cases H
 rw [nH] at H
 refine aS 4 rfl (fun hc_v4 => ?_)
 refine Z3 ?_
 refine aG ?_
 revert H; refine is (fun c1 H => ?_) fun c1 H => ?_
 refine Z3 ?_
 refine aG ?_
 revert H; refine B3 fun y3 h5 H => ?_
 refine Z2 ?_
 refine Tn (cL rfl aBi rfl) fun b5 => ?_
 refine Z1 ?_
 refine dG (φs' := [aA .i64 y3.At, aA .i64 y3.Many]) trivial rfl rfl (has rfl) (has rfl) (aO (aD trivial) (aO (aD trivial) bX)) (sz rfl) rfl rfl rfl ?_
 refine Z1 ?_
 refine aG ?_
 revert H; refine bs fun y4 h6 H => ?_
 revert H; refine bs fun y5 h7 H => ?_
 revert H; refine bs fun y6 h8 H => ?_
 revert H; refine bs fun y7 h9 H => ?_
 apply bE (ods := [_, _, _, _, _, _, _, _, _, _, _, _, _, _, _, _, _, _]) 18 0 6 bF rfl rfl rfl
 refine ND ?_
 refine M8 ?_
 intros
 refine M6 ?_
 intros
 refine Nc (zL _ _ _ _ h7) fun _ => ?_
 refine Nc (aIz _ _ _ _ _ _ h8) fun _ => ?_
 refine Nc (zR _ _ h9) fun _ => ?_
 refine Mf (φ := fSl (aB .i64) [y7]) (cJ (t := (aB .i64)) (xs := [y7]) rfl (et rfl) (aP.cons rfl (has rfl) (aT (aD trivial)) aP.nil) rfl rfl rfl) (fun b => cG) fun _ => ?_
 revert H; refine B1 fun z1 h10 H => ?_
 refine nM ?_
 refine oO (ys := [y7]) trivial rfl rfl rfl (has rfl) (has rfl) (et rfl) rfl h10 (fun v6 => ?_)
 refine aS 0 rfl (fun hc_v6 => ?_)
 refine Z1 ?_
 refine eB ?_
 refine cX (φs' := [fEq v6, fEq (.slice none 0 0), fEq (.slice none 0 0)]) trivial rfl rfl (has rfl) (has rfl) (aD hc_v6) (sz rfl) rfl rfl ?_
 revert H; refine B6 fun y8 h11 H => ?_
 refine Tn (lA (t := (aB .i64)) (z := 0) rfl (has rfl) (et rfl) rfl aDq rfl h11) fun b7 => ?_
 generalize (Value.slice (some ⟨b7, 0, none⟩) _ _) = v7
 refine aS 0 rfl (fun hc_v7 => ?_)
 revert H; refine bs fun y9 h12 H => ?_
 refine Yo 6 rfl (lM rfl hh hh (el rfl) h12) ?_
 refine mX ?_
 refine cU ?_
 refine aGJ (z' := y8) (f := (fun v => aE v 67 (aB .i64) y8)) (hf := (fun _ => dS)) trivial rfl rfl rfl (has rfl) (has rfl) hc_v7 (sz rfl) (bN h12) rfl rfl ?_
 revert H; refine B4 fun z2 h13 H => ?_
 refine Z3 ?_
 refine aJ [1, 4, 5, 0, 2] (by decide) ?_
 exact Tm ((k1, x6.set x7.toNat y8, z2, z1, v6)) ⟨H, ls⟩
 exact fk
 kernel_rfl
 refine Z6 ?_
 exact Tm ((x6, x8, v4)) (ij H)
 clear H; intro i hi; obtain ⟨x1, x2, v2⟩ := i; subst o1; have H := Hr1; clear Hr1; try dsimp only at H
 try dsimp only
 refine aS 4 rfl (fun hc_v2 => ?_)
 revert H; refine bs fun o2 H Hr2 => ?_
 refine aW (ι := List (List Int) × List Int × Value) (fun i => o2 = (i.1, i.2.1)) (fun i => [(6, fEq (ptr b1)), (8, fEq (ptr b3)), (9, fEq v1)]) (fun i => [aC b3 61 [fEq v2, fEq i.2.2, fEq (.slice none 0 0)], aC b2 99 [fSl bC y1.Chans, fSl bV y1.Spots, fSl bH y1.Rules], aC b1 61 [fEq (.slice none 0 0), fEq (.slice none 0 0), fEq (.slice none 0 0)], bR v1 157 (cN 67 (aB .i64)) i.1, aE v2 30 (aB .i64) x2, aE i.2.2 30 (aB .i64) i.2.1]) ?_ ?_
 refine Z7 ?_
 refine qC (aB .i64) 30 ?_
 refine aJ [1, 2, 3, 4, 5, 0] (by decide) ?_
 refine Tl (ι := Nat × List (List Int) × Int × List Int × Value) (fun i => lI fuel a0 a1 a2 y1 i.1 i.2.1 i.2.2.1 i.2.2.2.1 = _) (fun i => i.1) (fun i => [(0, aF bG a0), (1, fSl bD a1), (2, aA .i64 a2), (6, fEq (ptr b1)), (7, fEq (ptr b2)), (8, fEq (ptr b3)), (9, fEq v1), (74, fSl bH y1.Rules), (75, aA .i64 (y1.Rules.length : Int)), (76, aA .i64 i.2.2.1)]) (fun i => [aC b3 61 [fEq v2, fEq i.2.2.2.2, fEq (.slice none 0 0)], aC b2 99 [fSl bC y1.Chans, fSl bV y1.Spots, fSl bH y1.Rules], aC b1 61 [fEq (.slice none 0 0), fEq (.slice none 0 0), fEq (.slice none 0 0)], bR v1 157 (cN 67 (aB .i64)) i.2.1, aE v2 30 (aB .i64) x2, aE i.2.2.2.2 30 (aB .i64) i.2.2.2.1]) (fuel, x1, 0, [], (.slice none 0 0)) H ?_
 clear H; rintro ⟨k2, x14, x15, x16, v10⟩ H
 replace H : lI fuel a0 a1 a2 y1 k2 x14 x15 x16 = _ := H
 try dsimp only
 obtain _ | k2 := k2
 rw [lI] at H; cases H
 rw [lI] at H
 refine aS 5 rfl (fun hc_v10 => ?_)
 refine Z3 ?_
 refine aG ?_
 revert H; refine is (fun c2 H => ?_) fun c2 H => ?_
 revert H; refine B3 fun o3 H Hr3 => ?_
 refine aW (ι := List (List Int) × List Int × Value) (fun i => o3 = (i.1, i.2.1)) (fun i => [(0, aF bG a0), (1, fSl bD a1), (2, aA .i64 a2), (6, fEq (ptr b1)), (7, fEq (ptr b2)), (8, fEq (ptr b3)), (9, fEq v1), (74, fSl bH y1.Rules), (75, aA .i64 (y1.Rules.length : Int)), (76, aA .i64 x15)]) (fun i => [aC b3 61 [fEq v2, fEq i.2.2, fEq (.slice none 0 0)], aC b2 99 [fSl bC y1.Chans, fSl bV y1.Spots, fSl bH y1.Rules], aC b1 61 [fEq (.slice none 0 0), fEq (.slice none 0 0), fEq (.slice none 0 0)], bR v1 157 (cN 67 (aB .i64)) i.1, aE v2 30 (aB .i64) x2, aE i.2.2 30 (aB .i64) i.2.1]) ?_ ?_
 revert H; refine B3 fun y10 h14 H => ?_
 refine Z2 ?_
 refine Tn (cL rfl vD rfl) fun b8 => ?_
 refine Z1 ?_
 refine dG (φs' := [aA .i64 y10.At, fSl (aB .i64) y10.Joins, aA .i64 y10.Node]) trivial rfl rfl (has rfl) (has rfl) (aO (aD trivial) (aO (aZ) (aO (aD trivial) bX))) (sz rfl) rfl rfl rfl ?_
 revert H; refine B4 fun o4 H Hr4 => ?_
 refine aW (ι := Int) (fun i => o4 = i) (fun i => [(0, aF bG a0), (1, fSl bD a1), (2, aA .i64 a2), (6, fEq (ptr b1)), (7, fEq (ptr b2)), (8, fEq (ptr b3)), (9, fEq v1), (74, fSl bH y1.Rules), (75, aA .i64 (y1.Rules.length : Int)), (76, aA .i64 x15), (13, fEq (ptr b8)), (12, aA .i64 x15), (14, aA .i64 i)]) (fun i => [aC b8 105 [aA .i64 y10.At, fSl (aB .i64) y10.Joins, aA .i64 y10.Node], aC b3 61 [fEq v2, fEq v10, fEq (.slice none 0 0)], aC b2 99 [fSl bC y1.Chans, fSl bV y1.Spots, fSl bH y1.Rules], aC b1 61 [fEq (.slice none 0 0), fEq (.slice none 0 0), fEq (.slice none 0 0)], bR v1 157 (cN 67 (aB .i64)) x14, aE v2 30 (aB .i64) x2, aE v10 30 (aB .i64) x16]) ?_ ?_
 refine Z7 ?_
 refine Tl (ι := Nat × Int × Int) (fun i => mZ a1 a2 y10 i.1 i.2.1 i.2.2 = _) (fun i => i.1) (fun i => [(0, aF bG a0), (1, fSl bD a1), (2, aA .i64 a2), (6, fEq (ptr b1)), (7, fEq (ptr b2)), (8, fEq (ptr b3)), (9, fEq v1), (74, fSl bH y1.Rules), (75, aA .i64 (y1.Rules.length : Int)), (76, aA .i64 x15), (13, fEq (ptr b8)), (12, aA .i64 x15), (14, aA .i64 i.2.1), (82, fSl (aB .i64) y10.Joins), (83, aA .i64 (y10.Joins.length : Int)), (84, aA .i64 i.2.2)]) (fun i => [aC b8 105 [aA .i64 y10.At, fSl (aB .i64) y10.Joins, aA .i64 y10.Node], aC b3 61 [fEq v2, fEq v10, fEq (.slice none 0 0)], aC b2 99 [fSl bC y1.Chans, fSl bV y1.Spots, fSl bH y1.Rules], aC b1 61 [fEq (.slice none 0 0), fEq (.slice none 0 0), fEq (.slice none 0 0)], bR v1 157 (cN 67 (aB .i64)) x14, aE v2 30 (aB .i64) x2, aE v10 30 (aB .i64) x16]) (fuel, 2, 0) H ?_
 clear H; rintro ⟨k3, x22, x23⟩ H
 replace H : mZ a1 a2 y10 k3 x22 x23 = _ := H
 try dsimp only
 obtain _ | k3 := k3
 rw [mZ] at H; cases H
 rw [mZ] at H
 refine Z3 ?_
 refine aG ?_
 revert H; refine is (fun c3 H => ?_) fun c3 H => ?_
 refine Z3 ?_
 refine aG ?_
 revert H; refine B2 fun y11 h15 H => ?_
 revert H; refine B8 fun y12 h16 H => ?_
 revert H; refine B4 fun y13 h17 H => ?_
 revert H; refine B2 fun y14 h18 H => ?_
 refine Tc (uN _ _ h18) ?_
 revert H; refine B6 fun z3 h19 H => ?_
 refine Z3 ?_
 exact Tm ((k3, min x22 y14, z3)) ⟨H, ls⟩
 refine Z6 ?_
 exact Tm (x22) (ij H)
 clear H; intro x19 hi; subst o4; have H := Hr4; clear Hr4; try dsimp only at H
 try dsimp only
 refine aG ?_
 revert H; refine bs fun y15 h20 H => ?_
 apply bE (ods := [_, _, _, _, _]) 5 0 7 bF rfl rfl rfl
 refine ND ?_
 refine M3 ?_
 intros
 refine Nc (zR _ _ h20) fun _ => ?_
 refine Mf (φ := fSl (aB .i64) [y15]) (cJ (t := (aB .i64)) (xs := [y15]) rfl (et rfl) (aP.cons rfl (has rfl) (aT (aD trivial)) aP.nil) rfl rfl rfl) (fun b => cG) fun _ => ?_
 revert H; refine B1 fun z4 h21 H => ?_
 refine mX ?_
 refine oO (ys := [y15]) trivial rfl rfl rfl (has rfl) (has rfl) (et rfl) rfl h21 (fun v13 => ?_)
 refine aS 0 rfl (fun hc_v13 => ?_)
 refine Z1 ?_
 refine eB ?_
 refine cX (φs' := [fEq v2, fEq v13, fEq (.slice none 0 0)]) trivial rfl rfl (has rfl) (has rfl) (aD hc_v13) (sz rfl) rfl rfl ?_
 refine Z1 ?_
 refine aG ?_
 revert H; refine B3 fun y16 h22 H => ?_
 revert H; refine B4 fun y17 h23 H => ?_
 revert H; refine B2 fun y18 h24 H => ?_
 refine Tc (uN _ _ h24) ?_
 revert H; refine I2 (fun c4 H => ?_) fun c4 H => ?_
 refine Z5 ?_
 refine aJ [0, 3, 4, 5, 6, 1] (by decide) ?_
 exact Tm ((x14, z4, v13)) (ij H)
 refine Z3 ?_
 refine aG ?_
 revert H; refine bs fun y19 h25 H => ?_
 revert H; refine bs fun z5 h26 H => ?_
 apply bE (ods := [_, _, _, _, _, _, _, _, _, _, _]) 11 0 7 bF rfl rfl rfl
 refine ND ?_
 refine M5 ?_
 intros
 refine Nc (zL _ _ _ _ h25) fun _ => ?_
 refine M5 ?_
 intros
 refine Z9 ?_
 refine aJ [0, 2, 3, 4, 5, 6, 1] (by decide) ?_
 refine Tl (ι := Nat × List (List Int) × Int × Int) (fun i => lW fuel a0 a1 y10 z4 i.1 i.2.1 i.2.2.1 i.2.2.2 = _) (fun i => i.1) (fun i => [(0, aF bG a0), (1, fSl bD a1), (2, aA .i64 a2), (6, fEq (ptr b1)), (7, fEq (ptr b2)), (8, fEq (ptr b3)), (9, fEq v1), (74, fSl bH y1.Rules), (75, aA .i64 (y1.Rules.length : Int)), (76, aA .i64 x15), (13, fEq (ptr b8)), (17, aA .i64 i.2.2.1), (128, fSl (aB .i64) y10.Joins), (129, aA .i64 (y10.Joins.length : Int)), (130, aA .i64 i.2.2.2)]) (fun i => [aC b3 61 [fEq v2, fEq v13, fEq (.slice none 0 0)], aC b8 105 [aA .i64 y10.At, fSl (aB .i64) y10.Joins, aA .i64 y10.Node], aC b2 99 [fSl bC y1.Chans, fSl bV y1.Spots, fSl bH y1.Rules], aC b1 61 [fEq (.slice none 0 0), fEq (.slice none 0 0), fEq (.slice none 0 0)], bR v1 157 (cN 67 (aB .i64)) i.2.1, aE v2 30 (aB .i64) x2, aE v13 30 (aB .i64) z4]) (fuel, x14, z5, 0) H ?_
 clear H; rintro ⟨k4, x27, x28, x29⟩ H
 replace H : lW fuel a0 a1 y10 z4 k4 x27 x28 x29 = _ := H
 try dsimp only
 obtain _ | k4 := k4
 rw [lW] at H; cases H
 rw [lW] at H
 refine Z3 ?_
 refine aG ?_
 revert H; refine is (fun c5 H => ?_) fun c5 H => ?_
 revert H; refine B3 fun o5 H Hr5 => ?_
 refine aW (ι := List (List Int) × Int) (fun i => o5 = (i.1, i.2)) (fun i => [(0, aF bG a0), (1, fSl bD a1), (2, aA .i64 a2), (6, fEq (ptr b1)), (7, fEq (ptr b2)), (8, fEq (ptr b3)), (9, fEq v1), (74, fSl bH y1.Rules), (75, aA .i64 (y1.Rules.length : Int)), (76, aA .i64 x15), (13, fEq (ptr b8)), (17, aA .i64 i.2), (128, fSl (aB .i64) y10.Joins), (129, aA .i64 (y10.Joins.length : Int)), (130, aA .i64 x29)]) (fun i => [aC b3 61 [fEq v2, fEq v13, fEq (.slice none 0 0)], aC b8 105 [aA .i64 y10.At, fSl (aB .i64) y10.Joins, aA .i64 y10.Node], aC b2 99 [fSl bC y1.Chans, fSl bV y1.Spots, fSl bH y1.Rules], aC b1 61 [fEq (.slice none 0 0), fEq (.slice none 0 0), fEq (.slice none 0 0)], bR v1 157 (cN 67 (aB .i64)) i.1, aE v2 30 (aB .i64) x2, aE v13 30 (aB .i64) z4]) ?_ ?_
 revert H; refine B2 fun y20 h27 H => ?_
 revert H; refine B7 fun y21 h28 H => ?_
 refine Yo 4 rfl (lM rfl hh hh (el rfl) h28) ?_
 refine bI ?_
 refine rR (i := y20.toNat) (k := 0) (y := y21) (f := (fun v => aE v 67 (aB .i64) y21)) (bN h28) rfl (fun v14 => ?_)
 refine aS 0 rfl (fun hc_v14 => ?_)
 refine Yo 1 rfl (nQ rfl rfl hh (sc rfl) (bN h28) rfl) ?_
 refine Z4 ?_
 refine aJ [2, 3, 4, 5, 1, 6, 7, 0] (by decide) ?_
 refine Tl (ι := Nat × Int × Int × List Int) (fun i => nD fuel a0 a1 y10 x27 y20 y21 i.1 i.2.1 i.2.2.1 i.2.2.2 = _) (fun i => i.1) (fun i => [(0, aF bG a0), (1, fSl bD a1), (2, aA .i64 a2), (6, fEq (ptr b1)), (7, fEq (ptr b2)), (8, fEq (ptr b3)), (9, fEq v1), (74, fSl bH y1.Rules), (75, aA .i64 (y1.Rules.length : Int)), (76, aA .i64 x15), (13, fEq (ptr b8)), (17, aA .i64 i.2.1), (128, fSl (aB .i64) y10.Joins), (129, aA .i64 (y10.Joins.length : Int)), (130, aA .i64 x29), (19, aA .i64 y20), (138, aA .i64 (y21.length : Int)), (139, aA .i64 i.2.2.1)]) (fun i => [aC b3 61 [fEq v2, fEq v13, fEq (.slice none 0 0)], aC b8 105 [aA .i64 y10.At, fSl (aB .i64) y10.Joins, aA .i64 y10.Node], aC b2 99 [fSl bC y1.Chans, fSl bV y1.Spots, fSl bH y1.Rules], aC b1 61 [fEq (.slice none 0 0), fEq (.slice none 0 0), fEq (.slice none 0 0)], pN v1 157 (cN 67 (aB .i64)) x27 (y20.toNat * OTy.sz (cN 67 (aB .i64)) + 0) v14, aE v2 30 (aB .i64) x2, aE v13 30 (aB .i64) z4, aE v14 67 (aB .i64) i.2.2.2]) (fuel, x28, 0, y21) H ?_
 clear H; rintro ⟨k5, x35, x36, x37⟩ H
 replace H : nD fuel a0 a1 y10 x27 y20 y21 k5 x35 x36 x37 = _ := H
 try dsimp only
 obtain _ | k5 := k5
 rw [nD] at H; cases H
 rw [nD] at H
 refine Z3 ?_
 refine aG ?_
 revert H; refine is (fun c6 H => ?_) fun c6 H => ?_
 refine Z3 ?_
 refine aG ?_
 refine Z5 ?_
 refine aG ?_
 revert H; refine bs fun y22 h29 H => ?_
 revert H; refine bs fun y23 h30 H => ?_
 revert H; refine bs fun y24 h31 H => ?_
 revert H; refine bs fun y25 h32 H => ?_
 revert H; refine bs fun y26 h33 H => ?_
 revert H; refine bs fun y27 h34 H => ?_
 apply bE (ods := [_, _, _, _, _, _, _, _, _, _, _, _, _, _, _, _, _, _, _, _, _]) 21 0 8 bF rfl rfl rfl
 refine ND ?_
 refine M2 ?_
 intros
 refine Mo 4 rfl (lM rfl hh hh (el rfl) h29) fun _ => ?_
 refine Mo 4 rfl (nQ rfl rfl hh (sc rfl) (bN h29) rfl) fun _ => ?_
 refine M3 ?_
 intros
 refine Mo 4 rfl (lM rfl hh hh (el rfl) h30) fun _ => ?_
 refine Mo 4 rfl (nQ rfl rfl hh (sc rfl) (bN h30) rfl) fun _ => ?_
 refine M2 ?_
 intros
 refine Mo 7 rfl (iG rfl rfl hh (sc rfl) (bN h31) rfl) fun _ => ?_
 refine M5 ?_
 intros
 refine Nc (aEj _ _ _ _ _ _ h32) fun _ => ?_
 refine Nc (aE6 _ _ _ h33) fun _ => ?_
 refine M1 ?_
 intros
 refine mB (od := odC [7] true (fAny) [aE v14 67 (aB .i64) (x37.set x36.toNat y26)]) (p := 7) (z' := y26) rfl (fun _ => rfl) (fun _ => rfl) trivial rfl rfl rfl rfl (has rfl) (has rfl) (aD trivial) (sz rfl) (bN h34) rfl rfl (fun _ => ?_)
 revert H; refine B4 fun z6 h35 H => ?_
 revert H; refine B6 fun z7 h36 H => ?_
 refine Z3 ?_
 exact Tm ((k5, z6, z7, x37.set x36.toNat y26)) ⟨H, ls⟩
 exact fk
 kernel_rfl
 refine Z7 ?_
 refine bI ?_
 refine T_fr7 ?_
 refine pU (o := (cN 67 (aB .i64))) (i := y20.toNat) (k := 0) (y := y21) (y' := x37) (f := (fun v => aE v 67 (aB .i64) x37)) (hf := (fun _ => dS)) (bN h28) rfl rfl ?_
 refine aJ [1, 2, 3, 4, 0, 5, 6] (by decide) ?_
 exact Tm ((x27.set y20.toNat x37, x35)) (ij H)
 clear H; intro i hi; obtain ⟨x30, x31⟩ := i; subst o5; have H := Hr5; clear Hr5; try dsimp only at H
 try dsimp only
 revert H; refine B1 fun z8 h37 H => ?_
 refine Z3 ?_
 exact Tm ((k4, x30, x31, z8)) ⟨H, ls⟩
 refine Z7 ?_
 refine aJ [0, 2, 3, 4, 5, 6] (by decide) ?_
 exact Tm ((x27, z4, v13)) (ij H)
 exact fk
 kernel_rfl
 exact fk
 kernel_rfl
 clear H; intro i hi; obtain ⟨x17, x18, v11⟩ := i; subst o3; have H := Hr3; clear Hr3; try dsimp only at H
 try dsimp only
 refine aS 5 rfl (fun hc_v11 => ?_)
 revert H; refine B1 fun z9 h38 H => ?_
 refine Z3 ?_
 exact Tm ((k2, x17, z9, x18, v11)) ⟨H, ls⟩
 refine Z6 ?_
 exact Tm ((x14, x16, v10)) (ij H)
 clear H; intro i hi; obtain ⟨x9, x10, v8⟩ := i; subst o2; have H := Hr2; clear Hr2; try dsimp only at H
 try dsimp only
 refine aS 5 rfl (fun hc_v8 => ?_)
 revert H; refine bs fun o6 H Hr6 => ?_
 refine aW (ι := List (List Int) × Value) (fun i => o6 = i.1) (fun i => [(6, fEq (ptr b1)), (8, fEq (ptr b3))]) (fun i => [aC b3 61 [fEq v2, fEq v8, fEq i.2], aC b2 99 [fSl bC y1.Chans, fSl bV y1.Spots, fSl bH y1.Rules], aC b1 61 [fEq (.slice none 0 0), fEq (.slice none 0 0), fEq (.slice none 0 0)], aE v2 30 (aB .i64) x2, aE v8 30 (aB .i64) x10, bR i.2 58 (cN 30 (aB .i64)) i.1]) ?_ ?_
 refine Z2 ?_
 refine Yo 3 rfl (o_lenG rfl hh (us rfl)) ?_
 refine Z3 ?_
 refine wV (cN 30 (aB .i64)) 58 ?_
 refine aJ [1, 2, 3, 4, 5, 6, 0] (by decide) ?_
 refine Tl (ι := Nat × List (List Int) × Int × List (List Int) × Value) (fun i => mY fuel x9 i.1 i.2.1 i.2.2.1 i.2.2.2.1 = _) (fun i => i.1) (fun i => [(6, fEq (ptr b1)), (8, fEq (ptr b3)), (167, fEq v1), (168, aA .i64 (x9.length : Int)), (169, aA .i64 i.2.2.1)]) (fun i => [aC b3 61 [fEq v2, fEq v8, fEq i.2.2.2.2], aC b2 99 [fSl bC y1.Chans, fSl bV y1.Spots, fSl bH y1.Rules], aC b1 61 [fEq (.slice none 0 0), fEq (.slice none 0 0), fEq (.slice none 0 0)], bR v1 157 (cN 67 (aB .i64)) i.2.1, aE v2 30 (aB .i64) x2, aE v8 30 (aB .i64) x10, bR i.2.2.2.2 58 (cN 30 (aB .i64)) i.2.2.2.1]) (fuel, x9, 0, [], (.slice none 0 0)) H ?_
 clear H; rintro ⟨k6, x42, x43, x44, v17⟩ H
 replace H : mY fuel x9 k6 x42 x43 x44 = _ := H
 try dsimp only
 obtain _ | k6 := k6
 rw [mY] at H; cases H
 rw [mY] at H
 refine eG 6 rfl (fun hc_v17 => ?_)
 refine Z3 ?_
 refine aG ?_
 revert H; refine is (fun c7 H => ?_) fun c7 H => ?_
 revert H; refine B3 fun o7 H Hr7 => ?_
 refine aW (ι := List (List Int) × List (List Int) × Value) (fun i => o7 = (i.1, i.2.1)) (fun i => [(6, fEq (ptr b1)), (8, fEq (ptr b3)), (167, fEq v1), (168, aA .i64 (x9.length : Int)), (169, aA .i64 x43)]) (fun i => [aC b3 61 [fEq v2, fEq v8, fEq i.2.2], aC b2 99 [fSl bC y1.Chans, fSl bV y1.Spots, fSl bH y1.Rules], aC b1 61 [fEq (.slice none 0 0), fEq (.slice none 0 0), fEq (.slice none 0 0)], bR v1 157 (cN 67 (aB .i64)) i.1, aE v2 30 (aB .i64) x2, aE v8 30 (aB .i64) x10, bR i.2.2 58 (cN 30 (aB .i64)) i.2.1]) ?_ ?_
 revert H; refine B2 fun y28 h39 H => ?_
 refine Yo 3 rfl (lM rfl hh hh (el rfl) h39) ?_
 refine dZ ?_
 refine rR (i := x43.toNat) (k := 0) (y := y28) (f := (fun v => aE v 67 (aB .i64) y28)) (bN h39) rfl (fun v19 => ?_)
 refine aS 0 rfl (fun hc_v19 => ?_)
 refine Yo 1 rfl (nQ rfl rfl hh (sc rfl) (bN h39) rfl) ?_
 revert H; refine B5 fun o8 H Hr8 => ?_
 refine aW (ι := List Int × Value) (fun i => o8 = i.1) (fun i => [(6, fEq (ptr b1)), (8, fEq (ptr b3)), (167, fEq v1), (168, aA .i64 (x9.length : Int)), (169, aA .i64 x43), (23, fEq i.2)]) (fun i => [aC b3 61 [fEq v2, fEq v8, fEq v17], aC b2 99 [fSl bC y1.Chans, fSl bV y1.Spots, fSl bH y1.Rules], aC b1 61 [fEq (.slice none 0 0), fEq (.slice none 0 0), fEq (.slice none 0 0)], pN v1 157 (cN 67 (aB .i64)) x42 (x43.toNat * OTy.sz (cN 67 (aB .i64)) + 0) v19, aE i.2 30 (aB .i64) i.1, aE v2 30 (aB .i64) x2, aE v8 30 (aB .i64) x10, bR v17 58 (cN 30 (aB .i64)) x44, aE v19 67 (aB .i64) y28]) ?_ ?_
 refine Z6 ?_
 refine qC (aB .i64) 30 ?_
 refine aJ [3, 4, 5, 2, 0, 1, 6, 7, 8] (by decide) ?_
 refine Tl (ι := Nat × List Int × Int × Value) (fun i => lT y28 i.1 i.2.1 i.2.2.1 = _) (fun i => i.1) (fun i => [(6, fEq (ptr b1)), (8, fEq (ptr b3)), (167, fEq v1), (168, aA .i64 (x9.length : Int)), (169, aA .i64 x43), (23, fEq i.2.2.2), (173, fEq v19), (174, aA .i64 (y28.length : Int)), (175, aA .i64 i.2.2.1)]) (fun i => [aC b3 61 [fEq v2, fEq v8, fEq v17], aC b2 99 [fSl bC y1.Chans, fSl bV y1.Spots, fSl bH y1.Rules], aC b1 61 [fEq (.slice none 0 0), fEq (.slice none 0 0), fEq (.slice none 0 0)], pN v1 157 (cN 67 (aB .i64)) x42 (x43.toNat * OTy.sz (cN 67 (aB .i64)) + 0) v19, aE i.2.2.2 30 (aB .i64) i.2.1, aE v19 67 (aB .i64) y28, aE v2 30 (aB .i64) x2, aE v8 30 (aB .i64) x10, bR v17 58 (cN 30 (aB .i64)) x44]) (fuel, [], 0, (.slice none 0 0)) H ?_
 clear H; rintro ⟨k7, x50, x51, v22⟩ H
 replace H : lT y28 k7 x50 x51 = _ := H
 try dsimp only
 obtain _ | k7 := k7
 rw [lT] at H; cases H
 rw [lT] at H
 refine aS 4 rfl (fun hc_v22 => ?_)
 refine Z3 ?_
 refine aG ?_
 revert H; refine is (fun c8 H => ?_) fun c8 H => ?_
 refine Z3 ?_
 refine aG ?_
 revert H; refine B2 fun y29 h40 H => ?_
 refine Z1 ?_
 refine Yo 5 rfl (iG rfl rfl hh (sc rfl) (bN h40) rfl) ?_
 revert H; refine B5 fun y30 h41 H => ?_
 refine Tc (zR _ _ h41) ?_
 refine Tn (cJ (t := (aB .i64)) (xs := [y30]) rfl (et rfl) (aP.cons rfl (has rfl) (aT (aD trivial)) aP.nil) rfl rfl rfl) fun b10 => ?_
 generalize (Value.slice (some ⟨b10, 0, none⟩) _ _) = v23
 refine aS 0 rfl (fun hc_v23 => ?_)
 revert H; refine bs fun z10 h42 H => ?_
 refine nM ?_
 refine cU ?_
 refine aA1 trivial rfl rfl rfl (has rfl) (has rfl) (et rfl) rfl h42 (fun v24 => ?_)
 refine aS 0 rfl (fun hc_v24 => ?_)
 revert H; refine B5 fun z11 h43 H => ?_
 refine Z3 ?_
 refine aJ [1, 2, 3, 4, 0, 5, 6, 7, 8] (by decide) ?_
 exact Tm ((k7, z10, z11, v24)) ⟨H, ls⟩
 refine Z6 ?_
 refine aJ [0, 1, 2, 3, 4, 6, 7, 8, 5] (by decide) ?_
 exact Tm ((x50, v22)) (ij H)
 clear H; intro i hi; obtain ⟨x47, v20⟩ := i; subst o8; have H := Hr8; clear Hr8; try dsimp only at H
 try dsimp only
 refine aS 4 rfl (fun hc_v20 => ?_)
 refine Z4 ?_
 refine Tn (cJ (t := tF 1) (xs := [[⟨fEq v20, aD hc_v20⟩]]) rfl (et rfl) (aP.cons rfl (has rfl) (aT (aD hc_v20)) aP.nil) rfl rfl rfl) fun b11 => ?_
 generalize (Value.slice (some ⟨b11, 0, none⟩) _ _) = v25
 refine sE ?_
 refine nM ?_
 refine gP (p := 0) (f := (fun v => aE v 30 (aB .i64) x47)) (hf := (fun _ => dS)) rfl Ent.rfl ?_
 refine rT (o := (cN 30 (aB .i64))) (xs := ([x47] : List (List Int))) rfl rfl rfl ?_
 refine eG 0 rfl (fun hc_v25 => ?_)
 revert H; refine bs fun z12 h44 H => ?_
 refine T_fr7 ?_
 refine cU ?_
 refine zF (q := (cN 30 (aB .i64))) trivial rfl rfl rfl (has rfl) (has rfl) (et rfl) rfl h44 (fun v26 => ?_)
 refine eG 0 rfl (fun hc_v26 => ?_)
 refine Z1 ?_
 refine cU ?_
 refine cX (φs' := [fEq v2, fEq v8, fEq v26]) trivial rfl rfl (has rfl) (has rfl) (aD hc_v26) (sz rfl) rfl rfl ?_
 refine Z3 ?_
 refine bI ?_
 refine T_fr7 ?_
 refine pU (o := (cN 67 (aB .i64))) (i := x43.toNat) (k := 0) (y := y28) (y' := y28) (f := (fun v => aE v 67 (aB .i64) y28)) (hf := (fun _ => dS)) (bN h39) rfl rfl ?_
 refine aJ [1, 3, 4, 0, 5, 6, 2] (by decide) ?_
 exact Tm ((x42.set x43.toNat y28, z12, v26)) (ij H)
 clear H; intro i hi; obtain ⟨x45, x46, v18⟩ := i; subst o7; have H := Hr7; clear Hr7; try dsimp only at H
 try dsimp only
 refine eG 6 rfl (fun hc_v18 => ?_)
 revert H; refine B1 fun z13 h45 H => ?_
 refine Z3 ?_
 exact Tm ((k6, x45, z13, x46, v18)) ⟨H, ls⟩
 refine Z6 ?_
 refine aJ [0, 1, 2, 4, 5, 6] (by decide) ?_
 exact Tm ((x44, v17)) (ij H)
 clear H; intro i hi; obtain ⟨x38, v15⟩ := i; subst o6; have H := Hr6; clear Hr6; try dsimp only at H
 try dsimp only
 refine eG 5 rfl (fun hc_v15 => ?_)
 refine Z2 ?_
 refine eB ?_
 refine dG (φs' := [fEq v2, fEq v8, fEq v15]) trivial rfl rfl (has rfl) (has rfl) (aO (aD hc_v2) (aO (aD hc_v8) (aO (aD hc_v15) bX))) (sz rfl) rfl rfl rfl ?_
 refine Z2 ?_
 cases H
 refine aJ [0, 3, 4, 5] (by decide) ?_
 exact aFH rfl (ag rfl) (bM rfl) (eL.own (eL.own (eL.own eL.nil))) rfl rfl
end Go.Proofs.YtmnbfgeljmhekaaGreat
set_option maxRecDepth 100000
set_option maxHeartbeats 2000000
namespace Go.Proofs.YtmnbfgeljmhekaaGreat
open Go.SX Go.SW Go.Dt
attribute [local irreducible] Code.wpIn wpListIn Exit.then Exit.inBlock
def nF (fuel : Nat) (a0 : Usage_text) (a1 : List UsageDef) : Nat → (List UsageDef) → Int → Option (List UsageDef)
| 0, _, _ => none
| k + 1, x4, x5 =>
 if x5 < (a0.ScopeProg.Defs.length : Int) then
  (uL fuel a0 a1 x5).bind fun y1 =>
  (dD (x4 ++ ([(⟨y1.Chans, y1.Rules, y1.Args⟩ : UsageDef)] : List UsageDef))).bind fun z1 =>
  (chk (x5 + 1)).bind fun z2 =>
  nF fuel a0 a1 k z1 z2
 else
  some x4
def rG (fuel : Nat) (a0 : Usage_text) (a1 : List UsageDef) : Option (List UsageDef) :=
 (nF fuel a0 a1 fuel [] 0).bind fun x1 =>
 some x1
theorem aFh (fuel : Nat)  (a0 : Usage_text) (a1 : List UsageDef) (r : List UsageDef) (H : rG fuel a0 a1 = some r) : FnS Tryz.prog 38 [aF bG a0, fSl bD a1] [] fAny (fun v => [(fun v => bR v 61 dM r) v]) := by
 unfold rG at H
 refine bB Tryz.func38 rfl Tryz.ntmps38 rfl (fun β => ?_)
 revert H; refine B6 fun o1 H Hr1 => ?_
 refine aW (ι := List UsageDef × Value) (fun i => o1 = i.1) (fun i => [(5, fEq i.2)]) (fun i => [bR i.2 61 dM i.1]) ?_ ?_
 refine Z10 ?_
 refine wV dM 61 ?_
 refine Tl (ι := Nat × List UsageDef × Int × Value) (fun i => nF fuel a0 a1 i.1 i.2.1 i.2.2.1 = _) (fun i => i.1) (fun i => [(0, aF bG a0), (1, fSl bD a1), (5, fEq i.2.2.2), (12, aA .i64 (a0.ScopeProg.Defs.length : Int)), (13, aA .i64 i.2.2.1)]) (fun i => [bR i.2.2.2 61 dM i.2.1]) (fuel, [], 0, (.slice none 0 0)) H ?_
 clear H; rintro ⟨k1, x4, x5, v3⟩ H
 replace H : nF fuel a0 a1 k1 x4 x5 = _ := H
 try dsimp only
 obtain _ | k1 := k1
 rw [nF] at H; cases H
 rw [nF] at H
 refine eG 0 rfl (fun hc_v3 => ?_)
 refine Z3 ?_
 refine aG ?_
 revert H; refine is (fun c1 H => ?_) fun c1 H => ?_
 refine Z3 ?_
 refine aG ?_
 revert H; refine B10 fun y1 h1 H => ?_
 refine rK trivial rfl rfl rfl (has rfl) (aK.cons (has rfl) (aK.cons (has rfl) (aK.cons (has rfl) aK.nil))) rfl (cb rfl) (aHg fuel a0 a1 x5 y1 h1) (Δi := []) rfl (fun v4 => ?_)
 dsimp only [List.append, List.cons_append, List.nil_append]
 refine aE4 (c := .agg) (fs := [.own (fun v => aE v 30 (aB .i64) y1.Chans) (fun _ => dS), .own (fun v => aE v 30 (aB .i64) y1.Rules) (fun _ => dS), .own (fun v => bR v 58 (cN 30 (aB .i64)) y1.Args) (fun _ => lG)]) (fun v5 v6 v7 => ?_)
 dsimp only [List.append, List.cons_append, List.nil_append]
 refine aS 0 rfl (fun hc_v5 => ?_)
 refine aS 1 rfl (fun hc_v6 => ?_)
 refine eG 2 rfl (fun hc_v7 => ?_)
 refine Tn (cJ (t := tF 3) (xs := [[⟨fEq v5, aD hc_v5⟩, ⟨fEq v6, aD hc_v6⟩, ⟨fEq v7, aD hc_v7⟩]]) rfl (et rfl) (aP.cons rfl (has rfl) bJ aP.nil) rfl rfl rfl) fun b1 => ?_
 generalize (Value.slice (some ⟨b1, 0, none⟩) _ _) = v8
 refine sE ?_
 refine cU ?_
 refine gP (p := 0) (f := (fun v => aE v 30 (aB .i64) y1.Chans)) (hf := (fun _ => dS)) rfl Ent.rfl ?_
 refine cU ?_
 refine gP (p := 1) (f := (fun v => aE v 30 (aB .i64) y1.Rules)) (hf := (fun _ => dS)) rfl Ent.rfl ?_
 refine cU ?_
 refine gP (p := 2) (f := (fun v => bR v 58 (cN 30 (aB .i64)) y1.Args)) (hf := (fun _ => lG)) rfl Ent.rfl ?_
 refine rT (o := dM) (xs := ([(⟨y1.Chans, y1.Rules, y1.Args⟩ : UsageDef)] : List UsageDef)) rfl rfl rfl ?_
 refine eG 0 rfl (fun hc_v8 => ?_)
 revert H; refine bs fun z1 h2 H => ?_
 refine zF (q := dM) trivial rfl rfl rfl (has rfl) (has rfl) (et rfl) rfl h2 (fun v9 => ?_)
 refine eG 0 rfl (fun hc_v9 => ?_)
 revert H; refine B5 fun z2 h3 H => ?_
 refine Z3 ?_
 exact Tm ((k1, z1, z2, v9)) ⟨H, ls⟩
 refine Z6 ?_
 exact Tm ((x4, v3)) (ij H)
 clear H; intro i hi; obtain ⟨x1, v1⟩ := i; subst o1; have H := Hr1; clear Hr1; try dsimp only at H
 try dsimp only
 refine eG 0 rfl (fun hc_v1 => ?_)
 refine Z5 ?_
 cases H
 exact pH rfl (bM rfl) (fun _ _ _ => trivial) rfl
theorem aG5 (fuel : Nat)  (a0 : Usage_text) (a1 : List UsageDef) (r : List UsageDef) (H : rG fuel a0 a1 = some r) : FnS Tryz.prog 38 [aF bG a0, fSl bD a1] [] (fSl bD r) (fun _ => []) := (aFh fuel a0 a1 r H).frz (fun v => (mM rfl oH))
def wL (a0 : Int) (a1 : Int) (a2 : Bool) : Option (Bool) :=
 some (decide (a0 = a1))
theorem aHn  (a0 : Int) (a1 : Int) (a2 : Bool) (r : Bool) (H : wL a0 a1 a2 = some r) : FnS Tryz.prog 40 [aA .i64 a0, aA .i64 a1, aH a2] [] (aH r) (fun _ => []) := by
 unfold wL at H
 refine bB Tryz.func40 rfl Tryz.ntmps40 rfl (fun β => ?_)
 refine Z10 ?_
 cases H
 exact To
def nJ (fuel : Nat) (y2 : Usage_text) : Nat → (List UsageDef) → Option (List UsageDef)
| 0, _ => none
| k + 1, x3 =>
 (rG fuel y2 x3).bind fun y4 =>
 (pV fuel x3 y4 (fun x => wL x.1 x.2.1 x.2.2)).bind fun y5 =>
 bif y5 then
  some x3
 else
  nJ fuel y2 k y4
def nA (fuel : Nat) (y2 : Usage_text) (x7 : List UsageDef) (x8 : Int) (y6 : UsageDef) : Nat → (List Int) → Int → Option (List UsageDef)
| 0, _, _ => none
| k + 1, x12, x13 =>
 if x13 < (y6.Chans.length : Int) then
  ((idx x12 x13).bind fun y7 =>
  if y7 = 3 then
   (idx y2.heads x8).bind fun y8 =>
   (qJ y2 x8 x13).bind fun y9 =>
   (lJ fuel y2 y8 y9).bind fun y10 =>
   if y10 = 1 then
    (idx x7 x8).bind fun y11 =>
    (idx x12 x13).bind fun y12 =>
    some (x12.set x13.toNat 2)
   else
    some x12
  else
   some x12).bind fun x14 =>
  (chk (x13 + 1)).bind fun z1 =>
  nA fuel y2 x7 x8 y6 k x14 z1
 else
  some (x7.set x8.toNat ({ y6 with Chans := x12 }))
def kB (fuel : Nat) (y2 : Usage_text) (x1 : List UsageDef) : Nat → (List UsageDef) → Int → Option (List UsageDef)
| 0, _, _ => none
| k + 1, x7, x8 =>
 if x8 < (x1.length : Int) then
  ((idx x7 x8).bind fun y6 =>
  nA fuel y2 x7 x8 y6 fuel y6.Chans 0).bind fun x9 =>
  (chk (x8 + 1)).bind fun z2 =>
  kB fuel y2 x1 k x9 z2
 else
  some x7
def pZ (fuel : Nat) (a0 : ScopeProg) : Option ((List UsageDef) × Int) :=
 (qS fuel (⟨a0.Free, a0.Nodes, a0.Defs, a0.Main⟩ : ScopeProg)).bind fun y1 =>
 if y1 ≠ 0 then
  some (([] : List UsageDef), 2)
 else
  (oX fuel (⟨a0.Free, a0.Nodes, a0.Defs, a0.Main⟩ : ScopeProg)).bind fun y2 =>
  (tG fuel y2).bind fun y3 =>
  (nJ fuel y2 fuel y3).bind fun x1 =>
  (kB fuel y2 x1 fuel x1 0).bind fun x4 =>
  some (x4, 0)
theorem aH5 (fuel : Nat)  (a0 : ScopeProg) (r : (List UsageDef) × Int) (H : pZ fuel a0 = some r) : FnS Tryz.prog 14 [fSt dJ a0] [] fAny (fun v => [rJ .tuple [.own (fun v => bR v 61 dM r.1) (fun _ => lG), .pure (aA .i64 r.2)] v]) := by
 unfold pZ at H
 refine bB Tryz.func14 rfl Tryz.ntmps14 rfl (fun β => ?_)
 refine Z1 ?_
 refine Tn (cD rfl (has rfl) bJ) fun b1 => ?_
 refine Z3 ?_
 refine T_scope ?_
 refine aG ?_
 revert H; refine B2 fun y1 h1 H => ?_
 refine Tc (aCe _ _ _ h1) ?_
 revert H; refine I2 (fun c1 H => ?_) fun c1 H => ?_
 refine Z6 ?_
 refine aEA ?_
 refine wV dM 61 ?_
 cases H
 refine aJ [0] (by decide) ?_
 exact aDo rfl (bM rfl) (bM rfl) (eL.own (eL.pure Ent.rfl (aD trivial) eL.nil))
 revert H; refine B5 fun y2 h2 H => ?_
 refine Tc (aBE _ _ _ h2) ?_
 revert H; refine B4 fun y3 h3 H => ?_
 refine rK trivial rfl rfl rfl (has rfl) (aK.cons (has rfl) aK.nil) rfl (cb rfl) (aG7 fuel y2 y3 h3) (Δi := []) rfl (fun v1 => ?_)
 dsimp only [List.append, List.cons_append, List.nil_append]
 refine eG 0 rfl (fun hc_v1 => ?_)
 refine Z2 ?_
 refine aG ?_
 refine T_label ?_
 revert H; refine B1 fun o1 H Hr1 => ?_
 refine aW (ι := List UsageDef × Value) (fun i => o1 = i.1) (fun i => [(4, aF bG y2), (5, fEq i.2)]) (fun i => [aC b1 26 [fSl aN a0.Free, fSl aL a0.Nodes, fSl aI a0.Defs, aA .i64 a0.Main], bR i.2 61 dM i.1]) ?_ ?_
 refine Z1 ?_
 refine aJ [1, 0] (by decide) ?_
 refine Tl (ι := Nat × List UsageDef × Value) (fun i => nJ fuel y2 i.1 i.2.1 = _) (fun i => i.1) (fun i => [(4, aF bG y2), (5, fEq i.2.2)]) (fun i => [aC b1 26 [fSl aN a0.Free, fSl aL a0.Nodes, fSl aI a0.Defs, aA .i64 a0.Main], bR i.2.2 61 dM i.2.1]) (fuel, y3, v1) H ?_
 clear H; rintro ⟨k1, x3, v4⟩ H
 replace H : nJ fuel y2 k1 x3 = _ := H
 try dsimp only
 obtain _ | k1 := k1
 rw [nJ] at H; cases H
 rw [nJ] at H
 refine eG 1 rfl (fun hc_v4 => ?_)
 refine Z4 ?_
 refine cU ?_
 revert H; refine bs fun y4 h4 H => ?_
 refine aHt (Δl := [bR v4 61 dM x3]) (Δi := []) [(v4, fSl bD x3)] trivial rfl rfl rfl (has rfl) (eE.cons rfl (qP Ent.rfl) (eE.cons rfl (pX 0 rfl) eE.nil)) (cb rfl) (aFh fuel y2 x3 y4 h4) indF_any (fun v τ h => by have : τ = _ := List.mem_singleton.1 h; subst this; exact (aE8 aIj)) (fV.cons (mM rfl oH) fV.nil) rfl (fun v5 => ?_)
 dsimp only [List.append, List.cons_append, List.nil_append]
 refine eG 1 rfl (fun hc_v5 => ?_)
 refine Z2 ?_
 refine aG ?_
 revert H; refine B3 fun y5 h5 H => ?_
 refine xB (Δl := [bR v4 61 dM x3, bR v5 61 dM y4]) (Δi := []) (Δo := []) [(v4, fSl bD x3), (v5, fSl bD y4)] trivial rfl rfl rfl (has rfl) (eE.cons rfl (pX 0 rfl) (eE.cons rfl (pX 1 rfl) (eE.cons rfl (qP (mV (cb rfl) (fun x r hx => aHn x.1 x.2.1 x.2.2 r hx))) eE.nil))) (cb rfl) (aCJ fuel x3 y4 (fun x => wL x.1 x.2.1 x.2.2) y5 h5) sR (fun _ h => nomatch h) (fV.cons (mM rfl oH) (fV.cons (mM rfl oH) fV.nil)) rfl ?_
 dsimp only [List.append, List.cons_append, List.nil_append]
 refine Z1 ?_
 revert H; refine cs (fun c2 H => ?_) fun c2 H => ?_
 refine Z7 ?_
 refine aJ [2, 0] (by decide) ?_
 exact Tm ((x3, v4)) (ij H)
 refine Z9 ?_
 refine aJ [2, 1] (by decide) ?_
 exact Tm ((k1, y4, v5)) ⟨H, ls⟩
 clear H; intro i hi; obtain ⟨x1, v2⟩ := i; subst o1; have H := Hr1; clear Hr1; try dsimp only at H
 try dsimp only
 refine eG 1 rfl (fun hc_v2 => ?_)
 revert H; refine bs fun o2 H Hr2 => ?_
 refine aW (ι := List UsageDef) (fun i => o2 = i) (fun i => [(5, fEq v2)]) (fun i => [aC b1 26 [fSl aN a0.Free, fSl aL a0.Nodes, fSl aI a0.Defs, aA .i64 a0.Main], bR v2 61 dM i]) ?_ ?_
 refine Z2 ?_
 refine Yo 1 rfl (o_lenG rfl hh (us rfl)) ?_
 refine Z3 ?_
 refine Tl (ι := Nat × List UsageDef × Int) (fun i => kB fuel y2 x1 i.1 i.2.1 i.2.2 = _) (fun i => i.1) (fun i => [(4, aF bG y2), (5, fEq v2), (25, aA .i64 (x1.length : Int)), (26, aA .i64 i.2.2)]) (fun i => [aC b1 26 [fSl aN a0.Free, fSl aL a0.Nodes, fSl aI a0.Defs, aA .i64 a0.Main], bR v2 61 dM i.2.1]) (fuel, x1, 0) H ?_
 clear H; rintro ⟨k2, x7, x8⟩ H
 replace H : kB fuel y2 x1 k2 x7 x8 = _ := H
 try dsimp only
 obtain _ | k2 := k2
 rw [kB] at H; cases H
 rw [kB] at H
 refine Z3 ?_
 refine aG ?_
 revert H; refine is (fun c3 H => ?_) fun c3 H => ?_
 revert H; refine B3 fun o3 H Hr3 => ?_
 refine aW (ι := List UsageDef) (fun i => o3 = i) (fun i => [(4, aF bG y2), (5, fEq v2), (25, aA .i64 (x1.length : Int)), (26, aA .i64 x8)]) (fun i => [aC b1 26 [fSl aN a0.Free, fSl aL a0.Nodes, fSl aI a0.Defs, aA .i64 a0.Main], bR v2 61 dM i]) ?_ ?_
 revert H; refine B8 fun y6 h6 H => ?_
 refine Yo 1 rfl (lM rfl hh hh (el rfl) h6) ?_
 refine Yy (nB 0 rfl hh (fa rfl) rfl) ?_
 refine cU ?_
 refine rR (i := x8.toNat) (k := 0) (y := y6) (f := (fun v => aE v 30 (aB .i64) y6.Chans)) (bN h6) rfl (fun v6 => ?_)
 refine aS 0 rfl (fun hc_v6 => ?_)
 refine Yo 1 rfl (nQ rfl rfl hh (sc rfl) (bN h6) rfl) ?_
 refine Z4 ?_
 refine aJ [2, 1, 0] (by decide) ?_
 refine Tl (ι := Nat × List Int × Int) (fun i => nA fuel y2 x7 x8 y6 i.1 i.2.1 i.2.2 = _) (fun i => i.1) (fun i => [(4, aF bG y2), (5, fEq v2), (25, aA .i64 (x1.length : Int)), (26, aA .i64 x8), (7, aA .i64 x8), (33, fEq v6), (34, aA .i64 (y6.Chans.length : Int)), (35, aA .i64 i.2.2)]) (fun i => [aC b1 26 [fSl aN a0.Free, fSl aL a0.Nodes, fSl aI a0.Defs, aA .i64 a0.Main], pN v2 61 dM x7 (x8.toNat * OTy.sz dM + 0) v6, aE v6 30 (aB .i64) i.2.1]) (fuel, y6.Chans, 0) H ?_
 clear H; rintro ⟨k3, x12, x13⟩ H
 replace H : nA fuel y2 x7 x8 y6 k3 x12 x13 = _ := H
 try dsimp only
 obtain _ | k3 := k3
 rw [nA] at H; cases H
 rw [nA] at H
 refine Z3 ?_
 refine aG ?_
 revert H; refine is (fun c4 H => ?_) fun c4 H => ?_
 revert H; refine B3 fun o4 H Hr4 => ?_
 refine aW (ι := List Int) (fun i => o4 = i) (fun i => [(4, aF bG y2), (5, fEq v2), (25, aA .i64 (x1.length : Int)), (26, aA .i64 x8), (7, aA .i64 x8), (33, fEq v6), (34, aA .i64 (y6.Chans.length : Int)), (35, aA .i64 x13)]) (fun i => [aC b1 26 [fSl aN a0.Free, fSl aL a0.Nodes, fSl aI a0.Defs, aA .i64 a0.Main], pN v2 61 dM x7 (x8.toNat * OTy.sz dM + 0) v6, aE v6 30 (aB .i64) i]) ?_ ?_
 revert H; refine B3 fun y7 h7 H => ?_
 refine Z1 ?_
 refine Yo 2 rfl (iG rfl rfl hh (sc rfl) (bN h7) rfl) ?_
 refine Z3 ?_
 refine aG ?_
 revert H; refine is (fun c5 H => ?_) fun c5 H => ?_
 revert H; refine bs fun y8 h8 H => ?_
 revert H; refine bs fun y9 h9 H => ?_
 revert H; refine bs fun y10 h10 H => ?_
 apply bE (ods := [_, _, _, _, _, _, _, _, _, _, _, _, _, _, _, _, _, _]) 18 0 3 bF rfl rfl rfl
 refine ND ?_
 refine M8 ?_
 intros
 refine M6 ?_
 intros
 refine Nc (zL _ _ _ _ h9) fun _ => ?_
 refine Nc (aEB _ _ _ _ _ h10) fun _ => ?_
 refine M2 ?_
 intros
 revert H; refine I2 (fun c6 H => ?_) fun c6 H => ?_
 revert H; refine B4 fun y11 h11 H => ?_
 refine Yo 1 rfl (lM rfl hh hh (el rfl) h11) ?_
 refine Yy (nB 0 rfl hh (fa rfl) rfl) ?_
 refine Yo 1 rfl (nQ rfl rfl hh (sc rfl) (bN h11) rfl) ?_
 revert H; refine B1 fun y12 h12 H => ?_
 refine Z1 ?_
 refine eB ?_
 refine tR (z' := 2) trivial rfl rfl rfl (has rfl) (has rfl) (aD trivial) (sz rfl) (bN h12) rfl rfl ?_
 refine Z3 ?_
 refine aJ [1, 2, 0] (by decide) ?_
 exact Tm (x12.set x13.toNat 2) (ij H)
 refine Z4 ?_
 exact Tm (x12) (ij H)
 exact fk
 kernel_rfl
 apply bE (ods := [_, _, _, _, _, _, _, _, _, _, _, _, _, _, _, _, _, _]) 18 0 3 bF rfl rfl rfl
 refine ND ?_
 refine M8 ?_
 intros
 refine M8 ?_
 intros
 refine M2 ?_
 intros
 refine Z6 ?_
 exact Tm (x12) (ij H)
 exact fk
 kernel_rfl
 clear H; intro x14 hi; subst o4; have H := Hr4; clear Hr4; try dsimp only at H
 try dsimp only
 revert H; refine B1 fun z1 h13 H => ?_
 refine Z3 ?_
 exact Tm ((k3, x14, z1)) ⟨H, ls⟩
 refine Z7 ?_
 refine cU ?_
 refine eB ?_
 refine pU (o := dM) (i := x8.toNat) (k := 0) (y := y6) (y' := { y6 with Chans := x12 }) (f := (fun v => aE v 30 (aB .i64) x12)) (hf := (fun _ => dS)) (bN h6) rfl rfl ?_
 refine aJ [1, 0] (by decide) ?_
 exact Tm (x7.set x8.toNat ({ y6 with Chans := x12 })) (ij H)
 clear H; intro x9 hi; subst o3; have H := Hr3; clear Hr3; try dsimp only at H
 try dsimp only
 revert H; refine B1 fun z2 h14 H => ?_
 refine Z3 ?_
 exact Tm ((k2, x9, z2)) ⟨H, ls⟩
 refine Z6 ?_
 exact Tm (x7) (ij H)
 clear H; intro x4 hi; subst o2; have H := Hr2; clear Hr2; try dsimp only at H
 try dsimp only
 refine Z6 ?_
 refine aEA ?_
 cases H
 refine aJ [1] (by decide) ?_
 exact aDo rfl (bM rfl) (bM rfl) (eL.own (eL.pure Ent.rfl (aD trivial) eL.nil))
theorem aBl (fuel : Nat)  (a0 : ScopeProg) (r : (List UsageDef) × Int) (H : pZ fuel a0 = some r) : FnS Tryz.prog 14 [fSt dJ a0] [] (dH [fSl bD r.1, aA .i64 r.2]) (fun _ => []) := (aH5 fuel a0 r H).frz (fun v => frz_wrap (dX.cons (fun v => (mM rfl oH)) (dX.cons (fun v => frz_pure v) dX.nil)))
def lU (a0 : List Int) (a1 : List Int) : Nat → Int → Option ((Unit) ⊕ (Bool))
| 0, _ => none
| k + 1, x2 =>
 if x2 < (a0.length : Int) then
  (idx a0 x2).bind fun y1 =>
  (idx a1 x2).bind fun y2 =>
  if y1 ≠ y2 then
   (some false).bind fun r => some (Sum.inr r)
  else
   (chk (x2 + 1)).bind fun z1 =>
   lU a0 a1 k z1
 else
  some (Sum.inl ())
def sA (fuel : Nat) (a0 : List Int) (a1 : List Int) : Option (Bool) :=
 if (a0.length : Int) ≠ (a1.length : Int) then
  some false
 else
  (lU a0 a1 fuel 0).bind fun o => match o with
  | Sum.inr r => some r
  | Sum.inl _ =>
  some true
theorem vF (fuel : Nat)  (a0 : List Int) (a1 : List Int) (r : Bool) (H : sA fuel a0 a1 = some r) : FnS Tryz.prog 44 [fSl (aB .i64) a0, fSl (aB .i64) a1] [] (aH r) (fun _ => []) := by
 unfold sA at H
 refine bB Tryz.func44 rfl Tryz.ntmps44 rfl (fun β => ?_)
 refine Z3 ?_
 refine aG ?_
 revert H; refine I7 (fun c1 H => ?_) fun c1 H => ?_
 refine Z5 ?_
 cases H
 exact To
 revert H; refine B3 fun o1 H Hr1 => ?_
 refine aW (ι := Unit) (fun i => o1 = Sum.inl ()) (fun i => []) (fun i => []) ?_ ?_
 refine Z4 ?_
 refine Tl (ι := Nat × Int) (fun i => lU a0 a1 i.1 i.2 = _) (fun i => i.1) (fun i => [(0, fSl (aB .i64) a0), (1, fSl (aB .i64) a1), (5, aA .i64 i.2)]) (fun i => []) (fuel, 0) H ?_
 clear H; rintro ⟨k1, x2⟩ H
 replace H : lU a0 a1 k1 x2 = _ := H
 try dsimp only
 obtain _ | k1 := k1
 rw [lU] at H; cases H
 rw [lU] at H
 refine aG ?_
 revert H; refine I6 (fun c2 H => ?_) fun c2 H => ?_
 refine Z3 ?_
 refine aG ?_
 refine Z1 ?_
 refine aG ?_
 revert H; refine bs fun y1 h1 H => ?_
 revert H; refine bs fun y2 h2 H => ?_
 apply bE (ods := [_, _, _, _, _, _, _, _, _]) 9 0 0 bF rfl rfl rfl
 refine ND ?_
 refine M8 ?_
 intros
 refine M1 ?_
 intros
 revert H; refine I2 (fun c3 H => ?_) fun c3 H => ?_
 revert H; refine B10 fun r1 H e1 => ?_
 cases e1; cases Hr1
 cases H
 exact To
 revert H; refine B6 fun z1 h3 H => ?_
 refine Z3 ?_
 exact Tm ((k1, z1)) ⟨H, ls⟩
 exact fk
 kernel_rfl
 refine Z6 ?_
 exact Tm (()) (ij H)
 clear H; intro i hi; subst o1; have H := Hr1; clear Hr1; try dsimp only at H
 try dsimp only
 refine Z4 ?_
 cases H
 exact To
def kX (fuel : Nat) (a0 : List UsageDef) (a1 : List UsageDef) (x2 : Int) : Nat → Int → Option ((Unit) ⊕ ((Unit) ⊕ (Bool)))
| 0, _ => none
| k + 1, x4 =>
 (idx a0 x2).bind fun y9 =>
 if x4 < (y9.Args.length : Int) then
  (idx a0 x2).bind fun y10 =>
  (idx y10.Args x4).bind fun y11 =>
  (idx a1 x2).bind fun y12 =>
  (idx y12.Args x4).bind fun y13 =>
  (sA fuel y11 y13).bind fun y14 =>
  bif y14 then
   (chk (x4 + 1)).bind fun z1 =>
   kX fuel a0 a1 x2 k z1
  else
   ((some false).bind fun r => some (Sum.inr r)).bind fun r => some (Sum.inr r)
 else
  some (Sum.inl ())
def lL (fuel : Nat) (a0 : List UsageDef) (a1 : List UsageDef) : Nat → Int → Option ((Unit) ⊕ (Bool))
| 0, _ => none
| k + 1, x2 =>
 if x2 < (a0.length : Int) then
  ((idx a0 x2).bind fun y1 =>
  (idx a1 x2).bind fun y2 =>
  (sA fuel y1.Chans y2.Chans).bind fun y3 =>
  bif !y3 then
   ((some false).bind fun r => some (Sum.inr r)).bind fun r => some (Sum.inr r)
  else
   (idx a0 x2).bind fun y4 =>
   (idx a1 x2).bind fun y5 =>
   (sA fuel y4.Rules y5.Rules).bind fun y6 =>
   bif !y6 then
    ((some false).bind fun r => some (Sum.inr r)).bind fun r => some (Sum.inr r)
   else
    (idx a0 x2).bind fun y7 =>
    (idx a1 x2).bind fun y8 =>
    if (y7.Args.length : Int) ≠ (y8.Args.length : Int) then
     ((some false).bind fun r => some (Sum.inr r)).bind fun r => some (Sum.inr r)
    else
     kX fuel a0 a1 x2 fuel 0).bind fun o => match o with
  | Sum.inr r => some r
  | Sum.inl _ =>
  (chk (x2 + 1)).bind fun z2 =>
  lL fuel a0 a1 k z2
 else
  some (Sum.inl ())
def sP (fuel : Nat) (a0 : List UsageDef) (a1 : List UsageDef) : Option (Bool) :=
 if (a0.length : Int) ≠ (a1.length : Int) then
  some false
 else
  (lL fuel a0 a1 fuel 0).bind fun o => match o with
  | Sum.inr r => some r
  | Sum.inl _ =>
  some true
theorem aIy (fuel : Nat)  (a0 : List UsageDef) (a1 : List UsageDef) (r : Bool) (H : sP fuel a0 a1 = some r) : FnS Tryz.prog 16 [fSl bD a0, fSl bD a1] [] (aH r) (fun _ => []) := by
 unfold sP at H
 refine bB Tryz.func16 rfl Tryz.ntmps16 rfl (fun β => ?_)
 refine Z3 ?_
 refine aG ?_
 revert H; refine I7 (fun c1 H => ?_) fun c1 H => ?_
 refine dB (has rfl) c1 ?_
 refine Z4 ?_
 cases H
 exact To
 refine dF (has rfl) c1 ?_
 revert H; refine B2 fun o1 H Hr1 => ?_
 refine aW (ι := Unit) (fun i => o1 = Sum.inl ()) (fun i => []) (fun i => []) ?_ ?_
 refine Z4 ?_
 refine Tl (ι := Nat × Int) (fun i => lL fuel a0 a1 i.1 i.2 = _) (fun i => i.1) (fun i => [(0, fSl bD a0), (1, fSl bD a1), (5, aA .i64 i.2)]) (fun i => []) (fuel, 0) H ?_
 clear H; rintro ⟨k1, x2⟩ H
 replace H : lL fuel a0 a1 k1 x2 = _ := H
 try dsimp only
 obtain _ | k1 := k1
 rw [lL] at H; cases H
 rw [lL] at H
 refine aG ?_
 revert H; refine I6 (fun c2 H => ?_) fun c2 H => ?_
 refine dB (has rfl) c2 ?_
 revert H; refine B2 fun o2 H Hr2 => ?_
 refine aW (ι := Unit) (fun i => o2 = Sum.inl ()) (fun i => [(0, fSl bD a0), (1, fSl bD a1), (5, aA .i64 x2)]) (fun i => []) ?_ ?_
 refine Z1 ?_
 refine aG ?_
 refine aG ?_
 revert H; refine bs fun y1 h1 H => ?_
 revert H; refine bs fun y2 h2 H => ?_
 revert H; refine bs fun y3 h3 H => ?_
 revert H; refine cs (fun c3 H => ?_) fun c3 H => ?_
 apply bE (ods := [_, _, _, _, _, _, _, _, _, _, _, _, _, _, _, _, _, _, _, _, _, _, _, _, _, _, _, _, _, _, _, _, _, _, _, _, _, _, _, _, _]) 41 0 0 bF rfl rfl rfl
 refine ND ?_
 refine M2 ?_
 intros
 refine My (cB rfl hh hh (el rfl) h1) fun _ => ?_
 refine M4 ?_
 intros
 refine My (cB rfl hh hh (el rfl) h2) fun _ => ?_
 refine M2 ?_
 intros
 refine Nc (vF _ _ _ _ h3) fun _ => ?_
 refine M2 ?_
 intros
 refine Mt c3 fun _ => ?_
 refine Mt c3 fun _ => ?_
 refine Mt c3 fun _ => ?_
 refine Mt c3 fun _ => ?_
 refine Mt c3 fun _ => ?_
 refine Mt c3 fun _ => ?_
 refine Mt c3 fun _ => ?_
 refine Mt c3 fun _ => ?_
 refine Mt c3 fun _ => ?_
 refine Mt c3 fun _ => ?_
 refine Mt c3 fun _ => ?_
 refine Mt c3 fun _ => ?_
 refine My (dI rfl hh c3 hh) fun _ => ?_
 refine M8 ?_
 intros
 refine M7 ?_
 intros
 revert H; refine B9 fun r1 H e1 => ?_
 cases e1; cases Hr2
 revert H; refine B3 fun r2 H e2 => ?_
 cases e2; cases Hr1
 cases H
 exact To
 exact fk
 kernel_rfl
 revert H; refine bs fun y4 h4 H => ?_
 revert H; refine bs fun y5 h5 H => ?_
 revert H; refine bs fun y6 h6 H => ?_
 revert H; refine cs (fun c4 H => ?_) fun c4 H => ?_
 apply bE (ods := [_, _, _, _, _, _, _, _, _, _, _, _, _, _, _, _, _, _, _, _, _, _, _, _, _, _, _, _, _, _, _, _, _, _, _, _, _, _, _, _, _]) 41 0 0 bF rfl rfl rfl
 refine ND ?_
 refine M2 ?_
 intros
 refine My (cB rfl hh hh (el rfl) h1) fun _ => ?_
 refine M4 ?_
 intros
 refine My (cB rfl hh hh (el rfl) h2) fun _ => ?_
 refine M2 ?_
 intros
 refine Nc (vF _ _ _ _ h3) fun _ => ?_
 refine M2 ?_
 intros
 refine Mg c3 (bW rfl hh) fun _ => ?_
 refine Mg c3 (bW rfl hh) fun _ => ?_
 refine Mg c3 (cB rfl hh hh (el rfl) h4) fun _ => ?_
 refine Mg c3 (fU (t' := (tSl (aB .i64))) (z := y4.Rules) rfl hh (fa rfl) rfl) fun _ => ?_
 refine Mg c3 (fD rfl hh (sc rfl) rfl) fun _ => ?_
 refine Mg c3 (bW rfl hh) fun _ => ?_
 refine Mg c3 (bW rfl hh) fun _ => ?_
 refine Mg c3 (cB rfl hh hh (el rfl) h5) fun _ => ?_
 refine Mg c3 (fU (t' := (tSl (aB .i64))) (z := y5.Rules) rfl hh (fa rfl) rfl) fun _ => ?_
 refine Mg c3 (fD rfl hh (sc rfl) rfl) fun _ => ?_
 refine Nc (vF _ _ _ _ h6) fun _ => ?_
 refine Mg c3 (kE rfl hh) fun _ => ?_
 refine My (cM rfl hh c3 hh) fun _ => ?_
 refine M1 ?_
 intros
 refine Mt c4 fun _ => ?_
 refine Mt c4 fun _ => ?_
 refine Mt c4 fun _ => ?_
 refine Mt c4 fun _ => ?_
 refine Mt c4 fun _ => ?_
 refine Mt c4 fun _ => ?_
 refine Mt c4 fun _ => ?_
 refine Mt c4 fun _ => ?_
 refine Mt c4 fun _ => ?_
 refine Mt c4 fun _ => ?_
 refine Mt c4 fun _ => ?_
 refine Mt c4 fun _ => ?_
 refine Mt c4 fun _ => ?_
 refine My (dI rfl hh c4 hh) fun _ => ?_
 revert H; refine B9 fun r3 H e3 => ?_
 cases e3; cases Hr2
 revert H; refine B3 fun r4 H e4 => ?_
 cases e4; cases Hr1
 cases H
 exact To
 exact fk
 kernel_rfl
 revert H; refine bs fun y7 h7 H => ?_
 revert H; refine bs fun y8 h8 H => ?_
 apply bE (ods := [_, _, _, _, _, _, _, _, _, _, _, _, _, _, _, _, _, _, _, _, _, _, _, _, _, _, _, _, _, _, _, _, _, _, _, _, _, _, _, _, _]) 41 0 0 bF rfl rfl rfl
 refine ND ?_
 refine M2 ?_
 intros
 refine My (cB rfl hh hh (el rfl) h1) fun _ => ?_
 refine M4 ?_
 intros
 refine My (cB rfl hh hh (el rfl) h2) fun _ => ?_
 refine M2 ?_
 intros
 refine Nc (vF _ _ _ _ h3) fun _ => ?_
 refine M2 ?_
 intros
 refine Mg c3 (bW rfl hh) fun _ => ?_
 refine Mg c3 (bW rfl hh) fun _ => ?_
 refine Mg c3 (cB rfl hh hh (el rfl) h4) fun _ => ?_
 refine Mg c3 (fU (t' := (tSl (aB .i64))) (z := y4.Rules) rfl hh (fa rfl) rfl) fun _ => ?_
 refine Mg c3 (fD rfl hh (sc rfl) rfl) fun _ => ?_
 refine Mg c3 (bW rfl hh) fun _ => ?_
 refine Mg c3 (bW rfl hh) fun _ => ?_
 refine Mg c3 (cB rfl hh hh (el rfl) h5) fun _ => ?_
 refine Mg c3 (fU (t' := (tSl (aB .i64))) (z := y5.Rules) rfl hh (fa rfl) rfl) fun _ => ?_
 refine Mg c3 (fD rfl hh (sc rfl) rfl) fun _ => ?_
 refine Nc (vF _ _ _ _ h6) fun _ => ?_
 refine Mg c3 (kE rfl hh) fun _ => ?_
 refine My (cM rfl hh c3 hh) fun _ => ?_
 refine M1 ?_
 intros
 refine Mg c4 (bW rfl hh) fun _ => ?_
 refine Mg c4 (bW rfl hh) fun _ => ?_
 refine Mg c4 (cB rfl hh hh (el rfl) h7) fun _ => ?_
 refine Mg c4 (fU (t' := (tSl (tSl (aB .i64)))) (z := y7.Args) rfl hh (fa rfl) rfl) fun _ => ?_
 refine Mg c4 (fD rfl hh (sc rfl) rfl) fun _ => ?_
 refine Mg c4 (fR rfl hh (us rfl)) fun _ => ?_
 refine Mg c4 (bW rfl hh) fun _ => ?_
 refine Mg c4 (bW rfl hh) fun _ => ?_
 refine Mg c4 (cB rfl hh hh (el rfl) h8) fun _ => ?_
 refine Mg c4 (fU (t' := (tSl (tSl (aB .i64)))) (z := y8.Args) rfl hh (fa rfl) rfl) fun _ => ?_
 refine Mg c4 (fD rfl hh (sc rfl) rfl) fun _ => ?_
 refine Mg c4 (fR rfl hh (us rfl)) fun _ => ?_
 refine Mg c4 (rL rfl hh hh) fun _ => ?_
 refine My (cM rfl hh c4 hh) fun _ => ?_
 revert H; refine I2 (fun c5 H => ?_) fun c5 H => ?_
 refine dB (has rfl) c5 ?_
 revert H; refine B6 fun r5 H e5 => ?_
 cases e5; cases Hr2
 revert H; refine B3 fun r6 H e6 => ?_
 cases e6; cases Hr1
 cases H
 exact To
 refine dF (has rfl) c5 ?_
 refine Z6 ?_
 refine Tl (ι := Nat × Int) (fun i => kX fuel a0 a1 x2 i.1 i.2 = _) (fun i => i.1) (fun i => [(0, fSl bD a0), (1, fSl bD a1), (5, aA .i64 x2), (6, aA .i64 i.2)]) (fun i => []) (fuel, 0) H ?_
 clear H; rintro ⟨k2, x4⟩ H
 replace H : kX fuel a0 a1 x2 k2 x4 = _ := H
 try dsimp only
 obtain _ | k2 := k2
 rw [kX] at H; cases H
 rw [kX] at H
 refine aG ?_
 revert H; refine B4 fun y9 h9 H => ?_
 refine Yy (cB rfl hh hh (el rfl) h9) ?_
 revert H; refine I5 (fun c6 H => ?_) fun c6 H => ?_
 refine dB (has rfl) c6 ?_
 refine Z2 ?_
 refine aG ?_
 refine Z1 ?_
 refine aG ?_
 revert H; refine bs fun y10 h10 H => ?_
 revert H; refine bs fun y11 h11 H => ?_
 revert H; refine bs fun y12 h12 H => ?_
 revert H; refine bs fun y13 h13 H => ?_
 revert H; refine bs fun y14 h14 H => ?_
 apply bE (ods := [_, _, _, _, _, _, _, _, _, _, _, _, _, _, _, _, _, _]) 18 0 0 bF rfl rfl rfl
 refine ND ?_
 refine M2 ?_
 intros
 refine My (cB rfl hh hh (el rfl) h10) fun _ => ?_
 refine M3 ?_
 intros
 refine My (cB rfl hh hh (el rfl) h11) fun _ => ?_
 refine M3 ?_
 intros
 refine My (cB rfl hh hh (el rfl) h12) fun _ => ?_
 refine M3 ?_
 intros
 refine My (cB rfl hh hh (el rfl) h13) fun _ => ?_
 refine M1 ?_
 intros
 refine Nc (vF _ _ _ _ h14) fun _ => ?_
 refine M1 ?_
 intros
 refine Z2 ?_
 revert H; refine cs (fun c7 H => ?_) fun c7 H => ?_
 refine dF (has rfl) (oV c7) ?_
 revert H; refine B5 fun z1 h15 H => ?_
 refine Yy (fF rfl hh hh h15) ?_
 refine Z2 ?_
 exact Tm ((k2, z1)) ⟨H, ls⟩
 refine dB (has rfl) (oZ c7) ?_
 revert H; refine B10 fun r7 H e7 => ?_
 cases e7; cases Hr2
 revert H; refine B3 fun r8 H e8 => ?_
 cases e8; cases Hr1
 cases H
 exact To
 exact fk
 kernel_rfl
 refine dF (has rfl) c6 ?_
 refine Z6 ?_
 exact Tm (()) (ij H)
 exact fk
 kernel_rfl
 clear H; intro i hi; subst o2; have H := Hr2; clear Hr2; try dsimp only at H
 try dsimp only
 revert H; refine B2 fun z2 h16 H => ?_
 refine Yy (fF rfl hh hh h16) ?_
 refine Z2 ?_
 exact Tm ((k1, z2)) ⟨H, ls⟩
 refine dF (has rfl) c2 ?_
 refine Z5 ?_
 exact Tm (()) (ij H)
 clear H; intro i hi; subst o1; have H := Hr1; clear Hr1; try dsimp only at H
 try dsimp only
 refine Z4 ?_
 cases H
 exact To
def aAe (a0 : Int) (a1 : Int) (a2 : Bool) : Option (Bool) :=
 (lS a0).bind fun y1 =>
 (lS a1).bind fun y2 =>
 some (decide (y2 ≤ y1))
theorem aHa  (a0 : Int) (a1 : Int) (a2 : Bool) (r : Bool) (H : aAe a0 a1 a2 = some r) : FnS Tryz.prog 45 [aA .i64 a0, aA .i64 a1, aH a2] [] (aH r) (fun _ => []) := by
 unfold aAe at H
 refine bB Tryz.func45 rfl Tryz.ntmps45 rfl (fun β => ?_)
 revert H; refine B5 fun y1 h1 H => ?_
 refine Tc (uN _ _ h1) ?_
 revert H; refine B1 fun y2 h2 H => ?_
 refine Tc (uN _ _ h2) ?_
 refine Z4 ?_
 cases H
 exact To
end Go.Proofs.YtmnbfgeljmhekaaGreat
