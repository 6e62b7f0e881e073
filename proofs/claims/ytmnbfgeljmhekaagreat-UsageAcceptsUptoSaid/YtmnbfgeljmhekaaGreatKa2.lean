/- Parts of the proof: lemmas, and the steps through the program. -/
import Derived.Test.YtmnbfgeljmhekaaGreatKa1
set_option linter.unusedVariables false
set_option linter.unusedSimpArgs false
set_option maxRecDepth 100000
set_option maxHeartbeats 2000000
namespace Go.Proofs.YtmnbfgeljmhekaaGreat
open Go.SX Go.SW Go.Dt
attribute [local irreducible] Code.wpIn wpListIn Exit.then Exit.inBlock
def aAY (a0 : Scope_speaks) : Option (Int) :=
 some 0
theorem aFc  (a0 : Scope_speaks) (r : Int) (H : aAY a0 = some r) : FnS Tryz.prog 148 [fSt aGb a0] [] (aA .i64 r) (fun _ => []) := by
 unfold aAY at H
 refine bJ Tryz.func148 rfl Tryz.ntmps148 rfl (fun β => ?_)
 refine Z1 ?_
 refine Tn (cF rfl (has rfl) bO) fun b1 => ?_
 refine Z6 ?_
 cases H
 refine aH [] (by decide) ?_
 exact To
def aAz (a0 : Scope_travels) : Option (Int) :=
 some 1
theorem aE6  (a0 : Scope_travels) (r : Int) (H : aAz a0 = some r) : FnS Tryz.prog 149 [fSt aF0 a0] [] (aA .i64 r) (fun _ => []) := by
 unfold aAz at H
 refine bJ Tryz.func149 rfl Tryz.ntmps149 rfl (fun β => ?_)
 refine Z1 ?_
 refine Tn (cF rfl (has rfl) bO) fun b1 => ?_
 refine Z6 ?_
 cases H
 refine aH [] (by decide) ?_
 exact To
def aAy (a0 : Scope_declares) : Option (Int) :=
 some 1
theorem aGN  (a0 : Scope_declares) (r : Int) (H : aAy a0 = some r) : FnS Tryz.prog 150 [fSt aHG a0] [] (aA .i64 r) (fun _ => []) := by
 unfold aAy at H
 refine bJ Tryz.func150 rfl Tryz.ntmps150 rfl (fun β => ?_)
 refine Z1 ?_
 refine Tn (cF rfl (has rfl) bO) fun b1 => ?_
 refine Z6 ?_
 cases H
 refine aH [] (by decide) ?_
 exact To
def aA9 (a0 : Scope_decides) : Option (Int) :=
 some 2
theorem aGs  (a0 : Scope_decides) (r : Int) (H : aA9 a0 = some r) : FnS Tryz.prog 151 [fSt aE4 a0] [] (aA .i64 r) (fun _ => []) := by
 unfold aA9 at H
 refine bJ Tryz.func151 rfl Tryz.ntmps151 rfl (fun β => ?_)
 refine Z1 ?_
 refine Tn (cF rfl (has rfl) bO) fun b1 => ?_
 refine Z6 ?_
 cases H
 refine aH [] (by decide) ?_
 exact To
def aBc (a0 : Int) : Option (Int) :=
 some a0
theorem aGT  (a0 : Int) (r : Int) (H : aBc a0 = some r) : FnS Tryz.prog 152 [aA .i64 a0] [] (aA .i64 r) (fun _ => []) := by
 unfold aBc at H
 refine bJ Tryz.func152 rfl Tryz.ntmps152 rfl (fun β => ?_)
 refine Z8 ?_
 cases H
 exact To
def mM : Value → Option Int
 | .iface 190 (.agg ⟨[]⟩) => aAY ⟨⟩
 | .iface 191 (.agg ⟨[]⟩) => aAz ⟨⟩
 | .iface 192 (.agg ⟨[]⟩) => aAy ⟨⟩
 | .iface 193 (.agg ⟨[]⟩) => aA9 ⟨⟩
 | .iface 197 (.int .i64 n) => aBc n
 | _ => none
theorem aFB (v : Value) (r : Int) (H : mM v = some r) : Inv Tryz.prog v "cabotage/scope.kids" [] (aA .i64 r) := by
 unfold mM at H
 split at H
 ·exact ⟨_, _, 148, rfl, fun w => by kernel_rfl, (cb rfl), (aFc ⟨⟩ r H).args (aP.cons (sE []) aP.nil)⟩
 ·exact ⟨_, _, 149, rfl, fun w => by kernel_rfl, (cb rfl), (aE6 ⟨⟩ r H).args (aP.cons (sE []) aP.nil)⟩
 ·exact ⟨_, _, 150, rfl, fun w => by kernel_rfl, (cb rfl), (aGN ⟨⟩ r H).args (aP.cons (sE []) aP.nil)⟩
 ·exact ⟨_, _, 151, rfl, fun w => by kernel_rfl, (cb rfl), (aGs ⟨⟩ r H).args (aP.cons (sE []) aP.nil)⟩
 ·rename_i n; exact ⟨_, _, 152, rfl, fun w => by kernel_rfl, (cb rfl), (aGT n r H).args aP.rfl⟩
 ·cases H
def nF (fuel : Nat) (a2 : Int) (y7 : ScopeNode) : Nat → Int → Option ((Unit) ⊕ (Scope_looker ⊕ Value))
| 0, _ => none
| k + 1, x8 =>
 if x8 < (y7.Args.length : Int) then
  (idx y7.Args x8).bind fun y27 =>
  (wK fuel (⟨y27.Op, y27.N, y27.Kids⟩ : ScopeExp) a2).bind fun y28 =>
  match y28 with
  | Sum.inr pv16 => (some (Sum.inr pv16)).bind fun r => some (Sum.inr r)
  | Sum.inl y28 =>
  (chk (x8 + 1)).bind fun z1 =>
  nF fuel a2 y7 k z1
 else
  some (Sum.inl ())
def mA (fuel : Nat) (rec_scope_looker_node : Scope_looker → Int → Int → Option (Scope_looker ⊕ Value)) (y30 : ScopeDef) (z2 : Int) : Nat → Int → (List ByteArray) → (List ScopeNode) → (List ScopeDef) → Int → (List Int) → (List Bool) → (List Bool) → Option ((List ByteArray × List ScopeNode × List ScopeDef × Int × List Int × List Bool × List Bool) ⊕ ((Int × List ByteArray × List ScopeNode × List ScopeDef × Int × List Int × List Bool × List Bool) ⊕ (Scope_looker ⊕ Value)))
| 0, _, _, _, _, _, _, _, _ => none
| k + 1, x32, x33, x34, x35, x36, x37, x38, x39 =>
 if x32 < (y30.Rules.length : Int) then
  (idx y30.Rules x32).bind fun y33 =>
  (wF fuel (⟨y30.Chans, y30.Spots, y30.Rules⟩ : ScopeDef) (⟨y33.At, y33.Joins, y33.Node⟩ : ScopeRule)).bind fun y34 =>
  (chk (z2 + y34)).bind fun z3 =>
  (rec_scope_looker_node (⟨(⟨x33, x34, x35, x36⟩ : ScopeProg), x37, x38, x39⟩ : Scope_looker) y33.Node z3).bind fun y35 =>
  match y35 with
  | Sum.inr pv18 => ((some (Sum.inr pv18)).bind fun r => some (Sum.inr r)).bind fun r => some (Sum.inr r)
  | Sum.inl y35 =>
  (chk (x32 + 1)).bind fun z4 =>
  mA fuel rec_scope_looker_node y30 z2 k z4 y35.p.Free y35.p.Nodes y35.p.Defs y35.p.Main y35.sizes y35.met y35.defs
 else
  some (Sum.inl (x33, x34, x35, x36, x37, x38, x39))
def lU (rec_scope_looker_node : Scope_looker → Int → Int → Option (Scope_looker ⊕ Value)) (y30 : ScopeDef) (z2 : Int) : Nat → Int → (List ByteArray) → (List ScopeNode) → (List ScopeDef) → Int → (List Int) → (List Bool) → (List Bool) → Option ((Int × List ByteArray × List ScopeNode × List ScopeDef × Int × List Int × List Bool × List Bool) ⊕ (Scope_looker ⊕ Value))
| 0, _, _, _, _, _, _, _, _ => none
| k + 1, x48, x49, x50, x51, x52, x53, x54, x55 =>
 if x48 < (y30.Spots.length : Int) then
  (idx y30.Spots x48).bind fun y36 =>
  (rec_scope_looker_node (⟨(⟨x49, x50, x51, x52⟩ : ScopeProg), x53, x54, x55⟩ : Scope_looker) y36.Node z2).bind fun y37 =>
  match y37 with
  | Sum.inr pv19 => (some (Sum.inr pv19)).bind fun r => some (Sum.inr r)
  | Sum.inl y37 =>
  (chk (x48 + 1)).bind fun z5 =>
  lU rec_scope_looker_node y30 z2 k z5 y37.p.Free y37.p.Nodes y37.p.Defs y37.p.Main y37.sizes y37.met y37.defs
 else
  some (Sum.inl (z2, x49, x50, x51, x52, x53, x54, x55))
def mT (rec_scope_looker_node : Scope_looker → Int → Int → Option (Scope_looker ⊕ Value)) (y7 : ScopeNode) (x9 : Int) : Nat → Int → (List ByteArray) → (List ScopeNode) → (List ScopeDef) → Int → (List Int) → (List Bool) → (List Bool) → Option (Scope_looker ⊕ Value)
| 0, _, _, _, _, _, _, _, _ => none
| k + 1, x64, x65, x66, x67, x68, x69, x70, x71 =>
 if x64 < (y7.Kids.length : Int) then
  (idx y7.Kids x64).bind fun y38 =>
  (rec_scope_looker_node (⟨(⟨x65, x66, x67, x68⟩ : ScopeProg), x69, x70, x71⟩ : Scope_looker) y38 x9).bind fun y39 =>
  match y39 with
  | Sum.inr pv20 => some (Sum.inr pv20)
  | Sum.inl y39 =>
  (chk (x64 + 1)).bind fun z6 =>
  mT rec_scope_looker_node y7 x9 k z6 y39.p.Free y39.p.Nodes y39.p.Defs y39.p.Main y39.sizes y39.met y39.defs
 else
  some (Sum.inl (⟨(⟨x65, x66, x67, x68⟩ : ScopeProg), x69, x70, x71⟩ : Scope_looker))
def fA : Nat → Scope_looker → Int → Int → Option (Scope_looker ⊕ Value)
| 0, _, _, _ => none
| fuel + 1, a0, a1, a2 =>
 (if 0 ≤ a1 then
  if a1 < (a0.p.Nodes.length : Int) then
   (idx a0.met a1).bind fun y1 =>
   (bV (!y1)).bind fun y2 =>
   match y2 with
   | Sum.inr pv1 => (some (Sum.inr pv1)).bind fun r => some (Sum.inr r)
   | Sum.inl y2 =>
   some (Sum.inl ())
  else
   (bV false).bind fun y3 =>
   match y3 with
   | Sum.inr pv2 => (some (Sum.inr pv2)).bind fun r => some (Sum.inr r)
   | Sum.inl y3 =>
   some (Sum.inl ())
 else
  (bV false).bind fun y4 =>
  match y4 with
  | Sum.inr pv3 => (some (Sum.inr pv3)).bind fun r => some (Sum.inr r)
  | Sum.inl y4 =>
  some (Sum.inl ())).bind fun o => match o with
 | Sum.inr r => some r
 | Sum.inl _ =>
 (idx a0.met a1).bind fun y5 =>
 (idx a0.sizes a1).bind fun y6 =>
 (idx a0.p.Nodes a1).bind fun y7 =>
 (jO y7.Op).bind fun y8 =>
 ((hQ y8).bind fun x1 =>
 bif !x1 then
  (mM y8).bind fun y9 =>
  (bV (decide ((y7.Kids.length : Int) = y9))).bind fun y10 =>
  match y10 with
  | Sum.inr pv4 => (some (Sum.inr pv4)).bind fun r => some (Sum.inr r)
  | Sum.inl y10 =>
  some (Sum.inl ())
 else
  (bV false).bind fun y11 =>
  match y11 with
  | Sum.inr pv5 => (some (Sum.inr pv5)).bind fun r => some (Sum.inr r)
  | Sum.inl y11 =>
  some (Sum.inl ())).bind fun o => match o with
 | Sum.inr r => some r
 | Sum.inl _ =>
 ((eS 190 (.agg #[]) y8).bind fun y12 =>
 match y12 with
 | (u1, x3) =>
 bif x3 then
  if 0 ≤ y7.N then
   (bV (decide (y7.N < a2))).bind fun y13 =>
   match y13 with
   | Sum.inr pv6 => (some (Sum.inr pv6)).bind fun r => some (Sum.inr r)
   | Sum.inl y13 =>
   some (Sum.inl (min (y7.Args.length : Int) 3))
  else
   (bV false).bind fun y14 =>
   match y14 with
   | Sum.inr pv7 => (some (Sum.inr pv7)).bind fun r => some (Sum.inr r)
   | Sum.inl y14 =>
   some (Sum.inl (min (y7.Args.length : Int) 3))
 else
  (eS 191 (.agg #[]) y8).bind fun y15 =>
  match y15 with
  | (u2, x4) =>
  bif x4 then
   if 0 ≤ y7.N then
    (bV (decide (y7.N < a2))).bind fun y16 =>
    match y16 with
    | Sum.inr pv8 => (some (Sum.inr pv8)).bind fun r => some (Sum.inr r)
    | Sum.inl y16 =>
    some (Sum.inl 0)
   else
    (bV false).bind fun y17 =>
    match y17 with
    | Sum.inr pv9 => (some (Sum.inr pv9)).bind fun r => some (Sum.inr r)
    | Sum.inl y17 =>
    some (Sum.inl 0)
  else
   (eS 192 (.agg #[]) y8).bind fun y18 =>
   match y18 with
   | (u3, x5) =>
   bif x5 then
    if 0 ≤ y7.N then
     if y7.N < (a0.p.Defs.length : Int) then
      (idx a0.defs y7.N).bind fun y19 =>
      (bV (!y19)).bind fun y20 =>
      match y20 with
      | Sum.inr pv10 => (some (Sum.inr pv10)).bind fun r => some (Sum.inr r)
      | Sum.inl y20 =>
      some (Sum.inl 0)
     else
      (bV false).bind fun y21 =>
      match y21 with
      | Sum.inr pv11 => (some (Sum.inr pv11)).bind fun r => some (Sum.inr r)
      | Sum.inl y21 =>
      some (Sum.inl 0)
    else
     (bV false).bind fun y22 =>
     match y22 with
     | Sum.inr pv12 => (some (Sum.inr pv12)).bind fun r => some (Sum.inr r)
     | Sum.inl y22 =>
     some (Sum.inl 0)
   else
    (eS 193 (.agg #[]) y8).bind fun y23 =>
    match y23 with
    | (u4, x6) =>
    bif x6 then
     (bV (decide (y7.N = 0))).bind fun y24 =>
     match y24 with
     | Sum.inr pv13 => (some (Sum.inr pv13)).bind fun r => some (Sum.inr r)
     | Sum.inl y24 =>
     some (Sum.inl 1)
    else
     (bV (decide (y7.N = 0))).bind fun y25 =>
     match y25 with
     | Sum.inr pv14 => (some (Sum.inr pv14)).bind fun r => some (Sum.inr r)
     | Sum.inl y25 =>
     some (Sum.inl 0)).bind fun o => match o with
 | Sum.inr r => some r
 | Sum.inl x2 =>
 (bV (decide ((y7.Args.length : Int) = x2))).bind fun y26 =>
 match y26 with
 | Sum.inr pv15 => some (Sum.inr pv15)
 | Sum.inl y26 =>
 (nF fuel a2 y7 fuel 0).bind fun o => match o with
 | Sum.inr r => some r
 | Sum.inl _ =>
 (if y7.Op = 4 then
  (idx a0.defs y7.N).bind fun y29 =>
  (idx a0.p.Defs y7.N).bind fun y30 =>
  (tL fuel (⟨y30.Chans, y30.Spots, y30.Rules⟩ : ScopeDef)).bind fun y31 =>
  match y31 with
  | Sum.inr pv17 => (some (Sum.inr pv17)).bind fun r => some (Sum.inr r)
  | Sum.inl y31 =>
  (tY (⟨y30.Chans, y30.Spots, y30.Rules⟩ : ScopeDef)).bind fun y32 =>
  (chk (a2 + y32)).bind fun z2 =>
  (mA fuel (fA fuel) y30 z2 fuel 0 a0.p.Free a0.p.Nodes a0.p.Defs a0.p.Main (a0.sizes.set a1.toNat a2) (a0.met.set a1.toNat true) (a0.defs.set y7.N.toNat true)).bind fun o => match o with
  | Sum.inr r => some r
  | Sum.inl (x17, x18, x19, x20, x21, x22, x23) =>
  lU (fA fuel) y30 z2 fuel 0 x17 x18 x19 x20 x21 x22 x23
 else
  some (Sum.inl (a2, a0.p.Free, a0.p.Nodes, a0.p.Defs, a0.p.Main, a0.sizes.set a1.toNat a2, a0.met.set a1.toNat true, a0.defs))).bind fun o => match o with
 | Sum.inr r => some r
 | Sum.inl (x9, x10, x11, x12, x13, x14, x15, x16) =>
 mT (fA fuel) y7 x9 fuel 0 x10 x11 x12 x13 x14 x15 x16
theorem aER : ∀ (fuel : Nat), (∀ (p0 : Nat) (a0 : Scope_looker) (a1 : Int) (a2 : Int) (r : Scope_looker ⊕ Value) (H : fA fuel a0 a1 a2 = some r), FnE Tryz.prog 110 [fEq (.pointer (some ⟨p0, 0, none⟩)), aA .i64 a1, aA .i64 a2] [aAi p0 a0] r (fun r => dC []) (fun r => [aAi p0 r])) := by
 intro fuel
 induction fuel with
 | zero => exact fun p0 a0 a1 a2 r H => (by rw [fA] at H; cases H)
 | succ fuel ih =>
 have ih_scope_looker_node := ih
 refine ?_
 intro p0 a0 a1 a2 r H
 rw [fA] at H
 refine sC Tryz.func110 rfl Tryz.ntmps110 rfl (fun β => ?_)
 refine xE (fun v1 v2 v3 => ?_)
 refine aN 1 rfl (fun hc_v1 => ?_)
 refine aN 2 rfl (fun hc_v2 => ?_)
 refine aN 3 rfl (fun hc_v3 => ?_)
 revert H; refine bs fun o1 H Hr1 => ?_
 refine aR (ι := Unit) (fun i => o1 = Sum.inl ()) (fun i => [(0, fEq (ptr p0)), (1, aA .i64 a1), (2, aA .i64 a2)]) (fun i => [aC p0 151 [fSl aM a0.p.Free, fSl aK a0.p.Nodes, fSl aI a0.p.Defs, aA .i64 a0.p.Main, fEq v1, fEq v2, fEq v3], aD v1 3 (aB .i64) a0.sizes, aD v2 4 cG a0.met, aD v3 4 cG a0.defs]) ?_ ?_
 revert H; refine I4 (fun c1 H => ?_) fun c1 H => ?_
 revert H; refine I10 (fun c2 H => ?_) fun c2 H => ?_
 revert H; refine B5 fun y1 h1 H => ?_
 refine Z1 ?_
 refine Yh 2 rfl c2 (jW rfl rfl hh (sc rfl) (cB h1) rfl) ?_
 revert H; refine B2 fun y2 h2 H => ?_
 rcases y2 with y2 | pv1 <;> dsimp only at H
 refine Tc (bI _ _ h2).s ?_
 refine Z1 ?_
 exact Tm (()) (ij H)
 refine Tp (bI _ _ h2).pan ?_
 revert H; refine B1 fun r1 H e1 => ?_
 cases e1; cases Hr1
 cases H
 exact cD
 revert H; refine B9 fun y3 h3 H => ?_
 rcases y3 with y3 | pv2 <;> dsimp only at H
 refine Tc (bI _ _ h3).s ?_
 refine Z1 ?_
 exact Tm (()) (ij H)
 refine Tp (bI _ _ h3).pan ?_
 revert H; refine B1 fun r2 H e2 => ?_
 cases e2; cases Hr1
 cases H
 exact cD
 refine Z12 ?_
 revert H; refine B7 fun y4 h4 H => ?_
 rcases y4 with y4 | pv3 <;> dsimp only at H
 refine Tc (bI _ _ h4).s ?_
 refine Z1 ?_
 exact Tm (()) (ij H)
 refine Tp (bI _ _ h4).pan ?_
 revert H; refine B1 fun r3 H e3 => ?_
 cases e3; cases Hr1
 cases H
 exact cD
 clear H; intro i hi; subst o1; have H := Hr1; clear Hr1; try dsimp only at H
 try dsimp only
 refine aG ?_
 revert H; refine bs fun y5 h5 H => ?_
 revert H; refine bs fun y6 h6 H => ?_
 apply bC (ods := [_, _, _, _, _, _, _, _, _, _, _, _, _, _, _]) 15 0 4 bB rfl rfl rfl
 refine ND ?_
 refine M8 ?_
 intros
 refine M4 ?_
 intros
 refine qB (od := odC [2] true (fAny) [aD v2 4 cG (a0.met.set a1.toNat true)]) (p := 2) (z' := true) rfl (fun _ => rfl) (fun _ => rfl) trivial rfl rfl rfl rfl (has rfl) (has rfl) (aE trivial) (sz rfl) (cB h5) rfl rfl (fun _ => ?_)
 refine M1 ?_
 intros
 refine qB (od := odC [1] true (fAny) [aD v1 3 (aB .i64) (a0.sizes.set a1.toNat a2)]) (p := 1) (z' := a2) rfl (fun _ => rfl) (fun _ => rfl) trivial rfl rfl rfl rfl (has rfl) (has rfl) (aE trivial) (sz rfl) (cB h6) rfl rfl (fun _ => ?_)
 revert H; refine B9 fun y7 h7 H => ?_
 refine Z2 ?_
 refine Tn (bZ rfl hZ rfl) fun b1 => ?_
 refine cS (φs' := [aA .i64 y7.Op, aA .i64 y7.N, fSl bD y7.Args, fSl (aB .i64) y7.Kids]) trivial rfl rfl (has rfl) (has rfl) (aJ (aE trivial) (aJ (aE trivial) (aJ (bA) (aJ (bA) bP)))) (sz rfl) rfl rfl rfl ?_
 revert H; refine B4 fun y8 h8 H => ?_
 refine Tc (aFz _ _ h8) ?_
 revert H; refine B2 fun o2 H Hr2 => ?_
 refine aR (ι := Unit) (fun i => o2 = Sum.inl ()) (fun i => [(0, fEq (ptr p0)), (2, aA .i64 a2), (6, fEq (ptr b1)), (7, eE y8)]) (fun i => [aC b1 51 [aA .i64 y7.Op, aA .i64 y7.N, fSl bD y7.Args, fSl (aB .i64) y7.Kids], aC p0 151 [fSl aM a0.p.Free, fSl aK a0.p.Nodes, fSl aI a0.p.Defs, aA .i64 a0.p.Main, fEq v1, fEq v2, fEq v3], aD v1 3 (aB .i64) (a0.sizes.set a1.toNat a2), aD v2 4 cG (a0.met.set a1.toNat true), aD v3 4 cG a0.defs]) ?_ ?_
 revert H; refine bs fun x1 h9 H => ?_
 revert H; refine cs (fun c3 H => ?_) fun c3 H => ?_
 revert H; refine bs fun y9 h10 H => ?_
 apply bC (ods := [_, _, _, _, _, _, _, _, _, _]) 10 0 5 bB rfl rfl rfl
 refine ND ?_
 refine M1 ?_
 intros
 refine My (zV rfl (dM rfl gQ) aCc h9) fun _ => ?_
 refine M5 ?_
 intros
 refine N_callI (od := odC [] true (aA .i64 y9) []) (Φ := aA .i64 y9) rfl (fun _ => rfl) ⟨_, _, rfl, rfl, c3⟩ rfl rfl (dM rfl gQ) aO.nil (aFB y8 y9 h10) (fun _ => ?_)
 refine M2 ?_
 intros
 revert H; refine B1 fun y10 h11 H => ?_
 rcases y10 with y10 | pv4 <;> dsimp only at H
 refine Tc (bI _ _ h11).s ?_
 refine Z1 ?_
 exact Tm (()) (ij H)
 refine Tp (bI _ _ h11).pan ?_
 revert H; refine B1 fun r4 H e4 => ?_
 cases e4; cases Hr2
 cases H
 exact cD
 exact fk
 kernel_rfl
 apply bC (ods := [_, _, _, _, _, _, _, _, _, _]) 10 0 5 bB rfl rfl rfl
 refine ND ?_
 refine M1 ?_
 intros
 refine My (zV rfl (dM rfl gQ) aCc h9) fun _ => ?_
 refine M8 ?_
 intros
 revert H; refine B1 fun y11 h12 H => ?_
 rcases y11 with y11 | pv5 <;> dsimp only at H
 refine Tc (bI _ _ h12).s ?_
 refine Z1 ?_
 exact Tm (()) (ij H)
 refine Tp (bI _ _ h12).pan ?_
 revert H; refine B1 fun r5 H e5 => ?_
 cases e5; cases Hr2
 cases H
 exact cD
 exact fk
 kernel_rfl
 clear H; intro i hi; subst o2; have H := Hr2; clear Hr2; try dsimp only at H
 try dsimp only
 revert H; refine B3 fun o3 H Hr3 => ?_
 refine aR (ι := Int) (fun i => o3 = Sum.inl i) (fun i => [(0, fEq (ptr p0)), (2, aA .i64 a2), (6, fEq (ptr b1)), (8, aA .i64 i)]) (fun i => [aC b1 51 [aA .i64 y7.Op, aA .i64 y7.N, fSl bD y7.Args, fSl (aB .i64) y7.Kids], aC p0 151 [fSl aM a0.p.Free, fSl aK a0.p.Nodes, fSl aI a0.p.Defs, aA .i64 a0.p.Main, fEq v1, fEq v2, fEq v3], aD v1 3 (aB .i64) (a0.sizes.set a1.toNat a2), aD v2 4 cG (a0.met.set a1.toNat true), aD v3 4 cG a0.defs]) ?_ ?_
 revert H; refine B5 fun y12 h13 H => ?_
 obtain ⟨u1, x3⟩ := y12; dsimp only at H
 refine Yy (vV rfl (dM rfl gQ) aDf aHv h13) ?_
 refine Z3 ?_
 revert H; refine cs (fun c4 H => ?_) fun c4 H => ?_
 refine Z12 ?_
 revert H; refine I1 (fun c5 H => ?_) fun c5 H => ?_
 revert H; refine B5 fun y13 h14 H => ?_
 rcases y13 with y13 | pv6 <;> dsimp only at H
 refine Tc (bI _ _ h14).s ?_
 refine Z3 ?_
 exact Tm (min (y7.Args.length : Int) 3) (ij H)
 refine Tp (bI _ _ h14).pan ?_
 revert H; refine B2 fun r6 H e6 => ?_
 cases e6; cases Hr3
 cases H
 exact cD
 revert H; refine B5 fun y14 h15 H => ?_
 rcases y14 with y14 | pv7 <;> dsimp only at H
 refine Tc (bI _ _ h15).s ?_
 refine Z3 ?_
 exact Tm (min (y7.Args.length : Int) 3) (ij H)
 refine Tp (bI _ _ h15).pan ?_
 revert H; refine B2 fun r7 H e7 => ?_
 cases e7; cases Hr3
 cases H
 exact cD
 revert H; refine B2 fun y15 h16 H => ?_
 obtain ⟨u2, x4⟩ := y15; dsimp only at H
 refine Yy (vV rfl (dM rfl gQ) aEp aHL h16) ?_
 refine Z3 ?_
 revert H; refine cs (fun c6 H => ?_) fun c6 H => ?_
 revert H; refine I6 (fun c7 H => ?_) fun c7 H => ?_
 revert H; refine B5 fun y16 h17 H => ?_
 rcases y16 with y16 | pv8 <;> dsimp only at H
 refine Tc (bI _ _ h17).s ?_
 refine Z3 ?_
 exact Tm (0) (ij H)
 refine Tp (bI _ _ h17).pan ?_
 revert H; refine B2 fun r8 H e8 => ?_
 cases e8; cases Hr3
 cases H
 exact cD
 revert H; refine B5 fun y17 h18 H => ?_
 rcases y17 with y17 | pv9 <;> dsimp only at H
 refine Tc (bI _ _ h18).s ?_
 refine Z3 ?_
 exact Tm (0) (ij H)
 refine Tp (bI _ _ h18).pan ?_
 revert H; refine B2 fun r9 H e9 => ?_
 cases e9; cases Hr3
 cases H
 exact cD
 revert H; refine B2 fun y18 h19 H => ?_
 obtain ⟨u3, x5⟩ := y18; dsimp only at H
 refine Yy (vV rfl (dM rfl gQ) aEL aGB h19) ?_
 refine Z3 ?_
 revert H; refine cs (fun c8 H => ?_) fun c8 H => ?_
 revert H; refine I1 (fun c9 H => ?_) fun c9 H => ?_
 revert H; refine is (fun c10 H => ?_) fun c10 H => ?_
 revert H; refine bs fun y19 h20 H => ?_
 apply bC (ods := [_, _, _, _, _, _, _, _, _, _, _, _, _, _, _, _, _, _, _, _, _, _, _, _, _]) 25 0 5 bB rfl rfl rfl
 refine ND ?_
 refine M8 ?_
 intros
 refine M8 ?_
 intros
 refine M6 ?_
 intros
 refine dR (od := odC [4] false (aL y19) [cQ]) (ps := [4]) (φ := aL y19) rfl (fun _ => rfl) ⟨_, _, rfl, rfl, c10⟩ rfl rfl (jW rfl rfl (has rfl) (sc rfl) (cB h20) rfl) (fun _ => ?_)
 refine M2 ?_
 intros
 revert H; refine B1 fun y20 h21 H => ?_
 rcases y20 with y20 | pv10 <;> dsimp only at H
 refine Tc (bI _ _ h21).s ?_
 refine Z3 ?_
 exact Tm (0) (ij H)
 refine Tp (bI _ _ h21).pan ?_
 revert H; refine B2 fun r10 H e10 => ?_
 cases e10; cases Hr3
 cases H
 exact cD
 exact fk
 kernel_rfl
 apply bC (ods := [_, _, _, _, _, _, _, _, _, _, _, _, _, _, _, _, _, _, _, _, _, _, _, _, _]) 25 0 5 bB rfl rfl rfl
 refine ND ?_
 refine M8 ?_
 intros
 refine M8 ?_
 intros
 refine M8 ?_
 intros
 refine M1 ?_
 intros
 revert H; refine B1 fun y21 h22 H => ?_
 rcases y21 with y21 | pv11 <;> dsimp only at H
 refine Tc (bI _ _ h22).s ?_
 refine Z3 ?_
 exact Tm (0) (ij H)
 refine Tp (bI _ _ h22).pan ?_
 revert H; refine B2 fun r11 H e11 => ?_
 cases e11; cases Hr3
 cases H
 exact cD
 exact fk
 kernel_rfl
 apply bC (ods := [_, _, _, _, _, _, _, _, _, _, _, _, _, _, _, _, _, _, _, _, _, _, _, _, _]) 25 0 5 bB rfl rfl rfl
 refine ND ?_
 refine M8 ?_
 intros
 refine M8 ?_
 intros
 refine M8 ?_
 intros
 refine M1 ?_
 intros
 revert H; refine B1 fun y22 h23 H => ?_
 rcases y22 with y22 | pv12 <;> dsimp only at H
 refine Tc (bI _ _ h23).s ?_
 refine Z3 ?_
 exact Tm (0) (ij H)
 refine Tp (bI _ _ h23).pan ?_
 revert H; refine B2 fun r12 H e12 => ?_
 cases e12; cases Hr3
 cases H
 exact cD
 exact fk
 kernel_rfl
 revert H; refine B2 fun y23 h24 H => ?_
 obtain ⟨u4, x6⟩ := y23; dsimp only at H
 refine Yy (vV rfl (dM rfl gQ) aCN aF4 h24) ?_
 refine Z3 ?_
 revert H; refine cs (fun c11 H => ?_) fun c11 H => ?_
 revert H; refine B8 fun y24 h25 H => ?_
 rcases y24 with y24 | pv13 <;> dsimp only at H
 refine Tc (bI _ _ h25).s ?_
 refine Z3 ?_
 exact Tm (1) (ij H)
 refine Tp (bI _ _ h25).pan ?_
 revert H; refine B2 fun r13 H e13 => ?_
 cases e13; cases Hr3
 cases H
 exact cD
 revert H; refine B5 fun y25 h26 H => ?_
 rcases y25 with y25 | pv14 <;> dsimp only at H
 refine Tc (bI _ _ h26).s ?_
 refine Z3 ?_
 exact Tm (0) (ij H)
 refine Tp (bI _ _ h26).pan ?_
 revert H; refine B2 fun r14 H e14 => ?_
 cases e14; cases Hr3
 cases H
 exact cD
 clear H; intro x2 hi; subst o3; have H := Hr3; clear Hr3; try dsimp only at H
 try dsimp only
 revert H; refine B6 fun y26 h27 H => ?_
 rcases y26 with y26 | pv15 <;> dsimp only at H
 refine Tc (bI _ _ h27).s ?_
 revert H; refine B1 fun o4 H Hr4 => ?_
 refine aR (ι := Unit) (fun i => o4 = Sum.inl ()) (fun i => [(0, fEq (ptr p0)), (2, aA .i64 a2), (6, fEq (ptr b1))]) (fun i => [aC b1 51 [aA .i64 y7.Op, aA .i64 y7.N, fSl bD y7.Args, fSl (aB .i64) y7.Kids], aC p0 151 [fSl aM a0.p.Free, fSl aK a0.p.Nodes, fSl aI a0.p.Defs, aA .i64 a0.p.Main, fEq v1, fEq v2, fEq v3], aD v1 3 (aB .i64) (a0.sizes.set a1.toNat a2), aD v2 4 cG (a0.met.set a1.toNat true), aD v3 4 cG a0.defs]) ?_ ?_
 refine Z7 ?_
 refine Tl (ι := Nat × Int) (fun i => nF fuel a2 y7 i.1 i.2 = _) (fun i => i.1) (fun i => [(0, fEq (ptr p0)), (2, aA .i64 a2), (6, fEq (ptr b1)), (154, fSl bD y7.Args), (155, aA .i64 (y7.Args.length : Int)), (156, aA .i64 i.2)]) (fun i => [aC b1 51 [aA .i64 y7.Op, aA .i64 y7.N, fSl bD y7.Args, fSl (aB .i64) y7.Kids], aC p0 151 [fSl aM a0.p.Free, fSl aK a0.p.Nodes, fSl aI a0.p.Defs, aA .i64 a0.p.Main, fEq v1, fEq v2, fEq v3], aD v1 3 (aB .i64) (a0.sizes.set a1.toNat a2), aD v2 4 cG (a0.met.set a1.toNat true), aD v3 4 cG a0.defs]) (fuel, 0) H ?_
 clear H; rintro ⟨k1, x8⟩ H
 replace H : nF fuel a2 y7 k1 x8 = _ := H
 try dsimp only
 obtain _ | k1 := k1
 rw [nF] at H; cases H
 rw [nF] at H
 refine Z3 ?_
 refine aG ?_
 revert H; refine is (fun c12 H => ?_) fun c12 H => ?_
 refine Z3 ?_
 refine aG ?_
 revert H; refine B2 fun y27 h28 H => ?_
 refine Z2 ?_
 refine Tn (bZ rfl aAl rfl) fun b2 => ?_
 refine cS (φs' := [aA .i64 y27.Op, aA .i64 y27.N, fS y27.Kids]) trivial rfl rfl (has rfl) (has rfl) (aJ (aE trivial) (aJ (aE trivial) (aJ (zR) bP))) (sz rfl) rfl rfl rfl ?_
 revert H; refine B4 fun y28 h29 H => ?_
 rcases y28 with y28 | pv16 <;> dsimp only at H
 refine Tc (aEM _ _ _ _ h29).s ?_
 revert H; refine B4 fun z1 h30 H => ?_
 refine Z3 ?_
 refine aH [1, 2, 3, 4, 5] (by decide) ?_
 exact Tm ((k1, z1)) ⟨H, ls⟩
 refine Tp (aEM _ _ _ _ h29).pan ?_
 revert H; refine B5 fun r15 H e15 => ?_
 cases e15; cases Hr4
 cases H
 exact cD
 refine Z6 ?_
 exact Tm (()) (ij H)
 clear H; intro i hi; subst o4; have H := Hr4; clear Hr4; try dsimp only at H
 try dsimp only
 revert H; refine bs fun o5 H Hr5 => ?_
 refine aR (ι := Int × List ByteArray × List ScopeNode × List ScopeDef × Int × List Int × List Bool × List Bool × Value × Value × Value) (fun i => o5 = Sum.inl (i.1, i.2.1, i.2.2.1, i.2.2.2.1, i.2.2.2.2.1, i.2.2.2.2.2.1, i.2.2.2.2.2.2.1, i.2.2.2.2.2.2.2.1)) (fun i => [(0, fEq (ptr p0)), (2, aA .i64 i.1), (6, fEq (ptr b1))]) (fun i => [aC b1 51 [aA .i64 y7.Op, aA .i64 y7.N, fSl bD y7.Args, fSl (aB .i64) y7.Kids], aC p0 151 [fSl aM i.2.1, fSl aK i.2.2.1, fSl aI i.2.2.2.1, aA .i64 i.2.2.2.2.1, fEq i.2.2.2.2.2.2.2.2.1, fEq i.2.2.2.2.2.2.2.2.2.1, fEq i.2.2.2.2.2.2.2.2.2.2], aD i.2.2.2.2.2.2.2.2.1 3 (aB .i64) i.2.2.2.2.2.1, aD i.2.2.2.2.2.2.2.2.2.1 4 cG i.2.2.2.2.2.2.1, aD i.2.2.2.2.2.2.2.2.2.2 4 cG i.2.2.2.2.2.2.2.1]) ?_ ?_
 revert H; refine I5 (fun c13 H => ?_) fun c13 H => ?_
 refine Z1 ?_
 refine aG ?_
 revert H; refine bs fun y29 h31 H => ?_
 apply bC (ods := [_, _, _, _, _, _, _, _]) 8 0 5 bB rfl rfl rfl
 refine ND ?_
 refine M7 ?_
 intros
 refine qB (od := odC [4] true (fAny) [aD v3 4 cG (a0.defs.set y7.N.toNat true)]) (p := 4) (z' := true) rfl (fun _ => rfl) (fun _ => rfl) trivial rfl rfl rfl rfl (has rfl) (has rfl) (aE trivial) (sz rfl) (cB h31) rfl rfl (fun _ => ?_)
 refine Z2 ?_
 refine aG ?_
 revert H; refine bs fun y30 h32 H => ?_
 apply bC (ods := [_, _, _, _, _, _, _, _, _, _, _]) 11 1 6 bB rfl rfl rfl
 refine ND ?_
 refine M8 ?_
 intros
 refine M1 ?_
 intros
 refine Mn 5 (fun b3 => ptr b3) (fun b3 => aC b3 99 [fEq (.slice none 0 0), fEq (.slice none 0 0), fEq (.slice none 0 0)]) rfl (bZ rfl jD rfl) (fun b3 u5 => ?_)
 refine oT (od := od1 9 [5] true (fun b3 _ => fAny) (fun b3 _ => [aC b3 99 [fSl aU y30.Chans, fSl bH y30.Spots, fSl aZ y30.Rules]])) (p := 5) (φs' := [fSl aU y30.Chans, fSl bH y30.Spots, fSl aZ y30.Rules]) rfl (fun _ => rfl) (fun _ => rfl) trivial rfl rfl rfl (has rfl) (has rfl) (aJ (bA) (aJ (bA) (aJ (bA) bP))) (sz rfl) rfl rfl rfl (fun _ => ?_)
 revert H; refine B4 fun y31 h33 H => ?_
 rcases y31 with y31 | pv17 <;> dsimp only at H
 refine Tc (aCH _ _ _ h33).s ?_
 revert H; refine B4 fun y32 h34 H => ?_
 refine Tc (aGI _ _ h34) ?_
 revert H; refine bs fun z2 h35 H => ?_
 revert H; refine B3 fun o6 H Hr6 => ?_
 refine aR (ι := List ByteArray × List ScopeNode × List ScopeDef × Int × List Int × List Bool × List Bool × Value × Value × Value) (fun i => o6 = Sum.inl (i.1, i.2.1, i.2.2.1, i.2.2.2.1, i.2.2.2.2.1, i.2.2.2.2.2.1, i.2.2.2.2.2.2.1)) (fun i => [(0, fEq (ptr p0)), (2, aA .i64 z2), (6, fEq (ptr b1)), (11, fEq (ptr b3))]) (fun i => [aC b1 51 [aA .i64 y7.Op, aA .i64 y7.N, fSl bD y7.Args, fSl (aB .i64) y7.Kids], aC p0 151 [fSl aM i.1, fSl aK i.2.1, fSl aI i.2.2.1, aA .i64 i.2.2.2.1, fEq i.2.2.2.2.2.2.2.1, fEq i.2.2.2.2.2.2.2.2.1, fEq i.2.2.2.2.2.2.2.2.2], aC b3 99 [fSl aU y30.Chans, fSl bH y30.Spots, fSl aZ y30.Rules], aD i.2.2.2.2.2.2.2.1 3 (aB .i64) i.2.2.2.2.1, aD i.2.2.2.2.2.2.2.2.1 4 cG i.2.2.2.2.2.1, aD i.2.2.2.2.2.2.2.2.2 4 cG i.2.2.2.2.2.2.1]) ?_ ?_
 refine Z7 ?_
 refine aH [0, 1, 5, 2, 3, 4] (by decide) ?_
 refine Tl (ι := Nat × Int × List ByteArray × List ScopeNode × List ScopeDef × Int × List Int × List Bool × List Bool × Value × Value × Value) (fun i => mA fuel (fA fuel) y30 z2 i.1 i.2.1 i.2.2.1 i.2.2.2.1 i.2.2.2.2.1 i.2.2.2.2.2.1 i.2.2.2.2.2.2.1 i.2.2.2.2.2.2.2.1 i.2.2.2.2.2.2.2.2.1 = _) (fun i => i.1) (fun i => [(0, fEq (ptr p0)), (2, aA .i64 z2), (6, fEq (ptr b1)), (11, fEq (ptr b3)), (190, fSl aZ y30.Rules), (191, aA .i64 (y30.Rules.length : Int)), (192, aA .i64 i.2.1)]) (fun i => [aC b1 51 [aA .i64 y7.Op, aA .i64 y7.N, fSl bD y7.Args, fSl (aB .i64) y7.Kids], aC p0 151 [fSl aM i.2.2.1, fSl aK i.2.2.2.1, fSl aI i.2.2.2.2.1, aA .i64 i.2.2.2.2.2.1, fEq i.2.2.2.2.2.2.2.2.2.1, fEq i.2.2.2.2.2.2.2.2.2.2.1, fEq i.2.2.2.2.2.2.2.2.2.2.2], aC b3 99 [fSl aU y30.Chans, fSl bH y30.Spots, fSl aZ y30.Rules], aD i.2.2.2.2.2.2.2.2.2.1 3 (aB .i64) i.2.2.2.2.2.2.1, aD i.2.2.2.2.2.2.2.2.2.2.1 4 cG i.2.2.2.2.2.2.2.1, aD i.2.2.2.2.2.2.2.2.2.2.2 4 cG i.2.2.2.2.2.2.2.2.1]) (fuel, 0, a0.p.Free, a0.p.Nodes, a0.p.Defs, a0.p.Main, a0.sizes.set a1.toNat a2, a0.met.set a1.toNat true, a0.defs.set y7.N.toNat true, v1, v2, v3) H ?_
 clear H; rintro ⟨k2, x32, x33, x34, x35, x36, x37, x38, x39, v13, v14, v15⟩ H
 replace H : mA fuel (fA fuel) y30 z2 k2 x32 x33 x34 x35 x36 x37 x38 x39 = _ := H
 try dsimp only
 obtain _ | k2 := k2
 rw [mA] at H; cases H
 rw [mA] at H
 refine aN 3 rfl (fun hc_v13 => ?_)
 refine aN 4 rfl (fun hc_v14 => ?_)
 refine aN 5 rfl (fun hc_v15 => ?_)
 refine Z3 ?_
 refine aG ?_
 revert H; refine is (fun c14 H => ?_) fun c14 H => ?_
 refine Z3 ?_
 refine aG ?_
 revert H; refine B2 fun y33 h36 H => ?_
 refine Z2 ?_
 refine Tn (bZ rfl tG rfl) fun b4 => ?_
 refine cS (φs' := [aA .i64 y33.At, fSl (aB .i64) y33.Joins, aA .i64 y33.Node]) trivial rfl rfl (has rfl) (has rfl) (aJ (aE trivial) (aJ (bA) (aJ (aE trivial) bP))) (sz rfl) rfl rfl rfl ?_
 revert H; refine B1 fun y34 h37 H => ?_
 revert H; refine bs fun z3 h38 H => ?_
 apply bC (ods := [_, _, _, _, _, _, _, _]) 8 0 7 bB rfl rfl rfl
 refine ND ?_
 refine M6 ?_
 intros
 refine Nc (aFj _ _ _ _ h37) fun _ => ?_
 refine M1 ?_
 intros
 refine Z1 ?_
 refine nO ?_
 refine nO ?_
 refine nO ?_
 refine lC ?_
 refine wA (x := (⟨(⟨x33, x34, x35, x36⟩ : ScopeProg), x37, x38, x39⟩ : Scope_looker)) ?_
 revert H; refine bs fun y35 h39 H => ?_
 rcases y35 with y35 | pv18 <;> dsimp only at H
 refine Tc (ih_scope_looker_node _ _ _ _ _ h39).s ?_
 refine xE (fun v16 v17 v18 => ?_)
 refine aN 1 rfl (fun hc_v16 => ?_)
 refine aN 2 rfl (fun hc_v17 => ?_)
 refine aN 3 rfl (fun hc_v18 => ?_)
 revert H; refine B4 fun z4 h40 H => ?_
 refine Z3 ?_
 refine aH [5, 0, 6, 1, 2, 3] (by decide) ?_
 exact Tm ((k2, z4, y35.p.Free, y35.p.Nodes, y35.p.Defs, y35.p.Main, y35.sizes, y35.met, y35.defs, v16, v17, v18)) ⟨H, ls⟩
 refine Tp (ih_scope_looker_node _ _ _ _ _ h39).pan ?_
 revert H; refine B5 fun r16 H e16 => ?_
 cases e16; cases Hr6
 revert H; refine B1 fun r17 H e17 => ?_
 cases e17; cases Hr5
 cases H
 exact cD
 exact fk
 kernel_rfl
 refine Z6 ?_
 exact Tm ((x33, x34, x35, x36, x37, x38, x39, v13, v14, v15)) (ij H)
 clear H; intro i hi; obtain ⟨x17, x18, x19, x20, x21, x22, x23, v7, v8, v9⟩ := i; subst o6; have H := Hr6; clear Hr6; try dsimp only at H
 try dsimp only
 refine aN 3 rfl (fun hc_v7 => ?_)
 refine aN 4 rfl (fun hc_v8 => ?_)
 refine aN 5 rfl (fun hc_v9 => ?_)
 refine Z7 ?_
 refine Tl (ι := Nat × Int × List ByteArray × List ScopeNode × List ScopeDef × Int × List Int × List Bool × List Bool × Value × Value × Value) (fun i => lU (fA fuel) y30 z2 i.1 i.2.1 i.2.2.1 i.2.2.2.1 i.2.2.2.2.1 i.2.2.2.2.2.1 i.2.2.2.2.2.2.1 i.2.2.2.2.2.2.2.1 i.2.2.2.2.2.2.2.2.1 = _) (fun i => i.1) (fun i => [(0, fEq (ptr p0)), (2, aA .i64 z2), (6, fEq (ptr b1)), (207, fSl bH y30.Spots), (208, aA .i64 (y30.Spots.length : Int)), (209, aA .i64 i.2.1)]) (fun i => [aC b1 51 [aA .i64 y7.Op, aA .i64 y7.N, fSl bD y7.Args, fSl (aB .i64) y7.Kids], aC p0 151 [fSl aM i.2.2.1, fSl aK i.2.2.2.1, fSl aI i.2.2.2.2.1, aA .i64 i.2.2.2.2.2.1, fEq i.2.2.2.2.2.2.2.2.2.1, fEq i.2.2.2.2.2.2.2.2.2.2.1, fEq i.2.2.2.2.2.2.2.2.2.2.2], aC b3 99 [fSl aU y30.Chans, fSl bH y30.Spots, fSl aZ y30.Rules], aD i.2.2.2.2.2.2.2.2.2.1 3 (aB .i64) i.2.2.2.2.2.2.1, aD i.2.2.2.2.2.2.2.2.2.2.1 4 cG i.2.2.2.2.2.2.2.1, aD i.2.2.2.2.2.2.2.2.2.2.2 4 cG i.2.2.2.2.2.2.2.2.1]) (fuel, 0, x17, x18, x19, x20, x21, x22, x23, v7, v8, v9) H ?_
 clear H; rintro ⟨k3, x48, x49, x50, x51, x52, x53, x54, x55, v22, v23, v24⟩ H
 replace H : lU (fA fuel) y30 z2 k3 x48 x49 x50 x51 x52 x53 x54 x55 = _ := H
 try dsimp only
 obtain _ | k3 := k3
 rw [lU] at H; cases H
 rw [lU] at H
 refine aN 3 rfl (fun hc_v22 => ?_)
 refine aN 4 rfl (fun hc_v23 => ?_)
 refine aN 5 rfl (fun hc_v24 => ?_)
 refine Z3 ?_
 refine aG ?_
 revert H; refine is (fun c15 H => ?_) fun c15 H => ?_
 refine Z3 ?_
 refine aG ?_
 revert H; refine B2 fun y36 h41 H => ?_
 refine Z2 ?_
 refine Tn (bZ rfl aAn rfl) fun b5 => ?_
 refine cS (φs' := [aA .i64 y36.In, aA .i64 y36.Node]) trivial rfl rfl (has rfl) (has rfl) (aJ (aE trivial) (aJ (aE trivial) bP)) (sz rfl) rfl rfl rfl ?_
 refine Z6 ?_
 refine nO ?_
 refine nO ?_
 refine nO ?_
 refine lC ?_
 refine wA (x := (⟨(⟨x49, x50, x51, x52⟩ : ScopeProg), x53, x54, x55⟩ : Scope_looker)) ?_
 revert H; refine bs fun y37 h42 H => ?_
 rcases y37 with y37 | pv19 <;> dsimp only at H
 refine Tc (ih_scope_looker_node _ _ _ _ _ h42).s ?_
 refine xE (fun v25 v26 v27 => ?_)
 refine aN 1 rfl (fun hc_v25 => ?_)
 refine aN 2 rfl (fun hc_v26 => ?_)
 refine aN 3 rfl (fun hc_v27 => ?_)
 revert H; refine B4 fun z5 h43 H => ?_
 refine Z3 ?_
 refine aH [5, 0, 6, 1, 2, 3] (by decide) ?_
 exact Tm ((k3, z5, y37.p.Free, y37.p.Nodes, y37.p.Defs, y37.p.Main, y37.sizes, y37.met, y37.defs, v25, v26, v27)) ⟨H, ls⟩
 refine Tp (ih_scope_looker_node _ _ _ _ _ h42).pan ?_
 revert H; refine B5 fun r18 H e18 => ?_
 cases e18; cases Hr5
 cases H
 exact cD
 refine Z6 ?_
 refine aH [0, 1, 3, 4, 5] (by decide) ?_
 exact Tm ((z2, x49, x50, x51, x52, x53, x54, x55, v22, v23, v24)) (ij H)
 refine Tp (aCH _ _ _ h33).pan ?_
 revert H; refine B2 fun r19 H e19 => ?_
 cases e19; cases Hr5
 cases H
 exact cD
 exact fk
 kernel_rfl
 exact fk
 kernel_rfl
 refine Z3 ?_
 exact Tm ((a2, a0.p.Free, a0.p.Nodes, a0.p.Defs, a0.p.Main, a0.sizes.set a1.toNat a2, a0.met.set a1.toNat true, a0.defs, v1, v2, v3)) (ij H)
 clear H; intro i hi; obtain ⟨x9, x10, x11, x12, x13, x14, x15, x16, v4, v5, v6⟩ := i; subst o5; have H := Hr5; clear Hr5; try dsimp only at H
 try dsimp only
 refine aN 2 rfl (fun hc_v4 => ?_)
 refine aN 3 rfl (fun hc_v5 => ?_)
 refine aN 4 rfl (fun hc_v6 => ?_)
 refine Z7 ?_
 refine Tl (ι := Nat × Int × List ByteArray × List ScopeNode × List ScopeDef × Int × List Int × List Bool × List Bool × Value × Value × Value) (fun i => mT (fA fuel) y7 x9 i.1 i.2.1 i.2.2.1 i.2.2.2.1 i.2.2.2.2.1 i.2.2.2.2.2.1 i.2.2.2.2.2.2.1 i.2.2.2.2.2.2.2.1 i.2.2.2.2.2.2.2.2.1 = _) (fun i => i.1) (fun i => [(0, fEq (ptr p0)), (2, aA .i64 x9), (220, fSl (aB .i64) y7.Kids), (221, aA .i64 (y7.Kids.length : Int)), (222, aA .i64 i.2.1)]) (fun i => [aC b1 51 [aA .i64 y7.Op, aA .i64 y7.N, fSl bD y7.Args, fSl (aB .i64) y7.Kids], aC p0 151 [fSl aM i.2.2.1, fSl aK i.2.2.2.1, fSl aI i.2.2.2.2.1, aA .i64 i.2.2.2.2.2.1, fEq i.2.2.2.2.2.2.2.2.2.1, fEq i.2.2.2.2.2.2.2.2.2.2.1, fEq i.2.2.2.2.2.2.2.2.2.2.2], aD i.2.2.2.2.2.2.2.2.2.1 3 (aB .i64) i.2.2.2.2.2.2.1, aD i.2.2.2.2.2.2.2.2.2.2.1 4 cG i.2.2.2.2.2.2.2.1, aD i.2.2.2.2.2.2.2.2.2.2.2 4 cG i.2.2.2.2.2.2.2.2.1]) (fuel, 0, x10, x11, x12, x13, x14, x15, x16, v4, v5, v6) H ?_
 clear H; rintro ⟨k4, x64, x65, x66, x67, x68, x69, x70, x71, v31, v32, v33⟩ H
 replace H : mT (fA fuel) y7 x9 k4 x64 x65 x66 x67 x68 x69 x70 x71 = _ := H
 try dsimp only
 obtain _ | k4 := k4
 rw [mT] at H; cases H
 rw [mT] at H
 refine aN 2 rfl (fun hc_v31 => ?_)
 refine aN 3 rfl (fun hc_v32 => ?_)
 refine aN 4 rfl (fun hc_v33 => ?_)
 refine Z3 ?_
 refine aG ?_
 revert H; refine is (fun c16 H => ?_) fun c16 H => ?_
 refine Z3 ?_
 refine aG ?_
 revert H; refine B2 fun y38 h44 H => ?_
 refine Z8 ?_
 refine bK ?_
 refine bK ?_
 refine bK ?_
 refine bK ?_
 refine wA (x := (⟨(⟨x65, x66, x67, x68⟩ : ScopeProg), x69, x70, x71⟩ : Scope_looker)) ?_
 revert H; refine bs fun y39 h45 H => ?_
 rcases y39 with y39 | pv20 <;> dsimp only at H
 refine Tc (ih_scope_looker_node _ _ _ _ _ h45).s ?_
 refine xE (fun v34 v35 v36 => ?_)
 refine aN 1 rfl (fun hc_v34 => ?_)
 refine aN 2 rfl (fun hc_v35 => ?_)
 refine aN 3 rfl (fun hc_v36 => ?_)
 revert H; refine B4 fun z6 h46 H => ?_
 refine Z3 ?_
 refine aH [4, 0, 1, 2, 3] (by decide) ?_
 exact Tm ((k4, z6, y39.p.Free, y39.p.Nodes, y39.p.Defs, y39.p.Main, y39.sizes, y39.met, y39.defs, v34, v35, v36)) ⟨H, ls⟩
 refine Tp (ih_scope_looker_node _ _ _ _ _ h45).pan ?_
 refine Z4 ?_
 cases H
 exact cD
 refine Z5 ?_
 refine bK ?_
 refine bK ?_
 refine bK ?_
 refine bK ?_
 refine wA (x := (⟨(⟨x65, x66, x67, x68⟩ : ScopeProg), x69, x70, x71⟩ : Scope_looker)) ?_
 cases H
 refine pT ?_
 refine aH [0] (by decide) ?_
 exact eZ (.inr rfl) rfl rfl
 refine Tp (bI _ _ h27).pan ?_
 refine Z1 ?_
 cases H
 exact cD
 exact fk
 kernel_rfl
end Go.Proofs.YtmnbfgeljmhekaaGreat
set_option maxRecDepth 100000
set_option maxHeartbeats 2000000
namespace Go.Proofs.YtmnbfgeljmhekaaGreat
open Go.SX Go.SW Go.Dt
attribute [local irreducible] Code.wpIn wpListIn Exit.then Exit.inBlock
def nX (a0 : List Bool) (a1 : Bool) : Nat → Int → Option ((Unit) ⊕ (Int))
| 0, _ => none
| k + 1, x2 =>
 if x2 < (a0.length : Int) then
  (idx a0 x2).bind fun y1 =>
  bif a1 == y1 then
   (some x2).bind fun r => some (Sum.inr r)
  else
   (chk (x2 + 1)).bind fun z1 =>
   nX a0 a1 k z1
 else
  some (Sum.inl ())
def xY (fuel : Nat) (a0 : List Bool) (a1 : Bool) : Option (Int) :=
 (nX a0 a1 fuel 0).bind fun o => match o with
 | Sum.inr r => some r
 | Sum.inl _ =>
 some (-1)
theorem aGg (fuel : Nat)  (a0 : List Bool) (a1 : Bool) (r : Int) (H : xY fuel a0 a1 = some r) : FnS Tryz.prog 128 [fSl cG a0, aL a1] [] (aA .i64 r) (fun _ => []) := by
 unfold xY at H
 refine bJ Tryz.func128 rfl Tryz.ntmps128 rfl (fun β => ?_)
 revert H; refine B3 fun o1 H Hr1 => ?_
 refine aR (ι := Unit) (fun i => o1 = Sum.inl ()) (fun i => []) (fun i => []) ?_ ?_
 refine Z6 ?_
 refine Tl (ι := Nat × Int) (fun i => nX a0 a1 i.1 i.2 = _) (fun i => i.1) (fun i => [(0, fSl cG a0), (1, aL a1), (7, aA .i64 (a0.length : Int)), (8, aA .i64 i.2)]) (fun i => []) (fuel, 0) H ?_
 clear H; rintro ⟨k1, x2⟩ H
 replace H : nX a0 a1 k1 x2 = _ := H
 try dsimp only
 obtain _ | k1 := k1
 rw [nX] at H; cases H
 rw [nX] at H
 refine Z3 ?_
 refine aG ?_
 revert H; refine is (fun c1 H => ?_) fun c1 H => ?_
 refine Z3 ?_
 refine aG ?_
 revert H; refine B9 fun y1 h1 H => ?_
 refine Z2 ?_
 refine Yy (o_eqlB rfl hh hh aC3) ?_
 refine Z1 ?_
 revert H; refine cs (fun c2 H => ?_) fun c2 H => ?_
 revert H; refine B11 fun r1 H e1 => ?_
 cases e1; cases Hr1
 cases H
 exact To
 revert H; refine B5 fun z1 h2 H => ?_
 refine Z3 ?_
 exact Tm ((k1, z1)) ⟨H, ls⟩
 refine Z6 ?_
 exact Tm (()) (ij H)
 clear H; intro i hi; subst o1; have H := Hr1; clear Hr1; try dsimp only at H
 try dsimp only
 refine Z4 ?_
 cases H
 exact To
def uM (fuel : Nat) (a0 : List Bool) (a1 : Bool) : Option (Bool) :=
 (xY fuel a0 a1).bind fun y1 =>
 some (decide (0 ≤ y1))
theorem aDB (fuel : Nat)  (a0 : List Bool) (a1 : Bool) (r : Bool) (H : uM fuel a0 a1 = some r) : FnS Tryz.prog 111 [fSl cG a0, aL a1] [] (aL r) (fun _ => []) := by
 unfold uM at H
 refine bJ Tryz.func111 rfl Tryz.ntmps111 rfl (fun β => ?_)
 revert H; refine B6 fun y1 h1 H => ?_
 refine Tc (aGg _ _ _ _ h1) ?_
 refine Z4 ?_
 cases H
 exact To
def lW (fuel : Nat) (a0 : ScopeProg) : Nat → Int → Option ((Unit) ⊕ (Scope_looker ⊕ Value))
| 0, _ => none
| k + 1, x2 =>
 if x2 < (a0.Free.length : Int) then
  ((idx a0.Free x2).bind fun y4 =>
  (qW fuel y4).bind fun y5 =>
  bif y5 then
   if x2 = 0 then
    (bV true).bind fun y6 =>
    match y6 with
    | Sum.inr pv4 => ((some (Sum.inr pv4)).bind fun r => some (Sum.inr r)).bind fun r => some (Sum.inr r)
    | Sum.inl y6 =>
    some (Sum.inl ())
   else
    (chk (x2 - 1)).bind fun z1 =>
    (idx a0.Free z1).bind fun y7 =>
    (bV (slt y7 y4)).bind fun y8 =>
    match y8 with
    | Sum.inr pv5 => ((some (Sum.inr pv5)).bind fun r => some (Sum.inr r)).bind fun r => some (Sum.inr r)
    | Sum.inl y8 =>
    some (Sum.inl ())
  else
   (bV false).bind fun y9 =>
   match y9 with
   | Sum.inr pv6 => ((some (Sum.inr pv6)).bind fun r => some (Sum.inr r)).bind fun r => some (Sum.inr r)
   | Sum.inl y9 =>
   some (Sum.inl ())).bind fun o => match o with
  | Sum.inr r => some r
  | Sum.inl _ =>
  (chk (x2 + 1)).bind fun z2 =>
  lW fuel a0 k z2
 else
  some (Sum.inl ())
def uY (fuel : Nat) (a0 : ScopeProg) : Option (Scope_looker ⊕ Value) :=
 (if (a0.Free.length : Int) ≤ 12 then
  if (a0.Nodes.length : Int) ≤ 60 then
   (bV (decide ((a0.Defs.length : Int) ≤ 12))).bind fun y1 =>
   match y1 with
   | Sum.inr pv1 => (some (Sum.inr pv1)).bind fun r => some (Sum.inr r)
   | Sum.inl y1 =>
   some (Sum.inl ())
  else
   (bV false).bind fun y2 =>
   match y2 with
   | Sum.inr pv2 => (some (Sum.inr pv2)).bind fun r => some (Sum.inr r)
   | Sum.inl y2 =>
   some (Sum.inl ())
 else
  (bV false).bind fun y3 =>
  match y3 with
  | Sum.inr pv3 => (some (Sum.inr pv3)).bind fun r => some (Sum.inr r)
  | Sum.inl y3 =>
  some (Sum.inl ())).bind fun o => match o with
 | Sum.inr r => some r
 | Sum.inl _ =>
 (lW fuel a0 fuel 0).bind fun o => match o with
 | Sum.inr r => some r
 | Sum.inl _ =>
 (mk 0 (a0.Nodes.length : Int)).bind fun y10 =>
 (mk false (a0.Nodes.length : Int)).bind fun y11 =>
 (mk false (a0.Defs.length : Int)).bind fun y12 =>
 (fA fuel (⟨(⟨a0.Free, a0.Nodes, a0.Defs, a0.Main⟩ : ScopeProg), y10, y11, y12⟩ : Scope_looker) a0.Main (a0.Free.length : Int)).bind fun y13 =>
 match y13 with
 | Sum.inr pv7 => some (Sum.inr pv7)
 | Sum.inl y13 =>
 ((uM fuel y13.met false).bind fun y14 =>
 bif !y14 then
  (uM fuel y13.defs false).bind fun y15 =>
  (bV (!y15)).bind fun y16 =>
  match y16 with
  | Sum.inr pv8 => (some (Sum.inr pv8)).bind fun r => some (Sum.inr r)
  | Sum.inl y16 =>
  some (Sum.inl y13.defs)
 else
  (bV false).bind fun y17 =>
  match y17 with
  | Sum.inr pv9 => (some (Sum.inr pv9)).bind fun r => some (Sum.inr r)
  | Sum.inl y17 =>
  some (Sum.inl y13.defs)).bind fun o => match o with
 | Sum.inr r => some r
 | Sum.inl x3 =>
 some (Sum.inl (⟨(⟨y13.p.Free, y13.p.Nodes, y13.p.Defs, y13.p.Main⟩ : ScopeProg), y13.sizes, y13.met, x3⟩ : Scope_looker))
theorem xT (fuel : Nat)  (a0 : ScopeProg) (r : Scope_looker ⊕ Value) (H : uY fuel a0 = some r) : FnE Tryz.prog 96 [fSt cY a0] [] r (fun r => aF jE r) (fun r => []) := by
 unfold uY at H
 refine sC Tryz.func96 rfl Tryz.ntmps96 rfl (fun β => ?_)
 refine Z1 ?_
 refine Tn (cF rfl (has rfl) bO) fun b1 => ?_
 revert H; refine B2 fun o1 H Hr1 => ?_
 refine aR (ι := Unit) (fun i => o1 = Sum.inl ()) (fun i => [(1, fEq (ptr b1))]) (fun i => [aC b1 26 [fSl aM a0.Free, fSl aK a0.Nodes, fSl aI a0.Defs, aA .i64 a0.Main]]) ?_ ?_
 revert H; refine I6 (fun c1 H => ?_) fun c1 H => ?_
 revert H; refine I6 (fun c2 H => ?_) fun c2 H => ?_
 revert H; refine B5 fun y1 h1 H => ?_
 rcases y1 with y1 | pv1 <;> dsimp only at H
 refine Tc (bI _ _ h1).s ?_
 refine Z1 ?_
 exact Tm (()) (ij H)
 refine Tp (bI _ _ h1).pan ?_
 revert H; refine B1 fun r1 H e1 => ?_
 cases e1; cases Hr1
 cases H
 exact cD
 revert H; refine B5 fun y2 h2 H => ?_
 rcases y2 with y2 | pv2 <;> dsimp only at H
 refine Tc (bI _ _ h2).s ?_
 refine Z1 ?_
 exact Tm (()) (ij H)
 refine Tp (bI _ _ h2).pan ?_
 revert H; refine B1 fun r2 H e2 => ?_
 cases e2; cases Hr1
 cases H
 exact cD
 revert H; refine B11 fun y3 h3 H => ?_
 rcases y3 with y3 | pv3 <;> dsimp only at H
 refine Tc (bI _ _ h3).s ?_
 refine Z1 ?_
 exact Tm (()) (ij H)
 refine Tp (bI _ _ h3).pan ?_
 revert H; refine B1 fun r3 H e3 => ?_
 cases e3; cases Hr1
 cases H
 exact cD
 clear H; intro i hi; subst o1; have H := Hr1; clear Hr1; try dsimp only at H
 try dsimp only
 revert H; refine bs fun o2 H Hr2 => ?_
 refine aR (ι := Unit) (fun i => o2 = Sum.inl ()) (fun i => [(1, fEq (ptr b1))]) (fun i => [aC b1 26 [fSl aM a0.Free, fSl aK a0.Nodes, fSl aI a0.Defs, aA .i64 a0.Main]]) ?_ ?_
 refine Z7 ?_
 refine Tl (ι := Nat × Int) (fun i => lW fuel a0 i.1 i.2 = _) (fun i => i.1) (fun i => [(1, fEq (ptr b1)), (24, fSl aM a0.Free), (25, aA .i64 (a0.Free.length : Int)), (26, aA .i64 i.2)]) (fun i => [aC b1 26 [fSl aM a0.Free, fSl aK a0.Nodes, fSl aI a0.Defs, aA .i64 a0.Main]]) (fuel, 0) H ?_
 clear H; rintro ⟨k1, x2⟩ H
 replace H : lW fuel a0 k1 x2 = _ := H
 try dsimp only
 obtain _ | k1 := k1
 rw [lW] at H; cases H
 rw [lW] at H
 refine Z3 ?_
 refine aG ?_
 revert H; refine is (fun c3 H => ?_) fun c3 H => ?_
 revert H; refine B3 fun o3 H Hr3 => ?_
 refine aR (ι := Unit) (fun i => o3 = Sum.inl ()) (fun i => [(1, fEq (ptr b1)), (24, fSl aM a0.Free), (25, aA .i64 (a0.Free.length : Int)), (26, aA .i64 x2)]) (fun i => [aC b1 26 [fSl aM a0.Free, fSl aK a0.Nodes, fSl aI a0.Defs, aA .i64 a0.Main]]) ?_ ?_
 revert H; refine B3 fun y4 h4 H => ?_
 revert H; refine B7 fun y5 h5 H => ?_
 refine Tc (aF3 _ _ _ h5) ?_
 refine Z1 ?_
 revert H; refine cs (fun c4 H => ?_) fun c4 H => ?_
 revert H; refine I3 (fun c5 H => ?_) fun c5 H => ?_
 revert H; refine B10 fun y6 h6 H => ?_
 rcases y6 with y6 | pv4 <;> dsimp only at H
 refine Tc (bI _ _ h6).s ?_
 refine Z3 ?_
 exact Tm (()) (ij H)
 refine Tp (bI _ _ h6).pan ?_
 revert H; refine B2 fun r4 H e4 => ?_
 cases e4; cases Hr3
 revert H; refine B3 fun r5 H e5 => ?_
 cases e5; cases Hr2
 cases H
 exact cD
 revert H; refine B3 fun z1 h7 H => ?_
 revert H; refine B1 fun y7 h8 H => ?_
 refine Z3 ?_
 refine Yg c5 (o_lssS rfl hh hh) ?_
 revert H; refine B2 fun y8 h9 H => ?_
 rcases y8 with y8 | pv5 <;> dsimp only at H
 refine Tc (bI _ _ h9).s ?_
 refine Z3 ?_
 exact Tm (()) (ij H)
 refine Tp (bI _ _ h9).pan ?_
 revert H; refine B2 fun r6 H e6 => ?_
 cases e6; cases Hr3
 revert H; refine B3 fun r7 H e7 => ?_
 cases e7; cases Hr2
 cases H
 exact cD
 refine Z3 ?_
 refine dG (⟨_, _, _, _, rfl, rfl, rfl, nu⟩) rfl rfl ?_
 refine dG (⟨_, _, _, _, rfl, rfl, rfl, nu⟩) rfl rfl ?_
 refine dG (⟨_, _, _, _, rfl, rfl, rfl, nu⟩) rfl rfl ?_
 refine dG (⟨_, _, _, _, rfl, rfl, rfl, nu⟩) rfl rfl ?_
 refine dG (⟨_, _, _, _, rfl, rfl, rfl, nu⟩) rfl rfl ?_
 refine dG (⟨_, _, _, _, rfl, rfl, rfl, nu⟩) rfl rfl ?_
 refine dG (⟨_, _, _, _, rfl, rfl, rfl, nu⟩) rfl rfl ?_
 refine dG (⟨_, _, _, _, rfl, rfl, rfl, nu⟩) rfl rfl ?_
 revert H; refine B2 fun y9 h10 H => ?_
 rcases y9 with y9 | pv6 <;> dsimp only at H
 refine Tc (bI _ _ h10).s ?_
 refine Z3 ?_
 exact Tm (()) (ij H)
 refine Tp (bI _ _ h10).pan ?_
 revert H; refine B2 fun r8 H e8 => ?_
 cases e8; cases Hr3
 revert H; refine B3 fun r9 H e9 => ?_
 cases e9; cases Hr2
 cases H
 exact cD
 clear H; intro i hi; subst o3; have H := Hr3; clear Hr3; try dsimp only at H
 try dsimp only
 revert H; refine B1 fun z2 h11 H => ?_
 refine Z3 ?_
 exact Tm ((k1, z2)) ⟨H, ls⟩
 refine Z6 ?_
 exact Tm (()) (ij H)
 clear H; intro i hi; subst o2; have H := Hr2; clear Hr2; try dsimp only at H
 try dsimp only
 refine aG ?_
 revert H; refine bs fun y10 h12 H => ?_
 revert H; refine bs fun y11 h13 H => ?_
 revert H; refine bs fun y12 h14 H => ?_
 apply bC (ods := [_, _, _, _, _, _, _, _, _, _, _, _, _, _, _, _]) 16 4 5 bB rfl rfl rfl
 refine ND ?_
 refine M4 ?_
 intros
 refine Mn 1 (fun b2 => .slice (some ⟨b2, 0, none⟩) y10.length y10.length) (fun b2 => aD (.slice (some ⟨b2, 0, none⟩) y10.length y10.length) 3 (aB .i64) y10) rfl (lK (t := (aB .i64)) (z := 0) rfl (has rfl) (et rfl) rfl qZ rfl h12) (fun b2 u1 => ?_)
 refine M3 ?_
 intros
 refine Mn 2 (fun b3 => .slice (some ⟨b3, 0, none⟩) y11.length y11.length) (fun b3 => aD (.slice (some ⟨b3, 0, none⟩) y11.length y11.length) 4 cG y11) rfl (lK (t := cG) (z := false) rfl (has rfl) (et rfl) rfl aAL rfl h13) (fun b3 u2 => ?_)
 refine M3 ?_
 intros
 refine Mn 3 (fun b4 => .slice (some ⟨b4, 0, none⟩) y12.length y12.length) (fun b4 => aD (.slice (some ⟨b4, 0, none⟩) y12.length y12.length) 4 cG y12) rfl (lK (t := cG) (z := false) rfl (has rfl) (et rfl) rfl aAL rfl h14) (fun b4 u3 => ?_)
 refine N_y (od := od3 4 8 12 [] false (fun b2 _ b3 _ b4 _ => fC [fSl aM a0.Free, fSl aK a0.Nodes, fSl aI a0.Defs, aA .i64 a0.Main, fEq (.slice (some ⟨b2, 0, none⟩) y10.length y10.length), fEq (.slice (some ⟨b3, 0, none⟩) y11.length y11.length), fEq (.slice (some ⟨b4, 0, none⟩) y12.length y12.length)]) (fun b2 _ b3 _ b4 _ => [])) (φ := fC [fSl aM a0.Free, fSl aK a0.Nodes, fSl aI a0.Defs, aA .i64 a0.Main, fEq (.slice (some ⟨b2, 0, none⟩) y10.length y10.length), fEq (.slice (some ⟨b3, 0, none⟩) y11.length y11.length), fEq (.slice (some ⟨b4, 0, none⟩) y12.length y12.length)]) rfl (fun _ => rfl) trivial rfl (dN (ψs := [fSl aM a0.Free, fSl aK a0.Nodes, fSl aI a0.Defs, aA .i64 a0.Main, fEq (.slice (some ⟨b2, 0, none⟩) y10.length y10.length), fEq (.slice (some ⟨b3, 0, none⟩) y11.length y11.length), fEq (.slice (some ⟨b4, 0, none⟩) y12.length y12.length)]) rfl aF5 rfl (aW.cons (has rfl) bO (aW.cons (has rfl) (aS (aE trivial)) (aW.cons (has rfl) (aS (aE trivial)) (aW.cons (has rfl) (aS (aE trivial)) aW.nil)))) rfl) (fun _ => ?_)
 refine N_new (od := odN3 4 8 12 [4] true (fun b2 _ b3 _ b4 _ b5 _ => fEq (ptr b5)) (fun b2 _ b3 _ b4 _ b5 _ => [aC b5 151 [fSl aM a0.Free, fSl aK a0.Nodes, fSl aI a0.Defs, aA .i64 a0.Main, fEq (.slice (some ⟨b2, 0, none⟩) y10.length y10.length), fEq (.slice (some ⟨b3, 0, none⟩) y11.length y11.length), fEq (.slice (some ⟨b4, 0, none⟩) y12.length y12.length)]])) (p := 4) (f := fun b5 => ptr b5) (τ := fun b5 => aC b5 151 [fSl aM a0.Free, fSl aK a0.Nodes, fSl aI a0.Defs, aA .i64 a0.Main, fEq (.slice (some ⟨b2, 0, none⟩) y10.length y10.length), fEq (.slice (some ⟨b3, 0, none⟩) y11.length y11.length), fEq (.slice (some ⟨b4, 0, none⟩) y12.length y12.length)]) rfl (fun _ => rfl) (fun _ => rfl) trivial rfl rfl (cF rfl (has rfl) bO) (fun b5 u4 => ?_)
 refine D1 14 b5 _ (fun b5 _ => fEq (ptr b5)) rfl (vM rfl hh) (fun _ => ?_)
 refine Z1 ?_
 generalize (Value.slice (some ⟨b2, 0, none⟩) _ _) = v1
 refine aN 1 rfl (fun hc_v1 => ?_)
 generalize (Value.slice (some ⟨b3, 0, none⟩) _ _) = v2
 refine aN 2 rfl (fun hc_v2 => ?_)
 generalize (Value.slice (some ⟨b4, 0, none⟩) _ _) = v3
 refine aN 3 rfl (fun hc_v3 => ?_)
 refine Z8 ?_
 refine cX ?_
 refine cX ?_
 refine cX ?_
 refine bK ?_
 refine wA (x := (⟨(⟨a0.Free, a0.Nodes, a0.Defs, a0.Main⟩ : ScopeProg), y10, y11, y12⟩ : Scope_looker)) ?_
 revert H; refine bs fun y13 h15 H => ?_
 rcases y13 with y13 | pv7 <;> dsimp only at H
 refine Tc (aER _ _ _ _ _ _ h15).s ?_
 refine xE (fun v4 v5 v6 => ?_)
 refine aN 1 rfl (fun hc_v4 => ?_)
 refine aN 2 rfl (fun hc_v5 => ?_)
 refine aN 3 rfl (fun hc_v6 => ?_)
 revert H; refine B1 fun o4 H Hr4 => ?_
 refine aR (ι := List Bool) (fun i => o4 = Sum.inl i) (fun i => [(5, fEq (ptr b5))]) (fun i => [aC b5 151 [fSl aM y13.p.Free, fSl aK y13.p.Nodes, fSl aI y13.p.Defs, aA .i64 y13.p.Main, fEq v4, fSl cG y13.met, fSl cG i], aC b1 26 [fSl aM a0.Free, fSl aK a0.Nodes, fSl aI a0.Defs, aA .i64 a0.Main], aD v4 3 (aB .i64) y13.sizes]) ?_ ?_
 refine Z5 ?_
 refine eB ?_
 refine cR (φ := fSl cG y13.met) (v := v5) [74] cL fz ?_
 refine gN (φs' := [fSl aM y13.p.Free, fSl aK y13.p.Nodes, fSl aI y13.p.Defs, aA .i64 y13.p.Main, fEq v4, fSl cG y13.met, fEq v6]) (i := 5) rfl rfl ?_
 refine cT ?_
 revert H; refine bs fun y14 h16 H => ?_
 refine Tc (aDB _ _ _ _ h16) ?_
 refine Z2 ?_
 revert H; refine cs (fun c6 H => ?_) fun c6 H => ?_
 refine Z4 ?_
 refine eB ?_
 refine cR (φ := fSl cG y13.defs) (v := v6) [81] cL fz ?_
 refine gN (φs' := [fSl aM y13.p.Free, fSl aK y13.p.Nodes, fSl aI y13.p.Defs, aA .i64 y13.p.Main, fEq v4, fSl cG y13.met, fSl cG y13.defs]) (i := 6) rfl rfl ?_
 refine cT ?_
 revert H; refine bs fun y15 h17 H => ?_
 refine Tc (aDB _ _ _ _ h17) ?_
 revert H; refine B2 fun y16 h18 H => ?_
 rcases y16 with y16 | pv8 <;> dsimp only at H
 refine Tc (bI _ _ h18).s ?_
 refine Z1 ?_
 refine aH [0, 2, 1] (by decide) ?_
 exact Tm (y13.defs) (ij H)
 refine Tp (bI _ _ h18).pan ?_
 revert H; refine B1 fun r10 H e10 => ?_
 cases e10; cases Hr4
 cases H
 exact cD
 revert H; refine B7 fun y17 h19 H => ?_
 rcases y17 with y17 | pv9 <;> dsimp only at H
 refine Tc (bI _ _ h19).s ?_
 refine Z1 ?_
 refine eB ?_
 refine cR (φ := fSl cG y13.defs) (v := v6) [] cL (fun _ h => nomatch h) ?_
 refine gN (φs' := [fSl aM y13.p.Free, fSl aK y13.p.Nodes, fSl aI y13.p.Defs, aA .i64 y13.p.Main, fEq v4, fSl cG y13.met, fSl cG y13.defs]) (i := 6) rfl rfl ?_
 refine cT ?_
 refine aH [0, 2, 1] (by decide) ?_
 exact Tm (y13.defs) (ij H)
 refine Tp (bI _ _ h19).pan ?_
 revert H; refine B1 fun r11 H e11 => ?_
 cases e11; cases Hr4
 cases H
 exact cD
 clear H; intro x3 hi; subst o4; have H := Hr4; clear Hr4; try dsimp only at H
 try dsimp only
 refine Z5 ?_
 refine eB ?_
 refine cR (φ := fSl (aB .i64) y13.sizes) (v := v4) [] cL (fun _ h => nomatch h) ?_
 refine gN (φs' := [fSl aM y13.p.Free, fSl aK y13.p.Nodes, fSl aI y13.p.Defs, aA .i64 y13.p.Main, fSl (aB .i64) y13.sizes, fSl cG y13.met, fSl cG x3]) (i := 4) rfl rfl ?_
 refine cT ?_
 refine cR (φ := aF jE (⟨(⟨y13.p.Free, y13.p.Nodes, y13.p.Defs, y13.p.Main⟩ : ScopeProg), y13.sizes, y13.met, x3⟩ : Scope_looker)) (v := ptr b5) [5, 86, 2] (gI aP.rfl) fz ?_
 refine cT ?_
 cases H
 refine pT ?_
 refine aH [] (by decide) ?_
 exact To
 refine Tp (aER _ _ _ _ _ _ h15).pan ?_
 refine Z1 ?_
 cases H
 exact cD
 exact fk
 kernel_rfl
def zI (fuel : Nat) (a0 : ScopeProg) (a1 : Scope_looker → Option Bool) : Option (Bool × Int) :=
 (uY fuel (⟨a0.Free, a0.Nodes, a0.Defs, a0.Main⟩ : ScopeProg)).bind fun y1 =>
 match y1 with
 | Sum.inr pv1 => (unI 167 pv1).bind fun e1 => some (false, e1)
 | Sum.inl y1 =>
 (a1 y1).bind fun y2 =>
 some (y2, 0)
theorem aFU (fuel : Nat)  (a0 : ScopeProg) (a1 : Scope_looker → Option Bool) (r : Bool × Int) (H : zI fuel a0 a1 = some r) : FnS Tryz.prog 76 [fSt cY a0, fFn Tryz.prog (fun (x : Scope_looker) => [aF jE x]) (fun (r : Bool) => aL r) a1] [] (dC [aL r.1, aA .i64 r.2]) (fun _ => []) := by
 unfold zI at H
 refine sK Tryz.func76 rfl Tryz.ntmps76 rfl (fun β => ?_)
 refine Z1 ?_
 refine Tn (cF rfl (has rfl) bO) fun b1 => ?_
 refine Z1 ?_
 refine Tn (bZ rfl aDQ rfl) fun b2 => ?_
 refine Z2 ?_
 refine aEP trivial rfl rfl (gZ.cons (has rfl) gZ.nil) ?_
 revert H; refine B4 fun y1 h1 H => ?_
 rcases y1 with y1 | pv1 <;> dsimp only at H
 refine Tc (xT _ _ _ h1).s ?_
 revert H; refine bs fun y2 h2 H => ?_
 refine aAo y1 trivial rfl rfl rfl (has rfl) (aO.cons (has rfl) aO.nil) h2 ?_
 refine Z1 ?_
 refine dA (φs' := [aA .i64 0]) trivial rfl rfl (has rfl) (has rfl) (aE trivial) (sz rfl) rfl rfl ?_
 refine Z2 ?_
 cases H
 refine aH [0] (by decide) ?_
 exact aEq (xG (u := .returning) (by simp) rfl (bL rfl) rfl (sc rfl) (cb rfl) (aEx b2 0) rfl rfl)
 refine Tp (xT _ _ _ h1).pan ?_
 refine Z1 ?_
 have H0 := H; clear H; obtain ⟨e1, h3, H⟩ := bind_some H0; clear H0; have hv_e1 := aDC h3; subst hv_e1
 cases H
 refine aH [0] (by decide) ?_
 exact aC9 (xG (u := .panicking [{ v := .iface 167 (.agg #[.int .i64 e1]), recovered := false }]) (by simp) rfl (bL rfl) rfl (sc rfl) (cb rfl) (aCt b2 0 e1) rfl rfl)
def xN (a0 : Scope_looker) : Option (Bool) :=
 some true
theorem aGV  (a0 : Scope_looker) (r : Bool) (H : xN a0 = some r) : FnS Tryz.prog 77 [aF jE a0] [] (aL r) (fun _ => []) := by
 unfold xN at H
 refine bJ Tryz.func77 rfl Tryz.ntmps77 rfl (fun β => ?_)
 refine Z7 ?_
 cases H
 exact To
def rR (fuel : Nat) (a0 : ScopeProg) : Option (Int) :=
 (zI fuel (⟨a0.Free, a0.Nodes, a0.Defs, a0.Main⟩ : ScopeProg) (fun x => xN x)).bind fun y1 =>
 some y1.2
theorem aBb (fuel : Nat)  (a0 : ScopeProg) (r : Int) (H : rR fuel a0 = some r) : FnS Tryz.prog 35 [fSt cY a0] [] (aA .i64 r) (fun _ => []) := by
 unfold rR at H
 refine bJ Tryz.func35 rfl Tryz.ntmps35 rfl (fun β => ?_)
 refine Z1 ?_
 refine Tn (cF rfl (has rfl) bO) fun b1 => ?_
 revert H; refine B4 fun y1 h1 H => ?_
 refine iE trivial rfl rfl rfl (has rfl) (aO.cons (has rfl) (aO.cons (dM rfl (sA (cb rfl) (fun x r hx => aGV x r hx))) aO.nil)) rfl (cb rfl) (aFU fuel (⟨a0.Free, a0.Nodes, a0.Defs, a0.Main⟩ : ScopeProg) (fun x => xN x) y1 h1) rfl ?_
 refine Z11 ?_
 cases H
 refine aH [] (by decide) ?_
 exact To
def yR (fuel : Nat) (a0 : ScopeProg) (a1 : Scope_looker → Option (List Int)) : Option ((List Int) × Int) :=
 (uY fuel (⟨a0.Free, a0.Nodes, a0.Defs, a0.Main⟩ : ScopeProg)).bind fun y1 =>
 match y1 with
 | Sum.inr pv1 => (unI 167 pv1).bind fun e1 => some ([], e1)
 | Sum.inl y1 =>
 (a1 y1).bind fun y2 =>
 some (y2, 0)
theorem aHh (fuel : Nat)  (a0 : ScopeProg) (a1 : Scope_looker → Option (List Int)) (r : (List Int) × Int) (H : yR fuel a0 a1 = some r) : FnS Tryz.prog 112 [fSt cY a0, fFn Tryz.prog (fun (x : Scope_looker) => [aF jE x]) (fun (r : List Int) => fSl (aB .i64) r) a1] [] (dC [fSl (aB .i64) r.1, aA .i64 r.2]) (fun _ => []) := by
 unfold yR at H
 refine sK Tryz.func112 rfl Tryz.ntmps112 rfl (fun β => ?_)
 refine Z1 ?_
 refine Tn (cF rfl (has rfl) bO) fun b1 => ?_
 refine Z1 ?_
 refine Tn (bZ rfl aDQ rfl) fun b2 => ?_
 refine Z2 ?_
 refine aEP trivial rfl rfl (gZ.cons (has rfl) gZ.nil) ?_
 revert H; refine B4 fun y1 h1 H => ?_
 rcases y1 with y1 | pv1 <;> dsimp only at H
 refine Tc (xT _ _ _ h1).s ?_
 revert H; refine bs fun y2 h2 H => ?_
 refine aAo y1 trivial rfl rfl rfl (has rfl) (aO.cons (has rfl) aO.nil) h2 ?_
 refine Z1 ?_
 refine dA (φs' := [aA .i64 0]) trivial rfl rfl (has rfl) (has rfl) (aE trivial) (sz rfl) rfl rfl ?_
 refine Z2 ?_
 cases H
 refine aH [0] (by decide) ?_
 exact aEq (xG (u := .returning) (by simp) rfl (bL rfl) rfl (sc rfl) (cb rfl) (aEx b2 0) rfl rfl)
 refine Tp (xT _ _ _ h1).pan ?_
 refine Z1 ?_
 have H0 := H; clear H; obtain ⟨e1, h3, H⟩ := bind_some H0; clear H0; have hv_e1 := aDC h3; subst hv_e1
 cases H
 refine aH [0] (by decide) ?_
 exact aC9 (xG (u := .panicking [{ v := .iface 167 (.agg #[.int .i64 e1]), recovered := false }]) (by simp) rfl (jJ rfl eC) rfl (sc rfl) (cb rfl) (aCt b2 0 e1) rfl rfl)
def mQ (a0 : Scope_looker) (w0 : ScopeProg) (w1 : Scope_looker × Int → Option Int) : Nat → (List Int) → Int → Option (List Int)
| 0, _, _ => none
| k + 1, x4, x5 =>
 if x5 < (w0.Nodes.length : Int) then
  (w1 (a0, x5)).bind fun y1 =>
  (eI (x4 ++ [y1])).bind fun z1 =>
  (chk (x5 + 1)).bind fun z2 =>
  mQ a0 w0 w1 k z1 z2
 else
  some x4
def vU (fuel : Nat) (a0 : Scope_looker) (w0 : ScopeProg) (w1 : Scope_looker × Int → Option Int) : Option (List Int) :=
 (mQ a0 w0 w1 fuel [] 0).bind fun x1 =>
 some x1
theorem aHz (fuel : Nat)  (a0 : Scope_looker) (w0 : ScopeProg) (w1 : Scope_looker × Int → Option Int) (r : List Int) (H : vU fuel a0 w0 w1 = some r) : FnS Tryz.prog 113 [aF jE a0, aF cY w0, aF (tFn Tryz.prog (fun (x : Scope_looker × Int) => [aF jE x.1, aA .i64 x.2]) (fun (r : Int) => aA .i64 r)) w1] [] (fSl (aB .i64) r) (fun _ => []) := by
 unfold vU at H
 refine bJ Tryz.func113 rfl Tryz.ntmps113 rfl (fun β => ?_)
 revert H; refine B6 fun o1 H Hr1 => ?_
 refine aR (ι := List Int × Value) (fun i => o1 = i.1) (fun i => [(5, fEq i.2)]) (fun i => [aD i.2 3 (aB .i64) i.1]) ?_ ?_
 refine Z7 ?_
 refine oF (aB .i64) 3 ?_
 refine Tl (ι := Nat × List Int × Int × Value) (fun i => mQ a0 w0 w1 i.1 i.2.1 i.2.2.1 = _) (fun i => i.1) (fun i => [(0, aF jE a0), (2, aF (tFn Tryz.prog (fun (x : Scope_looker × Int) => [aF jE x.1, aA .i64 x.2]) (fun (r : Int) => aA .i64 r)) w1), (5, fEq i.2.2.2), (9, aA .i64 (w0.Nodes.length : Int)), (10, aA .i64 i.2.2.1)]) (fun i => [aD i.2.2.2 3 (aB .i64) i.2.1]) (fuel, [], 0, (.slice none 0 0)) H ?_
 clear H; rintro ⟨k1, x4, x5, v3⟩ H
 replace H : mQ a0 w0 w1 k1 x4 x5 = _ := H
 try dsimp only
 obtain _ | k1 := k1
 rw [mQ] at H; cases H
 rw [mQ] at H
 refine aN 0 rfl (fun hc_v3 => ?_)
 refine Z3 ?_
 refine aG ?_
 revert H; refine is (fun c1 H => ?_) fun c1 H => ?_
 refine Z3 ?_
 refine aG ?_
 revert H; refine B10 fun y1 h1 H => ?_
 refine aAo (a0, x5) trivial rfl rfl rfl (has rfl) (aO.cons (has rfl) (aO.cons (has rfl) aO.nil)) h1 ?_
 refine Tn (cH (t := (aB .i64)) (xs := [y1]) rfl (et rfl) (aQ.cons rfl (has rfl) (aS (aE trivial)) aQ.nil) rfl rfl rfl) fun b1 => ?_
 generalize (Value.slice (some ⟨b1, 0, none⟩) _ _) = v4
 refine aN 0 rfl (fun hc_v4 => ?_)
 revert H; refine bs fun z1 h2 H => ?_
 refine pQ trivial rfl rfl rfl (has rfl) (has rfl) (et rfl) rfl h2 (fun v5 => ?_)
 refine aN 0 rfl (fun hc_v5 => ?_)
 revert H; refine B5 fun z2 h3 H => ?_
 refine Z3 ?_
 exact Tm ((k1, z1, z2, v5)) ⟨H, ls⟩
 refine Z6 ?_
 exact Tm ((x4, v3)) (ij H)
 clear H; intro i hi; obtain ⟨x1, v1⟩ := i; subst o1; have H := Hr1; clear Hr1; try dsimp only at H
 try dsimp only
 refine aN 0 rfl (fun hc_v1 => ?_)
 refine Z5 ?_
 refine cR (φ := fSl (aB .i64) x1) (v := v1) [5, 21, 4] cL fz ?_
 refine cT ?_
 cases H
 exact To
def yI (fuel : Nat) (a0 : ScopeProg) (a1 : Scope_looker × Int → Option Int) : Option ((List Int) × Int) :=
 (yR fuel (⟨a0.Free, a0.Nodes, a0.Defs, a0.Main⟩ : ScopeProg) (fun x => vU fuel x (⟨a0.Free, a0.Nodes, a0.Defs, a0.Main⟩ : ScopeProg) a1)).bind fun y1 =>
 some (y1.1, y1.2)
theorem aF2 (fuel : Nat)  (a0 : ScopeProg) (a1 : Scope_looker × Int → Option Int) (r : (List Int) × Int) (H : yI fuel a0 a1 = some r) : FnS Tryz.prog 97 [fSt cY a0, fFn Tryz.prog (fun (x : Scope_looker × Int) => [aF jE x.1, aA .i64 x.2]) (fun (r : Int) => aA .i64 r) a1] [] (dC [fSl (aB .i64) r.1, aA .i64 r.2]) (fun _ => []) := by
 unfold yI at H
 refine bJ Tryz.func97 rfl Tryz.ntmps97 rfl (fun β => ?_)
 refine Z1 ?_
 refine Tn (cF rfl (has rfl) bO) fun b1 => ?_
 refine Tn (cF rfl (has rfl) (aS (aBm))) fun b2 => ?_
 refine Z5 ?_
 refine cI ?_
 refine cR (φ := aF cY (⟨a0.Free, a0.Nodes, a0.Defs, a0.Main⟩ : ScopeProg)) (v := ptr b1) [2] (gI aP.rfl) fz ?_
 refine cT ?_
 refine cR (φ := aF (tFn Tryz.prog (fun (x : Scope_looker × Int) => [aF jE x.1, aA .i64 x.2]) (fun (r : Int) => aA .i64 r)) a1) (v := ptr b2) [3] (gI aP.rfl) fz ?_
 refine cT ?_
 refine Yy (uB rfl (aO.cons hh (aO.cons hh aO.nil))) ?_
 revert H; refine bs fun y1 h1 H => ?_
 refine iE trivial rfl rfl rfl (has rfl) (aO.cons (has rfl) (aO.cons (dM rfl (ent_fn (cb rfl) (fun x r hx => aHz fuel x (⟨a0.Free, a0.Nodes, a0.Defs, a0.Main⟩ : ScopeProg) a1 r hx))) aO.nil)) rfl (cb rfl) (aHh fuel (⟨a0.Free, a0.Nodes, a0.Defs, a0.Main⟩ : ScopeProg) (fun x => vU fuel x (⟨a0.Free, a0.Nodes, a0.Defs, a0.Main⟩ : ScopeProg) a1) y1 h1) rfl ?_
 refine Z6 ?_
 cases H
 exact eW rfl (bL rfl) (bL rfl) rfl
def qS (a0 : Scope_looker) (a1 : Int) : Option (Int) :=
 (idx a0.sizes a1).bind fun y1 =>
 some y1
theorem aFu  (a0 : Scope_looker) (a1 : Int) (r : Int) (H : qS a0 a1 = some r) : FnS Tryz.prog 98 [aF jE a0, aA .i64 a1] [] (aA .i64 r) (fun _ => []) := by
 unfold qS at H
 refine bJ Tryz.func98 rfl Tryz.ntmps98 rfl (fun β => ?_)
 revert H; refine B9 fun y1 h1 H => ?_
 refine Z5 ?_
 cases H
 exact To
def tJ (fuel : Nat) (a0 : ScopeProg) : Option ((List Int) × Int) :=
 (yI fuel (⟨a0.Free, a0.Nodes, a0.Defs, a0.Main⟩ : ScopeProg) (fun x => qS x.1 x.2)).bind fun y1 =>
 some (y1.1, y1.2)
theorem aGw (fuel : Nat)  (a0 : ScopeProg) (r : (List Int) × Int) (H : tJ fuel a0 = some r) : FnS Tryz.prog 78 [fSt cY a0] [] (dC [fSl (aB .i64) r.1, aA .i64 r.2]) (fun _ => []) := by
 unfold tJ at H
 refine bJ Tryz.func78 rfl Tryz.ntmps78 rfl (fun β => ?_)
 refine Z1 ?_
 refine Tn (cF rfl (has rfl) bO) fun b1 => ?_
 revert H; refine B5 fun y1 h1 H => ?_
 refine iE trivial rfl rfl rfl (has rfl) (aO.cons (has rfl) (aO.cons (dM rfl (sA (cb rfl) (fun x r hx => aFu x.1 x.2 r hx))) aO.nil)) rfl (cb rfl) (aF2 fuel (⟨a0.Free, a0.Nodes, a0.Defs, a0.Main⟩ : ScopeProg) (fun x => qS x.1 x.2) y1 h1) rfl ?_
 refine Z6 ?_
 cases H
 refine aH [] (by decide) ?_
 exact eW rfl (bL rfl) (bL rfl) rfl
def pB {σ : Type} (Y : Int → σ → Option σ) (y1 : ScopeDef) : Nat → Int → σ → Option (σ)
| 0, _, _ => none
| k + 1, x3, x4 =>
 if x3 < (y1.Spots.length : Int) then
  (idx y1.Spots x3).bind fun y2 =>
  (Y y2.Node x4).bind fun y3 =>
  (chk (x3 + 1)).bind fun z1 =>
  pB Y y1 k z1 y3
 else
  some x4
def sG {σ : Type} (fuel : Nat) (Y : Int → σ → Option σ) (s0 : σ) (w0 : Usage_text) (w1 : Int) : Option (σ) :=
 (idx w0.ScopeProg.Defs w1).bind fun y1 =>
 pB Y y1 fuel 0 s0
theorem aAM (fuel : Nat) {σ : Type} (J : σ → Tk) (Y : Int → σ → Option σ) (s0 : σ) (w0 : Usage_text) (w1 : Int) (r : σ) (H : sG fuel Y s0 w0 w1 = some r) : FnS Tryz.prog 101 [iS Tryz.prog (fun (x : Int) => [aA .i64 x]) Y J, aF (fK eD) w0, aF (aB .i64) w1] [J s0] (dC []) (fun _ => [J r]) := by
 unfold sG at H
 refine bJ Tryz.func101 rfl Tryz.ntmps101 rfl (fun β => ?_)
 refine aG ?_
 revert H; refine bs fun y1 h1 H => ?_
 apply bC (ods := [_, _, _, _, _, _, _, _, _, _, _]) 11 0 1 bB rfl rfl rfl
 refine ND ?_
 refine M8 ?_
 intros
 refine M3 ?_
 intros
 refine Z3 ?_
 refine Tl (ι := Nat × Int × σ) (fun i => pB Y y1 i.1 i.2.1 i.2.2 = _) (fun i => i.1) (fun i => [(0, iS Tryz.prog (fun (x : Int) => [aA .i64 x]) Y J), (14, fSl bH y1.Spots), (15, aA .i64 (y1.Spots.length : Int)), (16, aA .i64 i.2.1)]) (fun i => [J i.2.2]) (fuel, 0, s0) H ?_
 clear H; rintro ⟨k1, x3, x4⟩ H
 replace H : pB Y y1 k1 x3 x4 = _ := H
 try dsimp only
 obtain _ | k1 := k1
 rw [pB] at H; cases H
 rw [pB] at H
 refine Z3 ?_
 refine aG ?_
 revert H; refine is (fun c1 H => ?_) fun c1 H => ?_
 refine Z3 ?_
 refine aG ?_
 revert H; refine B2 fun y2 h2 H => ?_
 refine Z2 ?_
 refine Tn (bZ rfl aAn rfl) fun b1 => ?_
 refine cS (φs' := [aA .i64 y2.In, aA .i64 y2.Node]) trivial rfl rfl (has rfl) (has rfl) (aJ (aE trivial) (aJ (aE trivial) bP)) (sz rfl) rfl rfl rfl ?_
 refine Z5 ?_
 refine cI ?_
 revert H; refine bs fun y3 h3 H => ?_
 refine yG y2.Node trivial rfl rfl rfl (has rfl) (aO.cons (has rfl) aO.nil) h3 ?_
 revert H; refine B7 fun z1 h4 H => ?_
 refine Z3 ?_
 refine aH [0] (by decide) ?_
 exact Tm ((k1, z1, y3)) ⟨H, ls⟩
 refine Z5 ?_
 cases H
 exact eZ (.inr rfl) rfl rfl
 exact fk
 kernel_rfl
def pO (a0 : Usage_text) (a1 : Int) : Option (Usage_text × Int) :=
 some (a0, a1)
theorem aAA  (a0 : Usage_text) (a1 : Int) (r : Usage_text × Int) (H : pO a0 a1 = some r) : FnS Tryz.prog 83 [aF eD a0, aA .i64 a1] [] (dF 101 [aF (fK eD) r.1, aF (aB .i64) r.2]) (fun _ => []) := by
 unfold pO at H
 refine bJ Tryz.func83 rfl Tryz.ntmps83 rfl (fun β => ?_)
 refine Z1 ?_
 refine Tn (cF rfl (has rfl) (aS (tH))) fun b1 => ?_
 refine Tn (cF rfl (has rfl) (aS (aE trivial))) fun b2 => ?_
 refine Z3 ?_
 refine cI ?_
 refine cR (φ := aF (fK eD) a0) (v := ptr b1) [2] (gI aP.rfl) fz ?_
 refine cT ?_
 refine cR (φ := aF (aB .i64) a1) (v := ptr b2) [3] (gI aP.rfl) fz ?_
 refine cT ?_
 refine Yy (uB rfl (aO.cons hh (aO.cons hh aO.nil))) ?_
 refine Z3 ?_
 cases H
 exact To
def nV {σ : Type} (Y : Int → σ → Option σ) (y1 : ScopeNode) : Nat → Int → σ → Option (σ)
| 0, _, _ => none
| k + 1, x4, x5 =>
 if x4 < (y1.Kids.length : Int) then
  (idx y1.Kids x4).bind fun y2 =>
  (Y y2 x5).bind fun y3 =>
  (chk (x4 + 1)).bind fun z1 =>
  nV Y y1 k z1 y3
 else
  some x5
def sP {σ : Type} (Y : Int → σ → Option σ) (x6 : Int) (x8 : σ) : Option (σ) :=
 (Y x6 x8).bind fun y6 =>
 some y6
def oA {σ : Type} (Y : Int → σ → Option σ) (y7 : ScopeDef) : Nat → Int → σ → Option (σ)
| 0, _, _ => none
| k + 1, x12, x13 =>
 if x12 < (y7.Rules.length : Int) then
  (idx y7.Rules x12).bind fun y8 =>
  (Y y8.Node x13).bind fun y9 =>
  (chk (x12 + 1)).bind fun z2 =>
  oA Y y7 k z2 y9
 else
  some x13
def vY {σ : Type} (fuel : Nat) (Y : Int → σ → Option σ) (s0 : σ) (w0 : Usage_text) (w1 : Int) : Option (σ) :=
 (idx w0.ScopeProg.Nodes w1).bind fun y1 =>
 (nV Y y1 fuel 0 s0).bind fun x1 =>
 if y1.Op ≠ 4 then
  some x1
 else
  (pO w0 y1.N).bind fun y4 =>
  (sG fuel (fun (x : Int) (t : σ) => sP Y x t) x1 y4.1 y4.2).bind fun y5 =>
  (idx w0.ScopeProg.Defs y1.N).bind fun y7 =>
  oA Y y7 fuel 0 y5
theorem aHe (fuel : Nat) {σ : Type} (J : σ → Tk) (Y : Int → σ → Option σ) (s0 : σ) (w0 : Usage_text) (w1 : Int) (r : σ) (H : vY fuel Y s0 w0 w1 = some r) : FnS Tryz.prog 114 [iS Tryz.prog (fun (x : Int) => [aA .i64 x]) Y J, aF (fK eD) w0, aF (aB .i64) w1] [J s0] (dC []) (fun _ => [J r]) := by
 unfold vY at H
 refine sK Tryz.func114 rfl Tryz.ntmps114 rfl (fun β => ?_)
 refine Z1 ?_
 refine Tn (cF rfl (has rfl) (aS (aHo))) fun b1 => ?_
 refine Z1 ?_
 refine aG ?_
 revert H; refine bs fun y1 h1 H => ?_
 apply bC (ods := [_, _, _, _, _, _, _, _, _, _]) 10 1 3 bB rfl rfl rfl
 refine ND ?_
 refine M8 ?_
 intros
 refine Mn 2 (fun b2 => ptr b2) (fun b2 => aC b2 51 [aA .i64 0, aA .i64 0, fEq (.slice none 0 0), fEq (.slice none 0 0)]) rfl (bZ rfl hZ rfl) (fun b2 u1 => ?_)
 refine oT (od := od1 8 [2] true (fun b2 _ => fAny) (fun b2 _ => [aC b2 51 [aA .i64 y1.Op, aA .i64 y1.N, fSl bD y1.Args, fSl (aB .i64) y1.Kids]])) (p := 2) (φs' := [aA .i64 y1.Op, aA .i64 y1.N, fSl bD y1.Args, fSl (aB .i64) y1.Kids]) rfl (fun _ => rfl) (fun _ => rfl) trivial rfl rfl rfl (has rfl) (has rfl) (aJ (aE trivial) (aJ (aE trivial) (aJ (bA) (aJ (bA) bP)))) (sz rfl) rfl rfl rfl (fun _ => ?_)
 revert H; refine B2 fun o1 H Hr1 => ?_
 refine aR (ι := σ) (fun i => o1 = i) (fun i => [(1, aF (fK eD) w0), (3, fEq (ptr b1)), (4, fEq (ptr b2))]) (fun i => [aC b1 158 [iS Tryz.prog (fun (x : Int) => [aA .i64 x]) Y J], aC b2 51 [aA .i64 y1.Op, aA .i64 y1.N, fSl bD y1.Args, fSl (aB .i64) y1.Kids], J i]) ?_ ?_
 refine Z7 ?_
 refine aH [0, 2, 1] (by decide) ?_
 refine Tl (ι := Nat × Int × σ) (fun i => nV Y y1 i.1 i.2.1 i.2.2 = _) (fun i => i.1) (fun i => [(1, aF (fK eD) w0), (3, fEq (ptr b1)), (4, fEq (ptr b2)), (19, fSl (aB .i64) y1.Kids), (20, aA .i64 (y1.Kids.length : Int)), (21, aA .i64 i.2.1)]) (fun i => [aC b1 158 [iS Tryz.prog (fun (x : Int) => [aA .i64 x]) Y J], aC b2 51 [aA .i64 y1.Op, aA .i64 y1.N, fSl bD y1.Args, fSl (aB .i64) y1.Kids], J i.2.2]) (fuel, 0, s0) H ?_
 clear H; rintro ⟨k1, x4, x5⟩ H
 replace H : nV Y y1 k1 x4 x5 = _ := H
 try dsimp only
 obtain _ | k1 := k1
 rw [nV] at H; cases H
 rw [nV] at H
 refine Z3 ?_
 refine aG ?_
 revert H; refine is (fun c1 H => ?_) fun c1 H => ?_
 refine Z3 ?_
 refine aG ?_
 revert H; refine B2 fun y2 h2 H => ?_
 refine Z7 ?_
 refine eB ?_
 revert H; refine bs fun y3 h3 H => ?_
 refine yG y2 trivial rfl rfl rfl (has rfl) (aO.cons (has rfl) aO.nil) h3 ?_
 revert H; refine B7 fun z1 h4 H => ?_
 refine Z3 ?_
 refine aH [1, 2, 0] (by decide) ?_
 exact Tm ((k1, z1, y3)) ⟨H, ls⟩
 refine Z6 ?_
 exact Tm (x5) (ij H)
 clear H; intro x1 hi; subst o1; have H := Hr1; clear Hr1; try dsimp only at H
 try dsimp only
 refine aG ?_
 revert H; refine I5 (fun c2 H => ?_) fun c2 H => ?_
 refine Z2 ?_
 cases H
 refine aH [2] (by decide) ?_
 exact aBd [] (.inl rfl) rfl rfl rfl
 refine Z3 ?_
 refine aG ?_
 revert H; refine B4 fun y4 h5 H => ?_
 refine Tc (aAA _ _ _ h5) ?_
 refine Z2 ?_
 refine T_sub [(1, aF (fK eD) w0), (3, fEq (ptr b1)), (4, fEq (ptr b2)), (30, fEq (ptr b2)), (31, aA .i64 y1.Op), (32, aL (decide (y1.Op ≠ 4))), (33, aF eD w0), (34, fEq (.pointer (some ⟨b2, 1, none⟩))), (35, aA .i64 y1.N), (36, dF 101 [aF (fK eD) y4.1, aF (aB .i64) y4.2])] (Sc (Sc (Sc (Sc (Sc (Sc (Sc (Sc (Sc (Sc fR.nil)))))))))) ?_
 revert H; refine bs fun y5 h6 H => ?_
 refine yA (s := x1) (s' := y5) (fun (x : Int) => [aA .i64 x]) (fun (x : Int) (t : σ) => sP Y x t) (fun (t : σ) => [aC b1 158 [iS Tryz.prog (fun (x : Int) => [aA .i64 x]) Y J], aC b2 51 [aA .i64 y1.Op, aA .i64 y1.N, fSl bD y1.Args, fSl (aB .i64) y1.Kids], J t]) (has rfl) (cb rfl) rfl (fun _ => rfl) rfl (fun J => aAM fuel J (fun (x : Int) (t : σ) => sP Y x t) x1 y4.1 y4.2 y5 h6) (fun β' l rec x6 t t' hs hp hY => ?_) (fun rb => ?_)
 generalize t = x8 at *
 have H : sP Y x6 x8 = some t' := hY; clear hY; unfold sP at H; try dsimp only at H
 show T β' _ _ (qM [37] ((fun (x : Int) => [aA .i64 x]) x6) [(1, aF (fK eD) w0), (3, fEq (ptr b1)), (4, fEq (ptr b2)), (30, fEq (ptr b2)), (31, aA .i64 y1.Op), (32, aL (decide (y1.Op ≠ 4))), (33, aF eD w0), (34, fEq (.pointer (some ⟨b2, 1, none⟩))), (35, aA .i64 y1.N), (36, dF 101 [aF (fK eD) y4.1, aF (aB .i64) y4.2])]) (tObj l (.loop rec) :: [aC b1 158 [iS Tryz.prog (fun (x : Int) => [aA .i64 x]) Y J], aC b2 51 [aA .i64 y1.Op, aA .i64 y1.N, fSl bD y1.Args, fSl (aB .i64) y1.Kids], J x8]) _
 refine Z3 ?_
 refine zT hs ?_
 refine Z4 ?_
 refine cX ?_
 revert H; refine bs fun y6 h7 H => ?_
 refine yG x6 trivial rfl rfl rfl (has rfl) (aO.cons (has rfl) aO.nil) h7 ?_
 refine Z5 ?_
 refine aH [2, 3, 0, 1] (by decide) ?_
 cases H
 refine aH [3, 0, 1, 2] (by decide) ?_
 exact yC hs hp rfl
 generalize rb = rb1
 show T β _ _ [(1, aF (fK eD) w0), (3, fEq (ptr b1)), (4, fEq (ptr b2)), (30, fEq (ptr b2)), (31, aA .i64 y1.Op), (32, aL (decide (y1.Op ≠ 4))), (33, aF eD w0), (34, fEq (.pointer (some ⟨b2, 1, none⟩))), (35, aA .i64 y1.N), (36, dF 101 [aF (fK eD) y4.1, aF (aB .i64) y4.2])] ([jM rb1] ++ [aC b1 158 [iS Tryz.prog (fun (x : Int) => [aA .i64 x]) Y J], aC b2 51 [aA .i64 y1.Op, aA .i64 y1.N, fSl bD y1.Args, fSl (aB .i64) y1.Kids], J y5]) _
 dsimp only [List.append, List.cons_append, List.nil_append]
 refine Z2 ?_
 refine aG ?_
 revert H; refine bs fun y7 h8 H => ?_
 apply bC (ods := [_, _, _, _, _, _, _, _, _, _, _, _]) 12 0 4 bB rfl rfl rfl
 refine ND ?_
 refine M8 ?_
 intros
 refine M4 ?_
 intros
 refine Z3 ?_
 refine aH [1, 2, 0, 3] (by decide) ?_
 refine Tl (ι := Nat × Int × σ) (fun i => oA Y y7 i.1 i.2.1 i.2.2 = _) (fun i => i.1) (fun i => [(3, fEq (ptr b1)), (51, fSl aZ y7.Rules), (52, aA .i64 (y7.Rules.length : Int)), (53, aA .i64 i.2.1)]) (fun i => [aC b1 158 [iS Tryz.prog (fun (x : Int) => [aA .i64 x]) Y J], aC b2 51 [aA .i64 y1.Op, aA .i64 y1.N, fSl bD y1.Args, fSl (aB .i64) y1.Kids], jM rb1, J i.2.2]) (fuel, 0, y5) H ?_
 clear H; rintro ⟨k2, x12, x13⟩ H
 replace H : oA Y y7 k2 x12 x13 = _ := H
 try dsimp only
 obtain _ | k2 := k2
 rw [oA] at H; cases H
 rw [oA] at H
 refine Z3 ?_
 refine aG ?_
 revert H; refine is (fun c3 H => ?_) fun c3 H => ?_
 refine Z3 ?_
 refine aG ?_
 revert H; refine B2 fun y8 h9 H => ?_
 refine Z2 ?_
 refine Tn (bZ rfl tG rfl) fun b3 => ?_
 refine cS (φs' := [aA .i64 y8.At, fSl (aB .i64) y8.Joins, aA .i64 y8.Node]) trivial rfl rfl (has rfl) (has rfl) (aJ (aE trivial) (aJ (bA) (aJ (aE trivial) bP))) (sz rfl) rfl rfl rfl ?_
 refine Z5 ?_
 refine bK ?_
 revert H; refine bs fun y9 h10 H => ?_
 refine yG y8.Node trivial rfl rfl rfl (has rfl) (aO.cons (has rfl) aO.nil) h10 ?_
 revert H; refine B7 fun z2 h11 H => ?_
 refine Z3 ?_
 refine aH [2, 3, 4, 0] (by decide) ?_
 exact Tm ((k2, z2, y9)) ⟨H, ls⟩
 refine Z5 ?_
 cases H
 refine aH [2, 3] (by decide) ?_
 exact aBd [rb1] (.inr rfl) rfl rfl rfl
 exact fk
 kernel_rfl
 exact fk
 kernel_rfl
def xQ (a0 : Usage_text) (a1 : Int) : Option (Usage_text × Int) :=
 some (a0, a1)
theorem aEV  (a0 : Usage_text) (a1 : Int) (r : Usage_text × Int) (H : xQ a0 a1 = some r) : FnS Tryz.prog 99 [aF eD a0, aA .i64 a1] [] (dF 114 [aF (fK eD) r.1, aF (aB .i64) r.2]) (fun _ => []) := by
 unfold xQ at H
 refine bJ Tryz.func99 rfl Tryz.ntmps99 rfl (fun β => ?_)
 refine Z1 ?_
 refine Tn (cF rfl (has rfl) (aS (tH))) fun b1 => ?_
 refine Tn (cF rfl (has rfl) (aS (aE trivial))) fun b2 => ?_
 refine Z3 ?_
 refine cI ?_
 refine cR (φ := aF (fK eD) a0) (v := ptr b1) [2] (gI aP.rfl) fz ?_
 refine cT ?_
 refine cR (φ := aF (aB .i64) a1) (v := ptr b2) [3] (gI aP.rfl) fz ?_
 refine cT ?_
 refine Yy (uB rfl (aO.cons hh (aO.cons hh aO.nil))) ?_
 refine Z3 ?_
 cases H
 exact To
end Go.Proofs.YtmnbfgeljmhekaaGreat
set_option maxRecDepth 100000
set_option maxHeartbeats 2000000
namespace Go.Proofs.YtmnbfgeljmhekaaGreat
open Go.SX Go.SW Go.Dt
attribute [local irreducible] Code.wpIn wpListIn Exit.then Exit.inBlock
def kL (a0 : Usage_text) (a1 : Int) (y2 : ScopeNode) (y5 : ScopeDef) : Nat → Int → (aT Int Usage_channel) → Option (aT Int Usage_channel)
| 0, _, _ => none
| k + 1, x7, x8 =>
 if x7 < (y5.Chans.length : Int) then
  (idx a0.sizes a1).bind fun y6 =>
  (chk (y6 + x7)).bind fun z1 =>
  (chk (x7 + 1)).bind fun z2 =>
  kL a0 a1 y2 y5 k z2 (aT.upd x8 z1 (⟨y2.N, x7⟩ : Usage_channel))
 else
  some x8
def rJ (rec_usage_text_fill : Usage_text → Int → (aT Int Usage_channel) → Option (List (aT Int Usage_channel) × List Int)) (a0 : Usage_text) (x1 : aT Int Usage_channel) (x9 : Int) (x12 : List (aT Int Usage_channel)) (x13 : List Int) : Option (List (aT Int Usage_channel) × List Int) :=
 (rec_usage_text_fill ({ a0 with denotes := x12, heads := x13 }) x9 x1).bind fun y9 =>
 some (y9.1, y9.2)
def jU : Nat → Usage_text → Int → (aT Int Usage_channel) → Option (List (aT Int Usage_channel) × List Int)
| 0, _, _, _ => none
| fuel + 1, a0, a1, a2 =>
 (idx a0.denotes a1).bind fun y1 =>
 (idx a0.ScopeProg.Nodes a1).bind fun y2 =>
 (if y2.Op = 4 then
  (idx a0.heads y2.N).bind fun y3 =>
  (some ()).bind fun _ =>
  ((idx a0.ScopeProg.Defs y2.N).bind fun y5 =>
  kL a0 a1 y2 y5 fuel 0 a2).bind fun x4 =>
  some (x4, a0.heads.set y2.N.toNat a1)
 else
  some (a2, a0.heads)).bind fun (x1, x2) =>
 (xQ a0 a1).bind fun y7 =>
 (vY fuel (fun (x : Int) (t : List (aT Int Usage_channel) × List Int) => rJ (jU fuel) a0 x1 x t.1 t.2) (a0.denotes.set a1.toNat a2, x2) y7.1 y7.2).bind fun y8 => match y8 with
 | (x14, x15) =>
 some (x14, x15)
theorem aHl : ∀ (fuel : Nat), (∀ (h0_0 : Value) (h0_1 : Value) (a0 : Usage_text) (a1 : Int) (a2 : aT Int Usage_channel) (r : List (aT Int Usage_channel) × List Int) (H : jU fuel a0 a1 a2 = some r), FnS Tryz.prog 79 [aF fQ (⟨a0.ScopeProg, h0_0, a0.sizes, h0_1⟩ : Usage_text_R), aA .i64 a1, fM cU (fun y => fSt dO y) a2] [aD h0_0 123 (gA cU (fun y => fSt dO y)) a0.denotes, aD h0_1 3 (aB .i64) a0.heads] (dC []) (fun _ => [aD h0_0 123 (gA cU (fun y => fSt dO y)) r.1, aD h0_1 3 (aB .i64) r.2])) := by
 intro fuel
 induction fuel with
 | zero => exact fun h0_0 h0_1 a0 a1 a2 r H => (by rw [jU] at H; cases H)
 | succ fuel ih =>
 have ih_usage_text_fill := ih
 refine ?_
 intro h0_0 h0_1 a0 a1 a2 r H
 rw [jU] at H
 refine sK Tryz.func79 rfl Tryz.ntmps79 rfl (fun β => ?_)
 refine Z1 ?_
 refine Tn (cF rfl (has rfl) (aS (tH))) fun b1 => ?_
 refine Tn (cF rfl (has rfl) (aS (aBh))) fun b2 => ?_
 refine Z1 ?_
 refine aG ?_
 revert H; refine bs fun y1 h1 H => ?_
 apply bC (ods := [_, _, _, _, _, _, _, _]) 8 0 4 bB rfl rfl rfl
 refine ND ?_
 refine M3 ?_
 intros
 refine My (aEB rfl hh (sc rfl) rfl gQ) fun _ => ?_
 refine M3 ?_
 intros
 refine qB (od := odC [2] true (fAny) [aD h0_0 123 (gA cU (fun y => fSt dO y)) (a0.denotes.set a1.toNat a2)]) (p := 2) (z' := a2) rfl (fun _ => rfl) (fun _ => rfl) trivial rfl rfl rfl rfl (has rfl) (has rfl) (aBh) (sz rfl) (cB h1) rfl rfl (fun _ => ?_)
 revert H; refine B9 fun y2 h2 H => ?_
 refine Z2 ?_
 refine Tn (bZ rfl hZ rfl) fun b3 => ?_
 refine cS (φs' := [aA .i64 y2.Op, aA .i64 y2.N, fSl bD y2.Args, fSl (aB .i64) y2.Kids]) trivial rfl rfl (has rfl) (has rfl) (aJ (aE trivial) (aJ (aE trivial) (aJ (bA) (aJ (bA) bP)))) (sz rfl) rfl rfl rfl ?_
 revert H; refine B1 fun o1 H Hr1 => ?_
 refine aR (ι := aT Int Usage_channel × List Int) (fun i => o1 = (i.1, i.2)) (fun i => [(0, aF fQ (⟨a0.ScopeProg, h0_0, a0.sizes, h0_1⟩ : Usage_text_R)), (1, aA .i64 a1), (3, fEq (ptr b1)), (5, fEq (ptr b2))]) (fun i => [aC b2 123 [fM cU (fun y => fSt dO y) i.1], aC b3 51 [aA .i64 y2.Op, aA .i64 y2.N, fSl bD y2.Args, fSl (aB .i64) y2.Kids], aC b1 64 [aF fQ (⟨a0.ScopeProg, h0_0, a0.sizes, h0_1⟩ : Usage_text_R)], aD h0_0 123 (gA cU (fun y => fSt dO y)) (a0.denotes.set a1.toNat a2), aD h0_1 3 (aB .i64) i.2]) ?_ ?_
 revert H; refine I5 (fun c1 H => ?_) fun c1 H => ?_
 refine Z1 ?_
 refine aG ?_
 revert H; refine bs fun y3 h3 H => ?_
 apply bC (ods := [_, _, _, _, _, _, _, _, _]) 9 0 5 bB rfl rfl rfl
 refine ND ?_
 refine M3 ?_
 intros
 refine My (aEB rfl hh (sc rfl) rfl gQ) fun _ => ?_
 refine M4 ?_
 intros
 refine qB (od := odC [4] true (fAny) [aD h0_1 3 (aB .i64) (a0.heads.set y2.N.toNat a1)]) (p := 4) (z' := a1) rfl (fun _ => rfl) (fun _ => rfl) trivial rfl rfl rfl rfl (has rfl) (has rfl) (aE trivial) (sz rfl) (cB h3) rfl rfl (fun _ => ?_)
 refine Z3 ?_
 refine Tn (zJ (fun y => fSt dO y) cU rfl) fun b4 => ?_
 revert H; refine B2 fun o2 H Hr2 => ?_
 refine aR (ι := Unit) (fun i => o2 = ()) (fun i => [(0, aF fQ (⟨a0.ScopeProg, h0_0, a0.sizes, h0_1⟩ : Usage_text_R)), (1, aA .i64 a1), (3, fEq (ptr b1)), (5, fEq (ptr b2)), (6, fEq (ptr b3)), (7, fEq (.map (some b4)))]) (fun i => [aC b3 51 [aA .i64 y2.Op, aA .i64 y2.N, fSl bD y2.Args, fSl (aB .i64) y2.Kids], aC b2 123 [fM cU (fun y => fSt dO y) a2], aC b1 64 [aF fQ (⟨a0.ScopeProg, h0_0, a0.sizes, h0_1⟩ : Usage_text_R)], gS cU (fun y => fSt dO y) b4 a2, aD h0_0 123 (gA cU (fun y => fSt dO y)) (a0.denotes.set a1.toNat a2), aD h0_1 3 (aB .i64) (a0.heads.set y2.N.toNat a1)]) ?_ ?_
 refine Z2 ?_
 refine Tn (n_range (kd := cU) (vf := (fun y => fSt dO y)) (g := a2) rfl (has rfl) wV) fun b5 => ?_
 refine Z2 ?_
 refine aH [2, 3, 4, 1, 5, 6, 0] (by decide) ?_
 refine Tl (ι := aT Int Usage_channel) (fun _ => True) (fun i => a2.size - i.size) (fun i => [(0, aF fQ (⟨a0.ScopeProg, h0_0, a0.sizes, h0_1⟩ : Usage_text_R)), (1, aA .i64 a1), (3, fEq (ptr b1)), (5, fEq (ptr b2)), (6, fEq (ptr b3)), (7, fEq (.map (some b4))), (40, fEq (ptr b5))]) (fun i => [aC b3 51 [aA .i64 y2.Op, aA .i64 y2.N, fSl bD y2.Args, fSl (aB .i64) y2.Kids], aC b2 123 [fM cU (fun y => fSt dO y) a2], aC b1 64 [aF fQ (⟨a0.ScopeProg, h0_0, a0.sizes, h0_1⟩ : Usage_text_R)], gS cU (fun y => fSt dO y) b4 i, aD h0_0 123 (gA cU (fun y => fSt dO y)) (a0.denotes.set a1.toNat a2), aD h0_1 3 (aB .i64) (a0.heads.set y2.N.toNat a1), xA cU (fun y => fSt dO y) b5 a2 i]) aT.none trivial ?_
 intro g1 _
 try dsimp only
 refine Z1 ?_
 refine nO ?_
 refine T_next trivial rfl rfl rfl (has rfl) (fun hg => ?_) (fun x3 y4 h4 h5 h6 => ?_)
 subst hg
 refine Z2 ?_
 refine aG ?_
 refine Z6 ?_
 refine aH [1, 2, 3, 4, 5, 6] (by decide) ?_
 exact Tm (()) (ij H)
 refine Z2 ?_
 refine aG ?_
 refine Z5 ?_
 refine Yo 0 rfl (o_entry rfl hh) ?_
 refine Z2 ?_
 refine Tn (bZ rfl aA8 rfl) fun b6 => ?_
 refine Z1 ?_
 refine cS (φs' := [aA .i64 y4.def_, aA .i64 y4.index]) trivial rfl rfl (has rfl) (has rfl) (aJ (aE trivial) (aJ (aE trivial) bP)) (sz rfl) rfl rfl rfl ?_
 refine Z5 ?_
 refine lC ?_
 refine iN (k := x3) (y := (⟨y4.def_, y4.index⟩ : Usage_channel)) trivial (.inl rfl) rfl (has rfl) (has rfl) rfl (has rfl) rfl wV ?_
 refine Z3 ?_
 refine eB ?_
 refine T_iterC ?_
 refine aH [3, 4, 5, 1, 6, 7, 0] (by decide) ?_
 exact Tm (aT.upd g1 x3 y4) ⟨trivial, upd_meas h5 h6⟩
 clear H; intro i hi; subst o2; have H := Hr2; clear Hr2; try dsimp only at H
 try dsimp only
 revert H; refine bs fun o3 H Hr3 => ?_
 refine aR (ι := aT Int Usage_channel) (fun i => o3 = i) (fun i => [(0, aF fQ (⟨a0.ScopeProg, h0_0, a0.sizes, h0_1⟩ : Usage_text_R)), (1, aA .i64 a1), (3, fEq (ptr b1)), (5, fEq (ptr b2)), (7, fEq (.map (some b4)))]) (fun i => [aC b3 51 [aA .i64 y2.Op, aA .i64 y2.N, fSl bD y2.Args, fSl (aB .i64) y2.Kids], aC b2 123 [fM cU (fun y => fSt dO y) a2], aC b1 64 [aF fQ (⟨a0.ScopeProg, h0_0, a0.sizes, h0_1⟩ : Usage_text_R)], gS cU (fun y => fSt dO y) b4 i, aD h0_0 123 (gA cU (fun y => fSt dO y)) (a0.denotes.set a1.toNat a2), aD h0_1 3 (aB .i64) (a0.heads.set y2.N.toNat a1)]) ?_ ?_
 refine aG ?_
 revert H; refine bs fun y5 h7 H => ?_
 apply bC (ods := [_, _, _, _, _, _, _, _, _, _, _, _]) 12 0 6 bB rfl rfl rfl
 refine ND ?_
 refine M8 ?_
 intros
 refine M4 ?_
 intros
 refine Z3 ?_
 refine Tl (ι := Nat × Int × aT Int Usage_channel) (fun i => kL a0 a1 y2 y5 i.1 i.2.1 i.2.2 = _) (fun i => i.1) (fun i => [(0, aF fQ (⟨a0.ScopeProg, h0_0, a0.sizes, h0_1⟩ : Usage_text_R)), (1, aA .i64 a1), (3, fEq (ptr b1)), (5, fEq (ptr b2)), (6, fEq (ptr b3)), (7, fEq (.map (some b4))), (59, aA .i64 (y5.Chans.length : Int)), (60, aA .i64 i.2.1)]) (fun i => [aC b3 51 [aA .i64 y2.Op, aA .i64 y2.N, fSl bD y2.Args, fSl (aB .i64) y2.Kids], aC b2 123 [fM cU (fun y => fSt dO y) a2], aC b1 64 [aF fQ (⟨a0.ScopeProg, h0_0, a0.sizes, h0_1⟩ : Usage_text_R)], gS cU (fun y => fSt dO y) b4 i.2.2, aD h0_0 123 (gA cU (fun y => fSt dO y)) (a0.denotes.set a1.toNat a2), aD h0_1 3 (aB .i64) (a0.heads.set y2.N.toNat a1)]) (fuel, 0, a2) H ?_
 clear H; rintro ⟨k1, x7, x8⟩ H
 replace H : kL a0 a1 y2 y5 k1 x7 x8 = _ := H
 try dsimp only
 obtain _ | k1 := k1
 rw [kL] at H; cases H
 rw [kL] at H
 refine Z3 ?_
 refine aG ?_
 revert H; refine is (fun c2 H => ?_) fun c2 H => ?_
 refine Z3 ?_
 refine aG ?_
 revert H; refine B5 fun y6 h8 H => ?_
 revert H; refine bs fun z1 h9 H => ?_
 apply bC (ods := [_, _, _, _, _, _, _, _, _, _, _, _, _, _]) 14 0 6 bB rfl rfl rfl
 refine ND ?_
 refine M8 ?_
 intros
 refine M5 ?_
 intros
 refine My (dN (ψs := [aA .i64 y2.N, aA .i64 x7]) rfl aG1 rfl (aW.cons (has rfl) (aS (aE trivial)) (aW.cons (has rfl) (aS (aE trivial)) aW.nil)) rfl) fun _ => ?_
 refine Z1 ?_
 refine cX ?_
 refine iN (k := z1) (y := (⟨y2.N, x7⟩ : Usage_channel)) trivial (.inl rfl) rfl (has rfl) (has rfl) rfl (has rfl) rfl wV ?_
 revert H; refine B4 fun z2 h10 H => ?_
 refine Z3 ?_
 refine aH [1, 2, 3, 0, 4, 5] (by decide) ?_
 exact Tm ((k1, z2, aT.upd x8 z1 (⟨y2.N, x7⟩ : Usage_channel))) ⟨H, ls⟩
 exact fk
 kernel_rfl
 refine Z6 ?_
 exact Tm (x8) (ij H)
 exact fk
 kernel_rfl
 clear H; intro x4 hi; subst o3; have H := Hr3; clear Hr3; try dsimp only at H
 try dsimp only
 refine Z2 ?_
 refine cI ?_
 refine dA (φs' := [fEq (.map (some b4))]) trivial rfl rfl (has rfl) (has rfl) (aE trivial) (sz rfl) rfl rfl ?_
 refine Z1 ?_
 refine cX ?_
 refine cR (φ := fM cU (fun y => fSt dO y) x4) (v := .map (some b4)) [7, 78] aAr fz ?_
 refine gN (φs' := [fM cU (fun y => fSt dO y) x4]) (i := 0) rfl rfl ?_
 refine cT ?_
 exact Tm ((x4, a0.heads.set y2.N.toNat a1)) (ij H)
 exact fk
 kernel_rfl
 refine Z3 ?_
 refine aH [1, 0, 2, 3, 4] (by decide) ?_
 exact Tm ((a2, a0.heads)) (ij H)
 clear H; intro i hi; obtain ⟨x1, x2⟩ := i; subst o1; have H := Hr1; clear Hr1; try dsimp only at H
 try dsimp only
 revert H; refine B3 fun y7 h11 H => ?_
 refine iE trivial rfl rfl rfl (has rfl) (aO.cons (dM rfl (aFf)) (aO.cons (has rfl) aO.nil)) rfl (cb rfl) (aEV a0 a1 y7 h11) rfl ?_
 refine Z2 ?_
 refine T_sub [(0, aF fQ (⟨a0.ScopeProg, h0_0, a0.sizes, h0_1⟩ : Usage_text_R)), (1, aA .i64 a1), (3, fEq (ptr b1)), (5, fEq (ptr b2)), (79, aF fQ (⟨a0.ScopeProg, h0_0, a0.sizes, h0_1⟩ : Usage_text_R)), (80, aA .i64 a1), (81, dF 114 [aF (fK eD) y7.1, aF (aB .i64) y7.2])] (Sc (Sc (Sc (Sc (Sc (Sc (Sc fR.nil))))))) ?_
 revert H; refine bs fun y8 h12 H => ?_
 refine yA (s := (a0.denotes.set a1.toNat a2, x2)) (s' := y8) (fun (x : Int) => [aA .i64 x]) (fun (x : Int) (t : List (aT Int Usage_channel) × List Int) => rJ (jU fuel) a0 x1 x t.1 t.2) (fun (t : List (aT Int Usage_channel) × List Int) => [aC b2 123 [fM cU (fun y => fSt dO y) x1], aC b3 51 [aA .i64 y2.Op, aA .i64 y2.N, fSl bD y2.Args, fSl (aB .i64) y2.Kids], aC b1 64 [aF fQ (⟨a0.ScopeProg, h0_0, a0.sizes, h0_1⟩ : Usage_text_R)], aD h0_0 123 (gA cU (fun y => fSt dO y)) t.1, aD h0_1 3 (aB .i64) t.2]) (has rfl) (cb rfl) rfl (fun _ => rfl) rfl (fun J => aHe fuel J (fun (x : Int) (t : List (aT Int Usage_channel) × List Int) => rJ (jU fuel) a0 x1 x t.1 t.2) (a0.denotes.set a1.toNat a2, x2) y7.1 y7.2 y8 h12) (fun β' l rec x9 t t' hs hp hY => ?_) (fun rb => ?_)
 obtain ⟨x12, x13⟩ := t
 have H : rJ (jU fuel) a0 x1 x9 x12 x13 = some t' := hY; clear hY; unfold rJ at H; try dsimp only at H
 show T β' _ _ (qM [82] ((fun (x : Int) => [aA .i64 x]) x9) [(0, aF fQ (⟨a0.ScopeProg, h0_0, a0.sizes, h0_1⟩ : Usage_text_R)), (1, aA .i64 a1), (3, fEq (ptr b1)), (5, fEq (ptr b2)), (79, aF fQ (⟨a0.ScopeProg, h0_0, a0.sizes, h0_1⟩ : Usage_text_R)), (80, aA .i64 a1), (81, dF 114 [aF (fK eD) y7.1, aF (aB .i64) y7.2])]) (tObj l (.loop rec) :: [aC b2 123 [fM cU (fun y => fSt dO y) x1], aC b3 51 [aA .i64 y2.Op, aA .i64 y2.N, fSl bD y2.Args, fSl (aB .i64) y2.Kids], aC b1 64 [aF fQ (⟨a0.ScopeProg, h0_0, a0.sizes, h0_1⟩ : Usage_text_R)], aD h0_0 123 (gA cU (fun y => fSt dO y)) x12, aD h0_1 3 (aB .i64) x13]) _
 refine Z3 ?_
 refine zT hs ?_
 refine Z5 ?_
 refine lC ?_
 refine lC ?_
 revert H; refine bs fun y9 h13 H => ?_
 refine Tc (ih_usage_text_fill _ _ _ _ _ _ h13) ?_
 refine Z2 ?_
 refine aH [3, 4, 5, 0, 1, 2] (by decide) ?_
 cases H
 refine aH [5, 0, 1, 2, 3, 4] (by decide) ?_
 exact yC hs hp rfl
 obtain ⟨x14, x15⟩ := y8; dsimp only at H
 generalize rb = rb1
 show T β _ _ [(0, aF fQ (⟨a0.ScopeProg, h0_0, a0.sizes, h0_1⟩ : Usage_text_R)), (1, aA .i64 a1), (3, fEq (ptr b1)), (5, fEq (ptr b2)), (79, aF fQ (⟨a0.ScopeProg, h0_0, a0.sizes, h0_1⟩ : Usage_text_R)), (80, aA .i64 a1), (81, dF 114 [aF (fK eD) y7.1, aF (aB .i64) y7.2])] ([jM rb1] ++ [aC b2 123 [fM cU (fun y => fSt dO y) x1], aC b3 51 [aA .i64 y2.Op, aA .i64 y2.N, fSl bD y2.Args, fSl (aB .i64) y2.Kids], aC b1 64 [aF fQ (⟨a0.ScopeProg, h0_0, a0.sizes, h0_1⟩ : Usage_text_R)], aD h0_0 123 (gA cU (fun y => fSt dO y)) x14, aD h0_1 3 (aB .i64) x15]) _
 dsimp only [List.append, List.cons_append, List.nil_append]
 refine Z1 ?_
 cases H
 refine aH [0, 4, 5] (by decide) ?_
 exact aBd [rb1] (.inr rfl) rfl rfl rfl
 exact fk
 kernel_rfl
def pV (fuel : Nat) (a0 : ScopeProg) : Option (Usage_text) :=
 (mk aT.none (a0.Nodes.length : Int)).bind fun y1 =>
 (mk 0 (a0.Defs.length : Int)).bind fun y2 =>
 (tJ fuel (⟨a0.Free, a0.Nodes, a0.Defs, a0.Main⟩ : ScopeProg)).bind fun y3 =>
 (jU fuel ({ (⟨(⟨a0.Free, a0.Nodes, a0.Defs, a0.Main⟩ : ScopeProg), y1, y3.1, y2⟩ : Usage_text) with denotes := y1, heads := y2 }) a0.Main (aT.none : aT Int Usage_channel)).bind fun y4 =>
 some (⟨(⟨((⟨(⟨a0.Free, a0.Nodes, a0.Defs, a0.Main⟩ : ScopeProg), y1, y3.1, y2⟩ : Usage_text).ScopeProg).Free, ((⟨(⟨a0.Free, a0.Nodes, a0.Defs, a0.Main⟩ : ScopeProg), y1, y3.1, y2⟩ : Usage_text).ScopeProg).Nodes, ((⟨(⟨a0.Free, a0.Nodes, a0.Defs, a0.Main⟩ : ScopeProg), y1, y3.1, y2⟩ : Usage_text).ScopeProg).Defs, ((⟨(⟨a0.Free, a0.Nodes, a0.Defs, a0.Main⟩ : ScopeProg), y1, y3.1, y2⟩ : Usage_text).ScopeProg).Main⟩ : ScopeProg), y4.1, (⟨(⟨a0.Free, a0.Nodes, a0.Defs, a0.Main⟩ : ScopeProg), y1, y3.1, y2⟩ : Usage_text).sizes, y4.2⟩ : Usage_text)
theorem aBK (fuel : Nat)  (a0 : ScopeProg) (r : Usage_text) (H : pV fuel a0 = some r) : FnS Tryz.prog 36 [fSt cY a0] [] (aF bN r) (fun _ => []) := by
 unfold pV at H
 refine bJ Tryz.func36 rfl Tryz.ntmps36 rfl (fun β => ?_)
 refine Z1 ?_
 refine Tn (cF rfl (has rfl) bO) fun b1 => ?_
 refine Z2 ?_
 refine aG ?_
 revert H; refine bs fun y1 h1 H => ?_
 revert H; refine bs fun y2 h2 H => ?_
 apply bC (ods := [_, _, _, _, _, _, _, _, _, _, _, _]) 12 3 4 bB rfl rfl rfl
 refine ND ?_
 refine M4 ?_
 intros
 refine Mn 1 (fun b2 => .slice (some ⟨b2, 0, none⟩) y1.length y1.length) (fun b2 => aD (.slice (some ⟨b2, 0, none⟩) y1.length y1.length) 123 (gA cU (fun y => fSt dO y)) y1) rfl (n_makeE (t := (gA cU (fun y => fSt dO y))) (z := aT.none) rfl (has rfl) (et rfl) rfl aF1 (aP.cons aHf aP.nil) h1) (fun b2 u1 => ?_)
 refine M3 ?_
 intros
 refine Mn 2 (fun b3 => .slice (some ⟨b3, 0, none⟩) y2.length y2.length) (fun b3 => aD (.slice (some ⟨b3, 0, none⟩) y2.length y2.length) 3 (aB .i64) y2) rfl (lK (t := (aB .i64)) (z := 0) rfl (has rfl) (et rfl) rfl qZ rfl h2) (fun b3 u2 => ?_)
 refine D2 4 8 b2 _ b3 _ (fun b2 _ b3 _ => fC [fSl aM a0.Free, fSl aK a0.Nodes, fSl aI a0.Defs, aA .i64 a0.Main, fEq (.slice (some ⟨b2, 0, none⟩) y1.length y1.length), fEq (.slice none 0 0), fEq (.slice (some ⟨b3, 0, none⟩) y2.length y2.length)]) rfl rfl (dN (ψs := [fSl aM a0.Free, fSl aK a0.Nodes, fSl aI a0.Defs, aA .i64 a0.Main, fEq (.slice (some ⟨b2, 0, none⟩) y1.length y1.length), fEq (.slice none 0 0), fEq (.slice (some ⟨b3, 0, none⟩) y2.length y2.length)]) rfl ty_bu_84 rfl (aW.cons (has rfl) bO (aW.cons (has rfl) (aS (aE trivial)) (aW.cons (has rfl) (aS (aE trivial)) aW.nil))) rfl) (fun _ => ?_)
 refine N_new (od := odN2 4 8 [3] true (fun b2 _ b3 _ b4 _ => fEq (ptr b4)) (fun b2 _ b3 _ b4 _ => [aC b4 84 [fSl aM a0.Free, fSl aK a0.Nodes, fSl aI a0.Defs, aA .i64 a0.Main, fEq (.slice (some ⟨b2, 0, none⟩) y1.length y1.length), fEq (.slice none 0 0), fEq (.slice (some ⟨b3, 0, none⟩) y2.length y2.length)]])) (p := 3) (f := fun b4 => ptr b4) (τ := fun b4 => aC b4 84 [fSl aM a0.Free, fSl aK a0.Nodes, fSl aI a0.Defs, aA .i64 a0.Main, fEq (.slice (some ⟨b2, 0, none⟩) y1.length y1.length), fEq (.slice none 0 0), fEq (.slice (some ⟨b3, 0, none⟩) y2.length y2.length)]) rfl (fun _ => rfl) (fun _ => rfl) trivial rfl rfl (cF rfl (has rfl) bO) (fun b4 u3 => ?_)
 refine D1 10 b4 _ (fun b4 _ => fEq (ptr b4)) rfl (vM rfl hh) (fun _ => ?_)
 refine Z1 ?_
 generalize (Value.slice (some ⟨b2, 0, none⟩) _ _) = v1
 refine aN 1 rfl (fun hc_v1 => ?_)
 generalize (Value.slice (some ⟨b3, 0, none⟩) _ _) = v2
 refine aN 2 rfl (fun hc_v2 => ?_)
 revert H; refine B4 fun y3 h3 H => ?_
 refine Tc (aGw _ _ _ h3) ?_
 refine Z5 ?_
 refine cX ?_
 refine dA (φs' := [fSl aM a0.Free, fSl aK a0.Nodes, fSl aI a0.Defs, aA .i64 a0.Main, fEq v1, fSl (aB .i64) y3.1, fEq v2]) trivial rfl rfl (has rfl) (has rfl) (bA) (sz rfl) rfl rfl ?_
 refine Z5 ?_
 refine Tn (zJ (fun y => fSt dO y) cU rfl) fun b5 => ?_
 refine cI ?_
 refine cR (φ := aF fQ (⟨(⟨a0.Free, a0.Nodes, a0.Defs, a0.Main⟩ : ScopeProg), v1, y3.1, v2⟩ : Usage_text_R)) (v := ptr b4) [14, 3, 16, 21, 23] (gI (aP.cons Ent.rfl (aP.cons Ent.rfl (aP.cons Ent.rfl (aP.cons Ent.rfl (aP.cons (aDa hc_v1) (aP.cons Ent.rfl (aP.cons (aDa hc_v2) aP.nil)))))))) fz ?_
 refine cT ?_
 refine cR (φ := fM cU (fun y => fSt dO y) (aT.none : aT Int Usage_channel)) (v := .map (some b5)) [26] aAr fz ?_
 refine cT ?_
 refine eB ?_
 refine eB ?_
 revert H; refine bs fun y4 h4 H => ?_
 refine Tc (aHl _ _ _ _ _ _ _ h4) ?_
 refine Z6 ?_
 refine cR (φ := fSl (gA cU (fun y => fSt dO y)) y4.1) (v := v1) [8] cL fz ?_
 refine aEH 2 (i := 4) (φs := [fSl aM (((⟨(⟨a0.Free, a0.Nodes, a0.Defs, a0.Main⟩ : ScopeProg), y1, y3.1, y2⟩ : Usage_text).ScopeProg).Free), fSl aK (((⟨(⟨a0.Free, a0.Nodes, a0.Defs, a0.Main⟩ : ScopeProg), y1, y3.1, y2⟩ : Usage_text).ScopeProg).Nodes), fSl aI (((⟨(⟨a0.Free, a0.Nodes, a0.Defs, a0.Main⟩ : ScopeProg), y1, y3.1, y2⟩ : Usage_text).ScopeProg).Defs), aA .i64 (((⟨(⟨a0.Free, a0.Nodes, a0.Defs, a0.Main⟩ : ScopeProg), y1, y3.1, y2⟩ : Usage_text).ScopeProg).Main), eE v1, fSl (aB .i64) ((⟨(⟨a0.Free, a0.Nodes, a0.Defs, a0.Main⟩ : ScopeProg), y1, y3.1, y2⟩ : Usage_text).sizes), eE v2]) (φs' := [fSl aM (((⟨(⟨a0.Free, a0.Nodes, a0.Defs, a0.Main⟩ : ScopeProg), y1, y3.1, y2⟩ : Usage_text).ScopeProg).Free), fSl aK (((⟨(⟨a0.Free, a0.Nodes, a0.Defs, a0.Main⟩ : ScopeProg), y1, y3.1, y2⟩ : Usage_text).ScopeProg).Nodes), fSl aI (((⟨(⟨a0.Free, a0.Nodes, a0.Defs, a0.Main⟩ : ScopeProg), y1, y3.1, y2⟩ : Usage_text).ScopeProg).Defs), aA .i64 (((⟨(⟨a0.Free, a0.Nodes, a0.Defs, a0.Main⟩ : ScopeProg), y1, y3.1, y2⟩ : Usage_text).ScopeProg).Main), fSl (gA cU (fun y => fSt dO y)) y4.1, fSl (aB .i64) ((⟨(⟨a0.Free, a0.Nodes, a0.Defs, a0.Main⟩ : ScopeProg), y1, y3.1, y2⟩ : Usage_text).sizes), eE v2]) rfl rfl rfl ?_
 refine cT ?_
 refine cR (φ := fSl (aB .i64) y4.2) (v := v2) [12] cL fz ?_
 refine aEH 2 (i := 6) (φs := [fSl aM (((⟨(⟨a0.Free, a0.Nodes, a0.Defs, a0.Main⟩ : ScopeProg), y1, y3.1, y2⟩ : Usage_text).ScopeProg).Free), fSl aK (((⟨(⟨a0.Free, a0.Nodes, a0.Defs, a0.Main⟩ : ScopeProg), y1, y3.1, y2⟩ : Usage_text).ScopeProg).Nodes), fSl aI (((⟨(⟨a0.Free, a0.Nodes, a0.Defs, a0.Main⟩ : ScopeProg), y1, y3.1, y2⟩ : Usage_text).ScopeProg).Defs), aA .i64 (((⟨(⟨a0.Free, a0.Nodes, a0.Defs, a0.Main⟩ : ScopeProg), y1, y3.1, y2⟩ : Usage_text).ScopeProg).Main), fSl (gA cU (fun y => fSt dO y)) y4.1, fSl (aB .i64) ((⟨(⟨a0.Free, a0.Nodes, a0.Defs, a0.Main⟩ : ScopeProg), y1, y3.1, y2⟩ : Usage_text).sizes), eE v2]) (φs' := [fSl aM (((⟨(⟨a0.Free, a0.Nodes, a0.Defs, a0.Main⟩ : ScopeProg), y1, y3.1, y2⟩ : Usage_text).ScopeProg).Free), fSl aK (((⟨(⟨a0.Free, a0.Nodes, a0.Defs, a0.Main⟩ : ScopeProg), y1, y3.1, y2⟩ : Usage_text).ScopeProg).Nodes), fSl aI (((⟨(⟨a0.Free, a0.Nodes, a0.Defs, a0.Main⟩ : ScopeProg), y1, y3.1, y2⟩ : Usage_text).ScopeProg).Defs), aA .i64 (((⟨(⟨a0.Free, a0.Nodes, a0.Defs, a0.Main⟩ : ScopeProg), y1, y3.1, y2⟩ : Usage_text).ScopeProg).Main), fSl (gA cU (fun y => fSt dO y)) y4.1, fSl (aB .i64) ((⟨(⟨a0.Free, a0.Nodes, a0.Defs, a0.Main⟩ : ScopeProg), y1, y3.1, y2⟩ : Usage_text).sizes), fSl (aB .i64) y4.2]) rfl rfl rfl ?_
 refine cT ?_
 cases H
 refine aH [] (by decide) ?_
 exact To
 exact fk
 kernel_rfl
def zO (fuel : Nat) (a0 : ScopeProg) (a1 : Int) (a2 : Int) : Option ((Option Usage_text) × Bool) :=
 (rR fuel (⟨a0.Free, a0.Nodes, a0.Defs, a0.Main⟩ : ScopeProg)).bind fun y1 =>
 if y1 ≠ 0 then
  some (none, false)
 else
  if a1 < 0 then
   some (none, false)
  else
   if (a0.Nodes.length : Int) ≤ a1 then
    some (none, false)
   else
    (pV fuel (⟨a0.Free, a0.Nodes, a0.Defs, a0.Main⟩ : ScopeProg)).bind fun y2 =>
    (if 0 ≤ a2 then
     (idx y2.sizes a1).bind fun y3 =>
     some (decide (a2 < y3))
    else
     some false).bind fun x1 =>
    some (some y2, x1)
theorem aDR (fuel : Nat)  (a0 : ScopeProg) (a1 : Int) (a2 : Int) (r : (Option Usage_text) × Bool) (H : zO fuel a0 a1 a2 = some r) : FnS Tryz.prog 25 [fSt cY a0, aA .i64 a1, aA .i64 a2] [] (dC [fOpt bN r.1, aL r.2]) (fun _ => []) := by
 unfold zO at H
 refine bJ Tryz.func25 rfl Tryz.ntmps25 rfl (fun β => ?_)
 refine Z1 ?_
 refine Tn (cF rfl (has rfl) bO) fun b1 => ?_
 refine Z3 ?_
 refine aG ?_
 revert H; refine B2 fun y1 h1 H => ?_
 refine Tc (aBb _ _ _ h1) ?_
 revert H; refine I2 (fun c1 H => ?_) fun c1 H => ?_
 refine Z12 ?_
 refine Z5 ?_
 cases H
 refine aH [] (by decide) ?_
 exact eW rfl (jJ rfl aAx) (bL rfl) rfl
 revert H; refine I4 (fun c2 H => ?_) fun c2 H => ?_
 refine Z12 ?_
 refine Z1 ?_
 cases H
 refine aH [] (by decide) ?_
 exact eW rfl (jJ rfl aAx) (bL rfl) rfl
 revert H; refine I7 (fun c3 H => ?_) fun c3 H => ?_
 refine Z6 ?_
 cases H
 refine aH [] (by decide) ?_
 exact eW rfl (jJ rfl aAx) (bL rfl) rfl
 revert H; refine B5 fun y2 h2 H => ?_
 refine Tc (aBK _ _ _ h2) ?_
 revert H; refine B2 fun o1 H Hr1 => ?_
 refine aR (ι := Bool) (fun i => o1 = i) (fun i => [(6, aF bN y2), (7, aL i)]) (fun i => [aC b1 26 [fSl aM a0.Free, fSl aK a0.Nodes, fSl aI a0.Defs, aA .i64 a0.Main]]) ?_ ?_
 revert H; refine is (fun c4 H => ?_) fun c4 H => ?_
 revert H; refine bs fun y3 h3 H => ?_
 apply bC (ods := [_, _, _, _, _, _, _, _, _, _, _, _, _, _, _, _]) 16 0 1 bB rfl rfl rfl
 refine ND ?_
 refine M8 ?_
 intros
 refine M8 ?_
 intros
 refine Z2 ?_
 exact Tm (decide (a2 < y3)) (ij H)
 exact fk
 kernel_rfl
 apply bC (ods := [_, _, _, _, _, _, _, _, _, _, _, _, _, _, _, _]) 16 0 1 bB rfl rfl rfl
 refine ND ?_
 refine M8 ?_
 intros
 refine M8 ?_
 intros
 refine Z2 ?_
 exact Tm (false) (ij H)
 exact fk
 kernel_rfl
 clear H; intro x1 hi; subst o1; have H := Hr1; clear Hr1; try dsimp only at H
 try dsimp only
 refine Z1 ?_
 cases H
 refine aH [] (by decide) ?_
 exact eW rfl (jJ rfl ent_optS) (bL rfl) rfl
def lV (a0 : List Int) (a1 : List Int) (a2 : Bool) (w0 : Int × Int × Bool → Option Bool) : Nat → Int → Option ((Unit) ⊕ (Bool))
| 0, _ => none
| k + 1, x2 =>
 if x2 < (a0.length : Int) then
  (idx a0 x2).bind fun y1 =>
  (idx a1 x2).bind fun y2 =>
  (w0 (y1, y2, a2)).bind fun y3 =>
  bif y3 then
   (chk (x2 + 1)).bind fun z1 =>
   lV a0 a1 a2 w0 k z1
  else
   (some false).bind fun r => some (Sum.inr r)
 else
  some (Sum.inl ())
def rG (fuel : Nat) (a0 : List Int) (a1 : List Int) (a2 : Bool) (w0 : Int × Int × Bool → Option Bool) : Option (Bool) :=
 (lV a0 a1 a2 w0 fuel 0).bind fun o => match o with
 | Sum.inr r => some r
 | Sum.inl _ =>
 some true
theorem aAh (fuel : Nat)  (a0 : List Int) (a1 : List Int) (a2 : Bool) (w0 : Int × Int × Bool → Option Bool) (r : Bool) (H : rG fuel a0 a1 a2 w0 = some r) : FnS Tryz.prog 82 [fSl (aB .i64) a0, fSl (aB .i64) a1, aL a2, aF (tFn Tryz.prog (fun (x : Int × Int × Bool) => [aA .i64 x.1, aA .i64 x.2.1, aL x.2.2]) (fun (r : Bool) => aL r)) w0] [] (aL r) (fun _ => []) := by
 unfold rG at H
 refine bJ Tryz.func82 rfl Tryz.ntmps82 rfl (fun β => ?_)
 revert H; refine B3 fun o1 H Hr1 => ?_
 refine aR (ι := Unit) (fun i => o1 = Sum.inl ()) (fun i => []) (fun i => []) ?_ ?_
 refine Z6 ?_
 refine Tl (ι := Nat × Int) (fun i => lV a0 a1 a2 w0 i.1 i.2 = _) (fun i => i.1) (fun i => [(0, fSl (aB .i64) a0), (1, fSl (aB .i64) a1), (2, aL a2), (3, aF (tFn Tryz.prog (fun (x : Int × Int × Bool) => [aA .i64 x.1, aA .i64 x.2.1, aL x.2.2]) (fun (r : Bool) => aL r)) w0), (10, aA .i64 (a0.length : Int)), (11, aA .i64 i.2)]) (fun i => []) (fuel, 0) H ?_
 clear H; rintro ⟨k1, x2⟩ H
 replace H : lV a0 a1 a2 w0 k1 x2 = _ := H
 try dsimp only
 obtain _ | k1 := k1
 rw [lV] at H; cases H
 rw [lV] at H
 refine Z3 ?_
 refine aG ?_
 revert H; refine is (fun c1 H => ?_) fun c1 H => ?_
 refine Z3 ?_
 refine aG ?_
 refine Z5 ?_
 refine aG ?_
 revert H; refine bs fun y1 h1 H => ?_
 revert H; refine bs fun y2 h2 H => ?_
 revert H; refine bs fun y3 h3 H => ?_
 apply bC (ods := [_, _, _, _, _, _, _, _, _, _, _, _]) 12 0 0 bB rfl rfl rfl
 refine ND ?_
 refine M8 ?_
 intros
 refine M2 ?_
 intros
 refine aCF (od := odC [] true (aL y3) []) (Φ := aL y3) (y1, y2, a2) rfl (fun _ => rfl) trivial rfl rfl (has rfl) (aO.cons (has rfl) (aO.cons (has rfl) (aO.cons (has rfl) aO.nil))) h3 rfl (fun _ => ?_)
 refine M1 ?_
 intros
 refine Z2 ?_
 revert H; refine cs (fun c2 H => ?_) fun c2 H => ?_
 revert H; refine B5 fun z1 h4 H => ?_
 refine Z3 ?_
 exact Tm ((k1, z1)) ⟨H, ls⟩
 revert H; refine B10 fun r1 H e1 => ?_
 cases e1; cases Hr1
 cases H
 exact To
 exact fk
 kernel_rfl
 refine Z6 ?_
 exact Tm (()) (ij H)
 clear H; intro i hi; subst o1; have H := Hr1; clear Hr1; try dsimp only at H
 try dsimp only
 refine Z4 ?_
 cases H
 exact To
def nH (fuel : Nat) (a0 : List UsageDef) (a1 : List UsageDef) (a2 : Int × Int × Bool → Option Bool) (x2 : Int) (y7 : UsageDef) : Nat → Int → Option ((Unit) ⊕ ((Unit) ⊕ (Bool)))
| 0, _ => none
| k + 1, x4 =>
 if x4 < (y7.Args.length : Int) then
  (idx a0 x2).bind fun y8 =>
  (idx y8.Args x4).bind fun y9 =>
  (idx a1 x2).bind fun y10 =>
  (idx y10.Args x4).bind fun y11 =>
  (rG fuel y9 y11 false a2).bind fun y12 =>
  bif y12 then
   (chk (x4 + 1)).bind fun z1 =>
   nH fuel a0 a1 a2 x2 y7 k z1
  else
   ((some false).bind fun r => some (Sum.inr r)).bind fun r => some (Sum.inr r)
 else
  some (Sum.inl ())
def lL (fuel : Nat) (a0 : List UsageDef) (a1 : List UsageDef) (a2 : Int × Int × Bool → Option Bool) : Nat → Int → Option ((Unit) ⊕ (Bool))
| 0, _ => none
| k + 1, x2 =>
 if x2 < (a0.length : Int) then
  ((idx a0 x2).bind fun y1 =>
  (idx a1 x2).bind fun y2 =>
  (rG fuel y1.Chans y2.Chans true a2).bind fun y3 =>
  bif !y3 then
   ((some false).bind fun r => some (Sum.inr r)).bind fun r => some (Sum.inr r)
  else
   (idx a0 x2).bind fun y4 =>
   (idx a1 x2).bind fun y5 =>
   (rG fuel y4.Rules y5.Rules false a2).bind fun y6 =>
   bif y6 then
    (idx a0 x2).bind fun y7 =>
    nH fuel a0 a1 a2 x2 y7 fuel 0
   else
    ((some false).bind fun r => some (Sum.inr r)).bind fun r => some (Sum.inr r)).bind fun o => match o with
  | Sum.inr r => some r
  | Sum.inl _ =>
  (chk (x2 + 1)).bind fun z2 =>
  lL fuel a0 a1 a2 k z2
 else
  some (Sum.inl ())
def qC (fuel : Nat) (a0 : List UsageDef) (a1 : List UsageDef) (a2 : Int × Int × Bool → Option Bool) : Option (Bool) :=
 (lL fuel a0 a1 a2 fuel 0).bind fun o => match o with
 | Sum.inr r => some r
 | Sum.inl _ =>
 some true
theorem aBT (fuel : Nat)  (a0 : List UsageDef) (a1 : List UsageDef) (a2 : Int × Int × Bool → Option Bool) (r : Bool) (H : qC fuel a0 a1 a2 = some r) : FnS Tryz.prog 39 [fSl aX a0, fSl aX a1, fFn Tryz.prog (fun (x : Int × Int × Bool) => [aA .i64 x.1, aA .i64 x.2.1, aL x.2.2]) (fun (r : Bool) => aL r) a2] [] (aL r) (fun _ => []) := by
 unfold qC at H
 refine bJ Tryz.func39 rfl Tryz.ntmps39 rfl (fun β => ?_)
 refine Z1 ?_
 refine Tn (cF rfl (has rfl) (aS (aBm))) fun b1 => ?_
 refine Z3 ?_
 refine cR (φ := aF (tFn Tryz.prog (fun (x : Int × Int × Bool) => [aA .i64 x.1, aA .i64 x.2.1, aL x.2.2]) (fun (r : Bool) => aL r)) a2) (v := ptr b1) [5] (gI aP.rfl) fz ?_
 refine cT ?_
 refine Yy (uB rfl (aO.cons hh aO.nil)) ?_
 revert H; refine B2 fun o1 H Hr1 => ?_
 refine aR (ι := Unit) (fun i => o1 = Sum.inl ()) (fun i => []) (fun i => []) ?_ ?_
 refine Z6 ?_
 refine Tl (ι := Nat × Int) (fun i => lL fuel a0 a1 a2 i.1 i.2 = _) (fun i => i.1) (fun i => [(0, fSl aX a0), (1, fSl aX a1), (7, dF 82 [aF (tFn Tryz.prog (fun (x : Int × Int × Bool) => [aA .i64 x.1, aA .i64 x.2.1, aL x.2.2]) (fun (r : Bool) => aL r)) a2]), (12, aA .i64 (a0.length : Int)), (13, aA .i64 i.2)]) (fun i => []) (fuel, 0) H ?_
 clear H; rintro ⟨k1, x2⟩ H
 replace H : lL fuel a0 a1 a2 k1 x2 = _ := H
 try dsimp only
 obtain _ | k1 := k1
 rw [lL] at H; cases H
 rw [lL] at H
 refine Z3 ?_
 refine aG ?_
 revert H; refine is (fun c1 H => ?_) fun c1 H => ?_
 refine cJ (has rfl) c1 ?_
 revert H; refine B2 fun o2 H Hr2 => ?_
 refine aR (ι := Unit) (fun i => o2 = Sum.inl ()) (fun i => [(0, fSl aX a0), (1, fSl aX a1), (7, dF 82 [aF (tFn Tryz.prog (fun (x : Int × Int × Bool) => [aA .i64 x.1, aA .i64 x.2.1, aL x.2.2]) (fun (r : Bool) => aL r)) a2]), (12, aA .i64 (a0.length : Int)), (13, aA .i64 x2)]) (fun i => []) ?_ ?_
 refine Z5 ?_
 refine aG ?_
 refine aG ?_
 revert H; refine bs fun y1 h1 H => ?_
 revert H; refine bs fun y2 h2 H => ?_
 revert H; refine bs fun y3 h3 H => ?_
 revert H; refine cs (fun c2 H => ?_) fun c2 H => ?_
 apply bC (ods := [_, _, _, _, _, _, _, _, _, _, _, _, _, _, _, _, _, _, _, _, _, _, _, _, _, _, _, _]) 28 0 0 bB rfl rfl rfl
 refine ND ?_
 refine M3 ?_
 intros
 refine My (bE rfl hh hh (el rfl) h1) fun _ => ?_
 refine M4 ?_
 intros
 refine My (bE rfl hh hh (el rfl) h2) fun _ => ?_
 refine M2 ?_
 intros
 refine xF (od := odC [] true (aL y3) []) (Φ := aL y3) rfl (fun _ => rfl) trivial rfl rfl (has rfl) (aO.cons (has rfl) (aO.cons (has rfl) (aO.cons (has rfl) aO.nil))) rfl (cb rfl) (aAh fuel y1.Chans y2.Chans true a2 y3 h3) (fun _ => ?_)
 refine M2 ?_
 intros
 refine Mt c2 fun _ => ?_
 refine Mt c2 fun _ => ?_
 refine Mt c2 fun _ => ?_
 refine Mt c2 fun _ => ?_
 refine Mt c2 fun _ => ?_
 refine Mt c2 fun _ => ?_
 refine Mt c2 fun _ => ?_
 refine Mt c2 fun _ => ?_
 refine Mt c2 fun _ => ?_
 refine Mt c2 fun _ => ?_
 refine Mt c2 fun _ => ?_
 refine Mt c2 fun _ => ?_
 refine Mt c2 fun _ => ?_
 refine My (cN rfl hh c2 hh) fun _ => ?_
 revert H; refine B9 fun r1 H e1 => ?_
 cases e1; cases Hr2
 revert H; refine B3 fun r2 H e2 => ?_
 cases e2; cases Hr1
 cases H
 exact To
 exact fk
 kernel_rfl
 revert H; refine bs fun y4 h4 H => ?_
 revert H; refine bs fun y5 h5 H => ?_
 revert H; refine bs fun y6 h6 H => ?_
 apply bC (ods := [_, _, _, _, _, _, _, _, _, _, _, _, _, _, _, _, _, _, _, _, _, _, _, _, _, _, _, _]) 28 0 0 bB rfl rfl rfl
 refine ND ?_
 refine M3 ?_
 intros
 refine My (bE rfl hh hh (el rfl) h1) fun _ => ?_
 refine M4 ?_
 intros
 refine My (bE rfl hh hh (el rfl) h2) fun _ => ?_
 refine M2 ?_
 intros
 refine xF (od := odC [] true (aL y3) []) (Φ := aL y3) rfl (fun _ => rfl) trivial rfl rfl (has rfl) (aO.cons (has rfl) (aO.cons (has rfl) (aO.cons (has rfl) aO.nil))) rfl (cb rfl) (aAh fuel y1.Chans y2.Chans true a2 y3 h3) (fun _ => ?_)
 refine M2 ?_
 intros
 refine Mg c2 (bF rfl hh) fun _ => ?_
 refine Mg c2 (bF rfl hh) fun _ => ?_
 refine Mg c2 (bF rfl hh) fun _ => ?_
 refine Mg c2 (bE rfl hh hh (el rfl) h4) fun _ => ?_
 refine Mg c2 (dP (t' := (tSl (aB .i64))) (z := y4.Rules) rfl hh (fa rfl) rfl) fun _ => ?_
 refine Mg c2 (dB rfl hh (sc rfl) rfl) fun _ => ?_
 refine Mg c2 (bF rfl hh) fun _ => ?_
 refine Mg c2 (bF rfl hh) fun _ => ?_
 refine Mg c2 (bE rfl hh hh (el rfl) h5) fun _ => ?_
 refine Mg c2 (dP (t' := (tSl (aB .i64))) (z := y5.Rules) rfl hh (fa rfl) rfl) fun _ => ?_
 refine Mg c2 (dB rfl hh (sc rfl) rfl) fun _ => ?_
 refine xF (od := odC [] true (aL y6) []) (Φ := aL y6) rfl (fun _ => rfl) ⟨_, _, rfl, rfl, c2⟩ rfl rfl (has rfl) (aO.cons (has rfl) (aO.cons (has rfl) (aO.cons (has rfl) aO.nil))) rfl (cb rfl) (aAh fuel y4.Rules y5.Rules false a2 y6 h6) (fun _ => ?_)
 refine Mg c2 (gD rfl hh) fun _ => ?_
 refine My (bU rfl hh c2 hh) fun _ => ?_
 refine Z2 ?_
 revert H; refine cs (fun c3 H => ?_) fun c3 H => ?_
 refine cK (has rfl) (iP c3) ?_
 revert H; refine B5 fun y7 h7 H => ?_
 refine Yy (bE rfl hh hh (el rfl) h7) ?_
 refine Z6 ?_
 refine Tl (ι := Nat × Int) (fun i => nH fuel a0 a1 a2 x2 y7 i.1 i.2 = _) (fun i => i.1) (fun i => [(0, fSl aX a0), (1, fSl aX a1), (7, dF 82 [aF (tFn Tryz.prog (fun (x : Int × Int × Bool) => [aA .i64 x.1, aA .i64 x.2.1, aL x.2.2]) (fun (r : Bool) => aL r)) a2]), (12, aA .i64 (a0.length : Int)), (13, aA .i64 x2), (8, aA .i64 x2), (49, aA .i64 (y7.Args.length : Int)), (50, aA .i64 i.2)]) (fun i => []) (fuel, 0) H ?_
 clear H; rintro ⟨k2, x4⟩ H
 replace H : nH fuel a0 a1 a2 x2 y7 k2 x4 = _ := H
 try dsimp only
 obtain _ | k2 := k2
 rw [nH] at H; cases H
 rw [nH] at H
 refine Z3 ?_
 refine aG ?_
 revert H; refine is (fun c4 H => ?_) fun c4 H => ?_
 refine cJ (has rfl) c4 ?_
 refine Z2 ?_
 refine aG ?_
 refine Z5 ?_
 refine aG ?_
 revert H; refine bs fun y8 h8 H => ?_
 revert H; refine bs fun y9 h9 H => ?_
 revert H; refine bs fun y10 h10 H => ?_
 revert H; refine bs fun y11 h11 H => ?_
 revert H; refine bs fun y12 h12 H => ?_
 apply bC (ods := [_, _, _, _, _, _, _, _, _, _, _, _, _, _, _, _, _, _, _]) 19 0 0 bB rfl rfl rfl
 refine ND ?_
 refine M3 ?_
 intros
 refine My (bE rfl hh hh (el rfl) h8) fun _ => ?_
 refine M3 ?_
 intros
 refine My (bE rfl hh hh (el rfl) h9) fun _ => ?_
 refine M3 ?_
 intros
 refine My (bE rfl hh hh (el rfl) h10) fun _ => ?_
 refine M3 ?_
 intros
 refine My (bE rfl hh hh (el rfl) h11) fun _ => ?_
 refine M1 ?_
 intros
 refine xF (od := odC [] true (aL y12) []) (Φ := aL y12) rfl (fun _ => rfl) trivial rfl rfl (has rfl) (aO.cons (has rfl) (aO.cons (has rfl) (aO.cons (has rfl) aO.nil))) rfl (cb rfl) (aAh fuel y9 y11 false a2 y12 h12) (fun _ => ?_)
 refine M1 ?_
 intros
 refine Z2 ?_
 revert H; refine cs (fun c5 H => ?_) fun c5 H => ?_
 refine cK (has rfl) (iP c5) ?_
 revert H; refine B4 fun z1 h13 H => ?_
 refine Yy (eN rfl hh hh h13) ?_
 refine Z2 ?_
 exact Tm ((k2, z1)) ⟨H, ls⟩
 refine cJ (has rfl) (jC c5) ?_
 revert H; refine B10 fun r3 H e3 => ?_
 cases e3; cases Hr2
 revert H; refine B3 fun r4 H e4 => ?_
 cases e4; cases Hr1
 cases H
 exact To
 exact fk
 kernel_rfl
 refine cK (has rfl) c4 ?_
 refine Z6 ?_
 exact Tm (()) (ij H)
 refine cJ (has rfl) (jC c3) ?_
 revert H; refine B6 fun r5 H e5 => ?_
 cases e5; cases Hr2
 revert H; refine B3 fun r6 H e6 => ?_
 cases e6; cases Hr1
 cases H
 exact To
 exact fk
 kernel_rfl
 clear H; intro i hi; subst o2; have H := Hr2; clear Hr2; try dsimp only at H
 try dsimp only
 revert H; refine B1 fun z2 h14 H => ?_
 refine Yy (eN rfl hh hh h14) ?_
 refine Z2 ?_
 exact Tm ((k1, z2)) ⟨H, ls⟩
 refine cK (has rfl) c1 ?_
 refine Z5 ?_
 exact Tm (()) (ij H)
 clear H; intro i hi; subst o1; have H := Hr1; clear Hr1; try dsimp only at H
 try dsimp only
 refine Z4 ?_
 cases H
 exact To
def uA (a0 : Int) (a1 : Int) (a2 : Bool) : Option (Bool) :=
 (if 1 ≤ a0 then
  if a0 ≤ 4 then
   bif a2 then
    some true
   else
    some (decide (a0 ≠ 2))
  else
   some false
 else
  some false).bind fun x1 =>
 some x1
theorem aFV  (a0 : Int) (a1 : Int) (a2 : Bool) (r : Bool) (H : uA a0 a1 a2 = some r) : FnS Tryz.prog 63 [aA .i64 a0, aA .i64 a1, aL a2] [] (aL r) (fun _ => []) := by
 unfold uA at H
 refine bJ Tryz.func63 rfl Tryz.ntmps63 rfl (fun β => ?_)
 revert H; refine B3 fun o1 H Hr1 => ?_
 refine aR (ι := Bool) (fun i => o1 = i) (fun i => [(6, aL i)]) (fun i => []) ?_ ?_
 revert H; refine I4 (fun c1 H => ?_) fun c1 H => ?_
 revert H; refine I4 (fun c2 H => ?_) fun c2 H => ?_
 refine Z2 ?_
 revert H; refine cs (fun c3 H => ?_) fun c3 H => ?_
 refine Z6 ?_
 exact Tm (true) (ij H)
 refine Z6 ?_
 exact Tm (decide (a0 ≠ 2)) (ij H)
 refine Z2 ?_
 refine dG (⟨_, _, _, _, rfl, rfl, rfl, nu⟩) rfl rfl ?_
 refine dG (⟨_, _, _, _, rfl, rfl, rfl, nu⟩) rfl rfl ?_
 refine Z4 ?_
 exact Tm (false) (ij H)
 refine Z6 ?_
 refine dG (⟨_, _, _, _, rfl, rfl, rfl, nu⟩) rfl rfl ?_
 refine dG (⟨_, _, _, _, rfl, rfl, rfl, nu⟩) rfl rfl ?_
 refine Z4 ?_
 exact Tm (false) (ij H)
 clear H; intro x1 hi; subst o1; have H := Hr1; clear Hr1; try dsimp only at H
 try dsimp only
 refine Z1 ?_
 cases H
 exact To
end Go.Proofs.YtmnbfgeljmhekaaGreat
set_option maxRecDepth 100000
set_option maxHeartbeats 2000000
namespace Go.Proofs.YtmnbfgeljmhekaaGreat
open Go.SX Go.SW Go.Dt
attribute [local irreducible] Code.wpIn wpListIn Exit.then Exit.inBlock
def mJ (y1 : ScopeDef) (y2 : UsageDef) : Nat → Int → Option ((Unit) ⊕ ((Unit) ⊕ (Bool)))
| 0, _ => none
| k + 1, x4 =>
 if x4 < (y2.Args.length : Int) then
  (idx y2.Args x4).bind fun y3 =>
  (idx y1.Chans x4).bind fun y4 =>
  if (y3.length : Int) ≠ y4.Many then
   ((some false).bind fun r => some (Sum.inr r)).bind fun r => some (Sum.inr r)
  else
   (chk (x4 + 1)).bind fun z1 =>
   mJ y1 y2 k z1
 else
  some (Sum.inl ())
def mB (fuel : Nat) (a0 : Usage_text) (a1 : List UsageDef) : Nat → Int → Option ((Unit) ⊕ (Bool))
| 0, _ => none
| k + 1, x2 =>
 if x2 < (a0.ScopeProg.Defs.length : Int) then
  ((idx a0.ScopeProg.Defs x2).bind fun y1 =>
  (idx a1 x2).bind fun y2 =>
  if (y2.Chans.length : Int) ≠ (y1.Chans.length : Int) then
   ((some false).bind fun r => some (Sum.inr r)).bind fun r => some (Sum.inr r)
  else
   if (y2.Rules.length : Int) ≠ (y1.Rules.length : Int) then
    ((some false).bind fun r => some (Sum.inr r)).bind fun r => some (Sum.inr r)
   else
    if (y2.Args.length : Int) ≠ (y1.Chans.length : Int) then
     ((some false).bind fun r => some (Sum.inr r)).bind fun r => some (Sum.inr r)
    else
     mJ y1 y2 fuel 0).bind fun o => match o with
  | Sum.inr r => some r
  | Sum.inl _ =>
  (chk (x2 + 1)).bind fun z2 =>
  mB fuel a0 a1 k z2
 else
  some (Sum.inl ())
def uN (fuel : Nat) (a0 : Usage_text) (a1 : List UsageDef) : Option (Bool) :=
 if (a1.length : Int) ≠ (a0.ScopeProg.Defs.length : Int) then
  some false
 else
  (mB fuel a0 a1 fuel 0).bind fun o => match o with
  | Sum.inr r => some r
  | Sum.inl _ =>
  (qC fuel a1 a1 (fun x => uA x.1 x.2.1 x.2.2)).bind fun y5 =>
  some y5
theorem aEn (fuel : Nat)  (a0 : Usage_text) (a1 : List UsageDef) (r : Bool) (H : uN fuel a0 a1 = some r) : FnS Tryz.prog 26 [aF bN a0, fSl aX a1] [] (aL r) (fun _ => []) := by
 unfold uN at H
 refine bJ Tryz.func26 rfl Tryz.ntmps26 rfl (fun β => ?_)
 refine Z3 ?_
 refine aG ?_
 revert H; refine I11 (fun c1 H => ?_) fun c1 H => ?_
 refine Z5 ?_
 cases H
 exact To
 revert H; refine B3 fun o1 H Hr1 => ?_
 refine aR (ι := Unit) (fun i => o1 = Sum.inl ()) (fun i => [(1, fSl aX a1)]) (fun i => []) ?_ ?_
 refine Z10 ?_
 refine Tl (ι := Nat × Int) (fun i => mB fuel a0 a1 i.1 i.2 = _) (fun i => i.1) (fun i => [(1, fSl aX a1), (23, fSl aI a0.ScopeProg.Defs), (24, aA .i64 (a0.ScopeProg.Defs.length : Int)), (25, aA .i64 i.2)]) (fun i => []) (fuel, 0) H ?_
 clear H; rintro ⟨k1, x2⟩ H
 replace H : mB fuel a0 a1 k1 x2 = _ := H
 try dsimp only
 obtain _ | k1 := k1
 rw [mB] at H; cases H
 rw [mB] at H
 refine Z3 ?_
 refine aG ?_
 revert H; refine is (fun c2 H => ?_) fun c2 H => ?_
 revert H; refine B3 fun o2 H Hr2 => ?_
 refine aR (ι := Unit) (fun i => o2 = Sum.inl ()) (fun i => [(1, fSl aX a1), (23, fSl aI a0.ScopeProg.Defs), (24, aA .i64 (a0.ScopeProg.Defs.length : Int)), (25, aA .i64 x2)]) (fun i => []) ?_ ?_
 revert H; refine B3 fun y1 h1 H => ?_
 refine Z2 ?_
 refine Tn (bZ rfl jD rfl) fun b1 => ?_
 refine Z1 ?_
 refine cS (φs' := [fSl aU y1.Chans, fSl bH y1.Spots, fSl aZ y1.Rules]) trivial rfl rfl (has rfl) (has rfl) (aJ (bA) (aJ (bA) (aJ (bA) bP))) (sz rfl) rfl rfl rfl ?_
 revert H; refine B4 fun y2 h2 H => ?_
 refine Z2 ?_
 refine Tn (bZ rfl uV rfl) fun b2 => ?_
 refine cS (φs' := [fSl (aB .i64) y2.Chans, fSl (aB .i64) y2.Rules, fSl (tSl (aB .i64)) y2.Args]) trivial rfl rfl (has rfl) (has rfl) (aJ (bA) (aJ (bA) (aJ (bA) bP))) (sz rfl) rfl rfl rfl ?_
 refine Z1 ?_
 refine aG ?_
 revert H; refine I9 (fun c3 H => ?_) fun c3 H => ?_
 refine Z12 ?_
 refine Z12 ?_
 revert H; refine B1 fun r1 H e1 => ?_
 cases e1; cases Hr2
 revert H; refine B3 fun r2 H e2 => ?_
 cases e2; cases Hr1
 cases H
 refine aH [] (by decide) ?_
 exact To
 revert H; refine I9 (fun c4 H => ?_) fun c4 H => ?_
 refine Z12 ?_
 revert H; refine B4 fun r3 H e3 => ?_
 cases e3; cases Hr2
 revert H; refine B3 fun r4 H e4 => ?_
 cases e4; cases Hr1
 cases H
 refine aH [] (by decide) ?_
 exact To
 revert H; refine I9 (fun c5 H => ?_) fun c5 H => ?_
 revert H; refine B7 fun r5 H e5 => ?_
 cases e5; cases Hr2
 revert H; refine B3 fun r6 H e6 => ?_
 cases e6; cases Hr1
 cases H
 refine aH [] (by decide) ?_
 exact To
 refine Z10 ?_
 refine Tl (ι := Nat × Int) (fun i => mJ y1 y2 i.1 i.2 = _) (fun i => i.1) (fun i => [(1, fSl aX a1), (23, fSl aI a0.ScopeProg.Defs), (24, aA .i64 (a0.ScopeProg.Defs.length : Int)), (25, aA .i64 x2), (6, fEq (ptr b1)), (60, fSl (tSl (aB .i64)) y2.Args), (61, aA .i64 (y2.Args.length : Int)), (62, aA .i64 i.2)]) (fun i => [aC b2 61 [fSl (aB .i64) y2.Chans, fSl (aB .i64) y2.Rules, fSl (tSl (aB .i64)) y2.Args], aC b1 99 [fSl aU y1.Chans, fSl bH y1.Spots, fSl aZ y1.Rules]]) (fuel, 0) H ?_
 clear H; rintro ⟨k2, x4⟩ H
 replace H : mJ y1 y2 k2 x4 = _ := H
 try dsimp only
 obtain _ | k2 := k2
 rw [mJ] at H; cases H
 rw [mJ] at H
 refine Z3 ?_
 refine aG ?_
 revert H; refine is (fun c6 H => ?_) fun c6 H => ?_
 refine Z3 ?_
 refine aG ?_
 revert H; refine B3 fun y3 h3 H => ?_
 revert H; refine B11 fun y4 h4 H => ?_
 revert H; refine I5 (fun c7 H => ?_) fun c7 H => ?_
 revert H; refine B11 fun r7 H e7 => ?_
 cases e7; cases Hr2
 revert H; refine B3 fun r8 H e8 => ?_
 cases e8; cases Hr1
 cases H
 refine aH [] (by decide) ?_
 exact To
 revert H; refine B5 fun z1 h5 H => ?_
 refine Z3 ?_
 exact Tm ((k2, z1)) ⟨H, ls⟩
 refine Z7 ?_
 refine aH [] (by decide) ?_
 exact Tm (()) (ij H)
 clear H; intro i hi; subst o2; have H := Hr2; clear Hr2; try dsimp only at H
 try dsimp only
 revert H; refine B1 fun z2 h6 H => ?_
 refine Z3 ?_
 exact Tm ((k1, z2)) ⟨H, ls⟩
 refine Z6 ?_
 exact Tm (()) (ij H)
 clear H; intro i hi; subst o1; have H := Hr1; clear Hr1; try dsimp only at H
 try dsimp only
 revert H; refine B3 fun y5 h7 H => ?_
 refine iE trivial rfl rfl rfl (has rfl) (aO.cons (has rfl) (aO.cons (has rfl) (aO.cons (dM rfl (sA (cb rfl) (fun x r hx => aFV x.1 x.2.1 x.2.2 r hx))) aO.nil))) rfl (cb rfl) (aBT fuel a1 a1 (fun x => uA x.1 x.2.1 x.2.2) y5 h7) rfl ?_
 refine Z3 ?_
 cases H
 exact To
def mR (a0 : Int) : Option (Int) :=
 if a0 = 1 then
  some 0
 else
  if a0 = 4 then
   some 2
  else
   some 1
theorem tU  (a0 : Int) (r : Int) (H : mR a0 = some r) : FnS Tryz.prog 46 [aA .i64 a0] [] (aA .i64 r) (fun _ => []) := by
 unfold mR at H
 refine bJ Tryz.func46 rfl Tryz.ntmps46 rfl (fun β => ?_)
 refine Z3 ?_
 refine aG ?_
 revert H; refine I8 (fun c1 H => ?_) fun c1 H => ?_
 refine Z7 ?_
 cases H
 exact To
 revert H; refine I5 (fun c2 H => ?_) fun c2 H => ?_
 refine Z7 ?_
 cases H
 exact To
 refine Z8 ?_
 cases H
 exact To
def oO (a0 : Int) (a1 : Int) : Option (Int) :=
 (chk (a0 + a1)).bind fun z1 =>
 some (min z1 2)
theorem zW  (a0 : Int) (a1 : Int) (r : Int) (H : oO a0 a1 = some r) : FnS Tryz.prog 66 [aA .i64 a0, aA .i64 a1] [] (aA .i64 r) (fun _ => []) := by
 unfold oO at H
 refine bJ Tryz.func66 rfl Tryz.ntmps66 rfl (fun β => ?_)
 revert H; refine B6 fun z1 h1 H => ?_
 refine Z5 ?_
 cases H
 exact To
def qI (a0 : Usage_text) (a1 : Usage_channel) (a2 : Int) : Option (Bool) :=
 (idx a0.ScopeProg.Defs a1.def_).bind fun y1 =>
 (idx y1.Chans a1.index).bind fun y2 =>
 (idx a0.ScopeProg.Nodes a2).bind fun y3 =>
 some (decide (y2.Many = (y3.Args.length : Int)))
theorem aCE  (a0 : Usage_text) (a1 : Usage_channel) (a2 : Int) (r : Bool) (H : qI a0 a1 a2 = some r) : FnS Tryz.prog 75 [aF bN a0, fSt dO a1, aA .i64 a2] [] (aL r) (fun _ => []) := by
 unfold qI at H
 refine bJ Tryz.func75 rfl Tryz.ntmps75 rfl (fun β => ?_)
 refine Z1 ?_
 refine Tn (cF rfl (has rfl) bO) fun b1 => ?_
 refine Z2 ?_
 refine aG ?_
 revert H; refine bs fun y1 h1 H => ?_
 revert H; refine bs fun y2 h2 H => ?_
 revert H; refine bs fun y3 h3 H => ?_
 apply bC (ods := [_, _, _, _, _, _, _, _, _, _, _, _, _, _, _, _, _, _, _, _, _, _, _, _, _, _, _]) 27 0 1 bB rfl rfl rfl
 refine ND ?_
 refine M8 ?_
 intros
 refine M8 ?_
 intros
 refine M8 ?_
 intros
 refine M3 ?_
 intros
 refine Z3 ?_
 cases H
 refine aH [] (by decide) ?_
 exact To
 exact fk
 kernel_rfl
def kH (a1 : List UsageDef) (a3 : Int) (y1 : ScopeNode) (y2 : aT Int Usage_channel) : Nat → Int → Int → Option (Int)
| 0, _, _ => none
| k + 1, x5, x6 =>
 if x6 < (y1.Args.length : Int) then
  ((idx y1.Args x6).bind fun y4 =>
  if y4.Op ≠ 2 then
   some x5
  else
   if y4.N ≠ a3 then
    some x5
   else
    bif (y2.get y1.N).isSome then
     (idx a1 (((y2.get y1.N).getD (⟨0, 0⟩ : Usage_channel)).def_)).bind fun y5 =>
     (idx y5.Args (((y2.get y1.N).getD (⟨0, 0⟩ : Usage_channel)).index)).bind fun y6 =>
     (idx y6 x6).bind fun y7 =>
     (mR y7).bind fun y8 =>
     (oO x5 y8).bind fun y9 =>
     some y9
    else
     some 2).bind fun x7 =>
  (chk (x6 + 1)).bind fun z1 =>
  kH a1 a3 y1 y2 k x7 z1
 else
  some x5
def vP (fuel : Nat) (a0 : Usage_text) (a1 : List UsageDef) (a2 : Int) (a3 : Int) : Option (Int) :=
 (idx a0.ScopeProg.Nodes a2).bind fun y1 =>
 (idx a0.denotes a2).bind fun y2 =>
 (bif (y2.get y1.N).isSome then
  (qI a0 (⟨((y2.get y1.N).getD (⟨0, 0⟩ : Usage_channel)).def_, ((y2.get y1.N).getD (⟨0, 0⟩ : Usage_channel)).index⟩ : Usage_channel) a2).bind fun y3 =>
  bif y3 then
   some (Sum.inl ())
  else
   (some 0).bind fun r => some (Sum.inr r)
 else
  some (Sum.inl ())).bind fun o => match o with
 | Sum.inr r => some r
 | Sum.inl _ =>
 (if y1.N = a3 then
  some 1
 else
  some 0).bind fun x1 =>
 (kH a1 a3 y1 y2 fuel x1 0).bind fun x2 =>
 some x2
theorem aFI (fuel : Nat)  (a0 : Usage_text) (a1 : List UsageDef) (a2 : Int) (a3 : Int) (r : Int) (H : vP fuel a0 a1 a2 a3 = some r) : FnS Tryz.prog 64 [aF bN a0, fSl aX a1, aA .i64 a2, aA .i64 a3] [] (aA .i64 r) (fun _ => []) := by
 unfold vP at H
 refine bJ Tryz.func64 rfl Tryz.ntmps64 rfl (fun β => ?_)
 revert H; refine B10 fun y1 h1 H => ?_
 refine Z2 ?_
 refine Tn (bZ rfl hZ rfl) fun b1 => ?_
 refine cS (φs' := [aA .i64 y1.Op, aA .i64 y1.N, fSl bD y1.Args, fSl (aB .i64) y1.Kids]) trivial rfl rfl (has rfl) (has rfl) (aJ (aE trivial) (aJ (aE trivial) (aJ (bA) (aJ (bA) bP)))) (sz rfl) rfl rfl rfl ?_
 refine Z1 ?_
 refine aG ?_
 revert H; refine bs fun y2 h2 H => ?_
 apply bC (ods := [_, _, _, _, _, _, _, _, _, _, _, _, _, _, _, _]) 16 1 2 bB rfl rfl rfl
 refine ND ?_
 refine M8 ?_
 intros
 refine M1 ?_
 intros
 refine My (aDX (zα := (⟨0, 0⟩ : Usage_channel)) (k := y1.N) rfl hh hh rfl wV (sE [(.int .i64 0), (.int .i64 0)])) fun _ => ?_
 refine M3 ?_
 intros
 refine Mn 1 (fun b2 => ptr b2) (fun b2 => aC b2 121 [aA .i64 0, aA .i64 0]) rfl (bZ rfl aA8 rfl) (fun b2 u1 => ?_)
 refine oT (od := od1 13 [1] true (fun b2 _ => fAny) (fun b2 _ => [aC b2 121 [aA .i64 (((y2.get y1.N).getD (⟨0, 0⟩ : Usage_channel)).def_), aA .i64 (((y2.get y1.N).getD (⟨0, 0⟩ : Usage_channel)).index)]])) (p := 1) (φs' := [aA .i64 (((y2.get y1.N).getD (⟨0, 0⟩ : Usage_channel)).def_), aA .i64 (((y2.get y1.N).getD (⟨0, 0⟩ : Usage_channel)).index)]) rfl (fun _ => rfl) (fun _ => rfl) trivial rfl rfl rfl (has rfl) (has rfl) (aJ (aE trivial) (aJ (aE trivial) bP)) (sz rfl) rfl rfl rfl (fun _ => ?_)
 refine M1 ?_
 intros
 revert H; refine B2 fun o1 H Hr1 => ?_
 refine aR (ι := Unit) (fun i => o1 = Sum.inl ()) (fun i => [(1, fSl aX a1), (3, aA .i64 a3), (9, fEq (ptr b1)), (10, fEq (ptr b2)), (11, aL ((y2.get y1.N).isSome))]) (fun i => [aC b1 51 [aA .i64 y1.Op, aA .i64 y1.N, fSl bD y1.Args, fSl (aB .i64) y1.Kids], aC b2 121 [aA .i64 (((y2.get y1.N).getD (⟨0, 0⟩ : Usage_channel)).def_), aA .i64 (((y2.get y1.N).getD (⟨0, 0⟩ : Usage_channel)).index)]]) ?_ ?_
 refine Z3 ?_
 revert H; refine cs (fun c1 H => ?_) fun c1 H => ?_
 revert H; refine B3 fun y3 h3 H => ?_
 refine Tc (aCE _ _ _ _ h3) ?_
 refine Z3 ?_
 revert H; refine cs (fun c2 H => ?_) fun c2 H => ?_
 refine Z3 ?_
 exact Tm (()) (ij H)
 revert H; refine B5 fun r1 H e1 => ?_
 cases e1; cases Hr1
 cases H
 refine aH [] (by decide) ?_
 exact To
 refine Z10 ?_
 exact Tm (()) (ij H)
 clear H; intro i hi; subst o1; have H := Hr1; clear Hr1; try dsimp only at H
 try dsimp only
 revert H; refine B3 fun o2 H Hr2 => ?_
 refine aR (ι := Int) (fun i => o2 = i) (fun i => [(1, fSl aX a1), (3, aA .i64 a3), (9, fEq (ptr b1)), (10, fEq (ptr b2)), (11, aL ((y2.get y1.N).isSome)), (12, aA .i64 i)]) (fun i => [aC b1 51 [aA .i64 y1.Op, aA .i64 y1.N, fSl bD y1.Args, fSl (aB .i64) y1.Kids], aC b2 121 [aA .i64 (((y2.get y1.N).getD (⟨0, 0⟩ : Usage_channel)).def_), aA .i64 (((y2.get y1.N).getD (⟨0, 0⟩ : Usage_channel)).index)]]) ?_ ?_
 revert H; refine I6 (fun c3 H => ?_) fun c3 H => ?_
 refine Z4 ?_
 exact Tm (1) (ij H)
 refine Z3 ?_
 exact Tm (0) (ij H)
 clear H; intro x1 hi; subst o2; have H := Hr2; clear Hr2; try dsimp only at H
 try dsimp only
 revert H; refine bs fun o3 H Hr3 => ?_
 refine aR (ι := Int) (fun i => o3 = i) (fun i => [(12, aA .i64 i)]) (fun i => [aC b1 51 [aA .i64 y1.Op, aA .i64 y1.N, fSl bD y1.Args, fSl (aB .i64) y1.Kids], aC b2 121 [aA .i64 (((y2.get y1.N).getD (⟨0, 0⟩ : Usage_channel)).def_), aA .i64 (((y2.get y1.N).getD (⟨0, 0⟩ : Usage_channel)).index)]]) ?_ ?_
 refine Z7 ?_
 refine Tl (ι := Nat × Int × Int) (fun i => kH a1 a3 y1 y2 i.1 i.2.1 i.2.2 = _) (fun i => i.1) (fun i => [(1, fSl aX a1), (3, aA .i64 a3), (10, fEq (ptr b2)), (11, aL ((y2.get y1.N).isSome)), (12, aA .i64 i.2.1), (49, fSl bD y1.Args), (50, aA .i64 (y1.Args.length : Int)), (51, aA .i64 i.2.2)]) (fun i => [aC b1 51 [aA .i64 y1.Op, aA .i64 y1.N, fSl bD y1.Args, fSl (aB .i64) y1.Kids], aC b2 121 [aA .i64 (((y2.get y1.N).getD (⟨0, 0⟩ : Usage_channel)).def_), aA .i64 (((y2.get y1.N).getD (⟨0, 0⟩ : Usage_channel)).index)]]) (fuel, x1, 0) H ?_
 clear H; rintro ⟨k1, x5, x6⟩ H
 replace H : kH a1 a3 y1 y2 k1 x5 x6 = _ := H
 try dsimp only
 obtain _ | k1 := k1
 rw [kH] at H; cases H
 rw [kH] at H
 refine Z3 ?_
 refine aG ?_
 revert H; refine is (fun c4 H => ?_) fun c4 H => ?_
 revert H; refine B3 fun o4 H Hr4 => ?_
 refine aR (ι := Int) (fun i => o4 = i) (fun i => [(1, fSl aX a1), (3, aA .i64 a3), (10, fEq (ptr b2)), (11, aL ((y2.get y1.N).isSome)), (12, aA .i64 i), (49, fSl bD y1.Args), (50, aA .i64 (y1.Args.length : Int)), (51, aA .i64 x6)]) (fun i => [aC b1 51 [aA .i64 y1.Op, aA .i64 y1.N, fSl bD y1.Args, fSl (aB .i64) y1.Kids], aC b2 121 [aA .i64 (((y2.get y1.N).getD (⟨0, 0⟩ : Usage_channel)).def_), aA .i64 (((y2.get y1.N).getD (⟨0, 0⟩ : Usage_channel)).index)]]) ?_ ?_
 revert H; refine B3 fun y4 h4 H => ?_
 refine Z2 ?_
 refine Tn (bZ rfl aAl rfl) fun b3 => ?_
 refine Z1 ?_
 refine cS (φs' := [aA .i64 y4.Op, aA .i64 y4.N, fS y4.Kids]) trivial rfl rfl (has rfl) (has rfl) (aJ (aE trivial) (aJ (aE trivial) (aJ (zR) bP))) (sz rfl) rfl rfl rfl ?_
 revert H; refine I7 (fun c5 H => ?_) fun c5 H => ?_
 refine Z12 ?_
 refine aH [1, 2] (by decide) ?_
 exact Tm (x5) (ij H)
 revert H; refine I7 (fun c6 H => ?_) fun c6 H => ?_
 refine Z5 ?_
 refine aH [1, 2] (by decide) ?_
 exact Tm (x5) (ij H)
 refine Z5 ?_
 revert H; refine cs (fun c7 H => ?_) fun c7 H => ?_
 revert H; refine B1 fun y5 h5 H => ?_
 revert H; refine bs fun y6 h6 H => ?_
 revert H; refine bs fun y7 h7 H => ?_
 revert H; refine bs fun y8 h8 H => ?_
 revert H; refine bs fun y9 h9 H => ?_
 apply bC (ods := [_, _, _, _, _, _, _, _, _, _, _, _, _, _, _, _, _]) 17 0 3 bB rfl rfl rfl
 refine ND ?_
 refine M8 ?_
 intros
 refine M6 ?_
 intros
 refine Nc (tU _ _ h8) fun _ => ?_
 refine Nc (zW _ _ _ h9) fun _ => ?_
 refine M1 ?_
 intros
 refine Z5 ?_
 refine aH [1, 2] (by decide) ?_
 exact Tm (y9) (ij H)
 exact fk
 kernel_rfl
 refine Z7 ?_
 refine aH [1, 2] (by decide) ?_
 exact Tm (2) (ij H)
 clear H; intro x7 hi; subst o4; have H := Hr4; clear Hr4; try dsimp only at H
 try dsimp only
 revert H; refine B1 fun z1 h10 H => ?_
 refine Z3 ?_
 exact Tm ((k1, x7, z1)) ⟨H, ls⟩
 refine Z6 ?_
 exact Tm (x5) (ij H)
 clear H; intro x2 hi; subst o3; have H := Hr3; clear Hr3; try dsimp only at H
 try dsimp only
 refine Z5 ?_
 cases H
 refine aH [] (by decide) ?_
 exact To
 exact fk
 kernel_rfl
def pC (a0 : Int) (a1 : Int) : Option (Int) :=
 if a0 < a1 then
  some a1
 else
  some a0
theorem aCy  (a0 : Int) (a1 : Int) (r : Int) (H : pC a0 a1 = some r) : FnS Tryz.prog 67 [aA .i64 a0, aA .i64 a1] [] (aA .i64 r) (fun _ => []) := by
 unfold pC at H
 refine bJ Tryz.func67 rfl Tryz.ntmps67 rfl (fun β => ?_)
 refine Z3 ?_
 refine aG ?_
 revert H; refine I5 (fun c1 H => ?_) fun c1 H => ?_
 refine Z6 ?_
 cases H
 exact To
 refine Z8 ?_
 cases H
 exact To
def xC (a0 : Int) (a1 : Int) : Option (Int) :=
 (chk (a0 * a1)).bind fun z1 =>
 some (min z1 2)
theorem aE1  (a0 : Int) (a1 : Int) (r : Int) (H : xC a0 a1 = some r) : FnS Tryz.prog 93 [aA .i64 a0, aA .i64 a1] [] (aA .i64 r) (fun _ => []) := by
 unfold xC at H
 refine bJ Tryz.func93 rfl Tryz.ntmps93 rfl (fun β => ?_)
 revert H; refine B6 fun z1 h1 H => ?_
 refine Z5 ?_
 cases H
 exact To
end Go.Proofs.YtmnbfgeljmhekaaGreat
set_option maxRecDepth 100000
set_option maxHeartbeats 2000000
namespace Go.Proofs.YtmnbfgeljmhekaaGreat
open Go.SX Go.SW Go.Dt
attribute [local irreducible] Code.wpIn wpListIn Exit.then Exit.inBlock
def sB (rec_usage_text_sends : Usage_text → (List UsageDef) → Int → Int → Option (Int)) (a0 : Usage_text) (a1 : List UsageDef) (a3 : Int) (x1 : Int) (x3 : Int) : Option (Int) :=
 (rec_usage_text_sends a0 a1 x1 a3).bind fun y6 =>
 (oO x3 y6).bind fun y7 =>
 some y7
def oS (rec_usage_text_sends : Usage_text → (List UsageDef) → Int → Int → Option (Int)) (a0 : Usage_text) (a1 : List UsageDef) (a3 : Int) (y1 : ScopeNode) (y8 : ScopeDef) : Nat → Int → Int → Option (Int)
| 0, _, _ => none
| k + 1, x8, x9 =>
 if x8 < (y8.Rules.length : Int) then
  (idx y8.Rules x8).bind fun y9 =>
  (idx a1 y1.N).bind fun y10 =>
  (idx y10.Rules x8).bind fun y11 =>
  (mR y11).bind fun y12 =>
  (rec_usage_text_sends a0 a1 y9.Node a3).bind fun y13 =>
  (xC y12 y13).bind fun y14 =>
  (oO x9 y14).bind fun y15 =>
  (chk (x8 + 1)).bind fun z1 =>
  oS rec_usage_text_sends a0 a1 a3 y1 y8 k z1 y15
 else
  some x9
mutual
def fD : Nat → Usage_text → (List UsageDef) → Int → Int → Option (Int)
| 0, _, _, _, _ => none
| fuel + 1, a0, a1, a2, a3 =>
 (idx a0.ScopeProg.Nodes a2).bind fun y1 =>
 if y1.Op = 2 then
  (vP fuel a0 a1 a2 a3).bind fun y2 =>
  some y2
 else
  if y1.Op = 3 then
   ((rM fuel) a0 a1 a2 a3 (fun x => oO x.1 x.2)).bind fun y3 =>
   some y3
  else
   if y1.Op = 5 then
    ((rM fuel) a0 a1 a2 a3 (fun x => pC x.1 x.2)).bind fun y4 =>
    some y4
   else
    (if y1.Op = 6 then
     some (decide (y1.Op = 6))
    else
     some (decide (y1.Op = 8))).bind fun x1 =>
    bif x1 then
     (idx a0.ScopeProg.Nodes a2).bind fun y5 =>
     (idx y5.Kids 0).bind fun y6 =>
     ((fD fuel) a0 a1 y6 a3).bind fun y7 =>
     some y7
    else
     if y1.Op = 4 then
      ((oE fuel) a0 a1 a2 a3).bind fun y8 =>
      some y8
     else
      some 0
def rM : Nat → Usage_text → (List UsageDef) → Int → Int → (Int × Int → Option Int) → Option (Int)
| 0, _, _, _, _, _ => none
| fuel + 1, a0, a1, a2, a3, a4 =>
 (idx a0.ScopeProg.Nodes a2).bind fun y1 =>
 (idx y1.Kids 0).bind fun y2 =>
 ((fD fuel) a0 a1 y2 a3).bind fun y3 =>
 (idx y1.Kids 1).bind fun y4 =>
 ((fD fuel) a0 a1 y4 a3).bind fun y5 =>
 (a4 (y3, y5)).bind fun y6 =>
 some y6
def oE : Nat → Usage_text → (List UsageDef) → Int → Int → Option (Int)
| 0, _, _, _, _ => none
| fuel + 1, a0, a1, a2, a3 =>
 (idx a0.ScopeProg.Nodes a2).bind fun y1 =>
 (idx y1.Kids 0).bind fun y2 =>
 ((fD fuel) a0 a1 y2 a3).bind fun y3 =>
 (pO a0 y1.N).bind fun y4 =>
 (sG fuel (fun (x : Int) (t : Int) => sB (fD fuel) a0 a1 a3 x t) y3 y4.1 y4.2).bind fun y5 =>
 ((idx a0.ScopeProg.Defs y1.N).bind fun y8 =>
 oS (fD fuel) a0 a1 a3 y1 y8 fuel 0 y5).bind fun x5 =>
 some x5
end
theorem aDH : ∀ (fuel : Nat), (∀  (a0 : Usage_text) (a1 : List UsageDef) (a2 : Int) (a3 : Int) (r : Int) (H : fD fuel a0 a1 a2 a3 = some r), FnS Tryz.prog 27 [aF bN a0, fSl aX a1, aA .i64 a2, aA .i64 a3] [] (aA .i64 r) (fun _ => [])) ∧ (∀  (a0 : Usage_text) (a1 : List UsageDef) (a2 : Int) (a3 : Int) (a4 : Int × Int → Option Int) (r : Int) (H : rM fuel a0 a1 a2 a3 a4 = some r), FnS Tryz.prog 65 [aF bN a0, fSl aX a1, aA .i64 a2, aA .i64 a3, fFn Tryz.prog (fun (x : Int × Int) => [aA .i64 x.1, aA .i64 x.2]) (fun (r : Int) => aA .i64 r) a4] [] (aA .i64 r) (fun _ => [])) ∧ (∀  (a0 : Usage_text) (a1 : List UsageDef) (a2 : Int) (a3 : Int) (r : Int) (H : oE fuel a0 a1 a2 a3 = some r), FnS Tryz.prog 68 [aF bN a0, fSl aX a1, aA .i64 a2, aA .i64 a3] [] (aA .i64 r) (fun _ => [])) := by
 intro fuel
 induction fuel with
 | zero => exact ⟨fun a0 a1 a2 a3 r H => (by rw [fD] at H; cases H), fun a0 a1 a2 a3 a4 r H => (by rw [rM] at H; cases H), fun a0 a1 a2 a3 r H => (by rw [oE] at H; cases H)⟩
 | succ fuel ih =>
 obtain ⟨ih_usage_text_sends, ih_usage_text_both, ih_usage_text_inner⟩ := ih
 refine ⟨?_, ?_, ?_⟩
 intro a0 a1 a2 a3 r H
 rw [fD] at H
 refine bJ Tryz.func27 rfl Tryz.ntmps27 rfl (fun β => ?_)
 refine Z3 ?_
 refine aG ?_
 revert H; refine B7 fun y1 h1 H => ?_
 revert H; refine I9 (fun c1 H => ?_) fun c1 H => ?_
 revert H; refine B6 fun y2 h2 H => ?_
 refine Tc (aFI _ _ _ _ _ _ h2) ?_
 refine Z5 ?_
 cases H
 exact To
 revert H; refine I5 (fun c2 H => ?_) fun c2 H => ?_
 revert H; refine B6 fun y3 h3 H => ?_
 refine iE trivial rfl rfl rfl (has rfl) (aO.cons (has rfl) (aO.cons (has rfl) (aO.cons (has rfl) (aO.cons (has rfl) (aO.cons (dM rfl (sA (cb rfl) (fun x r hx => zW x.1 x.2 r hx))) aO.nil))))) rfl (cb rfl) (ih_usage_text_both a0 a1 a2 a3 (fun x => oO x.1 x.2) y3 h3) rfl ?_
 refine Z5 ?_
 cases H
 exact To
 revert H; refine I5 (fun c3 H => ?_) fun c3 H => ?_
 revert H; refine B6 fun y4 h4 H => ?_
 refine iE trivial rfl rfl rfl (has rfl) (aO.cons (has rfl) (aO.cons (has rfl) (aO.cons (has rfl) (aO.cons (has rfl) (aO.cons (dM rfl (sA (cb rfl) (fun x r hx => aCy x.1 x.2 r hx))) aO.nil))))) rfl (cb rfl) (ih_usage_text_both a0 a1 a2 a3 (fun x => pC x.1 x.2) y4 h4) rfl ?_
 refine Z5 ?_
 cases H
 exact To
 revert H; refine B1 fun o1 H Hr1 => ?_
 refine aR (ι := Bool) (fun i => o1 = i) (fun i => [(0, aF bN a0), (1, fSl aX a1), (2, aA .i64 a2), (3, aA .i64 a3), (17, aA .i64 y1.Op), (39, aL i)]) (fun i => []) ?_ ?_
 revert H; refine I4 (fun c4 H => ?_) fun c4 H => ?_
 refine Z3 ?_
 exact Tm (decide (y1.Op = 6)) (ij H)
 refine Z5 ?_
 exact Tm (decide (y1.Op = 8)) (ij H)
 clear H; intro x1 hi; subst o1; have H := Hr1; clear Hr1; try dsimp only at H
 try dsimp only
 revert H; refine cs (fun c5 H => ?_) fun c5 H => ?_
 revert H; refine B10 fun y5 h5 H => ?_
 revert H; refine B3 fun y6 h6 H => ?_
 revert H; refine B3 fun y7 h7 H => ?_
 refine Tc (ih_usage_text_sends _ _ _ _ _ h7) ?_
 refine Z5 ?_
 cases H
 exact To
 revert H; refine I5 (fun c6 H => ?_) fun c6 H => ?_
 revert H; refine B6 fun y8 h8 H => ?_
 refine Tc (ih_usage_text_inner _ _ _ _ _ h8) ?_
 refine Z5 ?_
 cases H
 exact To
 refine Z8 ?_
 cases H
 exact To
 intro a0 a1 a2 a3 a4 r H
 rw [rM] at H
 refine bJ Tryz.func65 rfl Tryz.ntmps65 rfl (fun β => ?_)
 revert H; refine B10 fun y1 h1 H => ?_
 refine Z5 ?_
 refine aG ?_
 revert H; refine bs fun y2 h2 H => ?_
 revert H; refine bs fun y3 h3 H => ?_
 revert H; refine bs fun y4 h4 H => ?_
 revert H; refine bs fun y5 h5 H => ?_
 revert H; refine bs fun y6 h6 H => ?_
 apply bC (ods := [_, _, _, _, _, _, _, _, _, _, _, _, _, _, _, _, _]) 17 0 0 bB rfl rfl rfl
 refine ND ?_
 refine M7 ?_
 intros
 refine Nc (ih_usage_text_sends _ _ _ _ _ h3) fun _ => ?_
 refine M6 ?_
 intros
 refine Nc (ih_usage_text_sends _ _ _ _ _ h5) fun _ => ?_
 refine aCF (od := odC [] true (aA .i64 y6) []) (Φ := aA .i64 y6) (y3, y5) rfl (fun _ => rfl) trivial rfl rfl (has rfl) (aO.cons (has rfl) (aO.cons (has rfl) aO.nil)) h6 rfl (fun _ => ?_)
 refine M1 ?_
 intros
 refine Z3 ?_
 cases H
 exact To
 exact fk
 kernel_rfl
 intro a0 a1 a2 a3 r H
 rw [oE] at H
 refine sK Tryz.func68 rfl Tryz.ntmps68 rfl (fun β => ?_)
 refine Z1 ?_
 refine Tn (cF rfl (has rfl) (aS (tH))) fun b1 => ?_
 refine Tn (cF rfl (has rfl) (aS (bA))) fun b2 => ?_
 refine Tn (cF rfl (has rfl) (aS (aE trivial))) fun b3 => ?_
 revert H; refine B9 fun y1 h1 H => ?_
 refine Z2 ?_
 refine Tn (bZ rfl hZ rfl) fun b4 => ?_
 refine cS (φs' := [aA .i64 y1.Op, aA .i64 y1.N, fSl bD y1.Args, fSl (aB .i64) y1.Kids]) trivial rfl rfl (has rfl) (has rfl) (aJ (aE trivial) (aJ (aE trivial) (aJ (bA) (aJ (bA) bP)))) (sz rfl) rfl rfl rfl ?_
 refine Z1 ?_
 refine aG ?_
 revert H; refine bs fun y2 h2 H => ?_
 revert H; refine bs fun y3 h3 H => ?_
 apply bC (ods := [_, _, _, _, _, _, _, _, _, _]) 10 1 5 bB rfl rfl rfl
 refine ND ?_
 refine M7 ?_
 intros
 refine Nc (ih_usage_text_sends _ _ _ _ _ h3) fun _ => ?_
 refine Mn 4 (fun b5 => ptr b5) (fun b5 => aC b5 67 [aA .i64 0]) rfl (bZ rfl aD8 rfl) (fun b5 u1 => ?_)
 refine jT (od := od1 8 [4] true (fun b5 _ => fAny) (fun b5 _ => [aC b5 67 [aA .i64 y3]])) (p := 4) (φs' := [aA .i64 y3]) rfl (fun _ => rfl) (fun _ => rfl) trivial rfl rfl rfl (has rfl) (has rfl) (aE trivial) (sz rfl) rfl rfl (fun _ => ?_)
 refine Z2 ?_
 refine aG ?_
 revert H; refine B4 fun y4 h4 H => ?_
 refine iE trivial rfl rfl rfl (has rfl) (aO.cons (dM rfl aDk) (aO.cons (has rfl) aO.nil)) rfl (cb rfl) (aAA a0 y1.N y4 h4) rfl ?_
 refine Z2 ?_
 refine T_sub [(0, aF bN a0), (1, fSl aX a1), (2, aA .i64 a2), (3, aA .i64 a3), (4, fEq (ptr b1)), (5, fEq (ptr b2)), (7, fEq (ptr b3)), (8, aA .i64 0), (14, aF bN a0), (15, aF bN a0), (16, aF cY a0.ScopeProg), (17, aF (tSl aK) a0.ScopeProg.Nodes), (18, fSl aK a0.ScopeProg.Nodes), (19, aA .i64 a2), (20, aF aK y1), (21, fSt aK y1), (9, fEq (ptr b4)), (22, aF bN a0), (23, fSl aX a1), (24, fEq (.pointer (some ⟨b4, 3, none⟩))), (25, fSl (aB .i64) y1.Kids), (26, aF (aB .i64) y2), (27, aA .i64 y2), (28, aA .i64 a3), (29, aA .i64 y3), (10, fEq (ptr b5)), (30, aF bN a0), (31, fEq (.pointer (some ⟨b4, 1, none⟩))), (32, aA .i64 y1.N), (33, dF 101 [aF (fK eD) y4.1, aF (aB .i64) y4.2])] (Sc (Sc (Sc (Sc (Sc (Sc (Sc (Sc (Sc (Sc (Sc (Sc (Sc (Sc (Sc (Sc (Sc (Sc (Sc (Sc (Sc (Sc (Sc (Sc (Sc (Sc (Sc (Sc (Sc (Sc fR.nil)))))))))))))))))))))))))))))) ?_
 revert H; refine bs fun y5 h5 H => ?_
 refine yA (s := y3) (s' := y5) (fun (x : Int) => [aA .i64 x]) (fun (x : Int) (t : Int) => sB (fD fuel) a0 a1 a3 x t) (fun (t : Int) => [aC b4 51 [aA .i64 y1.Op, aA .i64 y1.N, fSl bD y1.Args, fSl (aB .i64) y1.Kids], aC b3 3 [aA .i64 a3], aC b2 27 [fSl aX a1], aC b1 64 [aF bN a0], aC b5 67 [aA .i64 t]]) (has rfl) (cb rfl) rfl (fun _ => rfl) rfl (fun J => aAM fuel J (fun (x : Int) (t : Int) => sB (fD fuel) a0 a1 a3 x t) y3 y4.1 y4.2 y5 h5) (fun β' l rec x1 t t' hs hp hY => ?_) (fun rb => ?_)
 generalize t = x3 at *
 have H : sB (fD fuel) a0 a1 a3 x1 x3 = some t' := hY; clear hY; unfold sB at H; try dsimp only at H
 show T β' _ _ (qM [34] ((fun (x : Int) => [aA .i64 x]) x1) [(0, aF bN a0), (1, fSl aX a1), (2, aA .i64 a2), (3, aA .i64 a3), (4, fEq (ptr b1)), (5, fEq (ptr b2)), (7, fEq (ptr b3)), (8, aA .i64 0), (14, aF bN a0), (15, aF bN a0), (16, aF cY a0.ScopeProg), (17, aF (tSl aK) a0.ScopeProg.Nodes), (18, fSl aK a0.ScopeProg.Nodes), (19, aA .i64 a2), (20, aF aK y1), (21, fSt aK y1), (9, fEq (ptr b4)), (22, aF bN a0), (23, fSl aX a1), (24, fEq (.pointer (some ⟨b4, 3, none⟩))), (25, fSl (aB .i64) y1.Kids), (26, aF (aB .i64) y2), (27, aA .i64 y2), (28, aA .i64 a3), (29, aA .i64 y3), (10, fEq (ptr b5)), (30, aF bN a0), (31, fEq (.pointer (some ⟨b4, 1, none⟩))), (32, aA .i64 y1.N), (33, dF 101 [aF (fK eD) y4.1, aF (aB .i64) y4.2])]) (tObj l (.loop rec) :: [aC b4 51 [aA .i64 y1.Op, aA .i64 y1.N, fSl bD y1.Args, fSl (aB .i64) y1.Kids], aC b3 3 [aA .i64 a3], aC b2 27 [fSl aX a1], aC b1 64 [aF bN a0], aC b5 67 [aA .i64 x3]]) _
 refine Z3 ?_
 refine zT hs ?_
 revert H; refine B1 fun y6 h6 H => ?_
 revert H; refine bs fun y7 h7 H => ?_
 apply bC (ods := [_, _, _, _, _, _, _, _]) 8 0 6 bB rfl rfl rfl
 refine ND ?_
 refine M5 ?_
 intros
 refine Nc (ih_usage_text_sends _ _ _ _ _ h6) fun _ => ?_
 refine Nc (zW _ _ _ h7) fun _ => ?_
 refine jT (od := odC [5] true (fAny) [aC b5 67 [aA .i64 y7]]) (p := 5) (φs' := [aA .i64 y7]) rfl (fun _ => rfl) (fun _ => rfl) trivial rfl rfl rfl (has rfl) (has rfl) (aE trivial) (sz rfl) rfl rfl (fun _ => ?_)
 refine Z3 ?_
 refine aH [1, 2, 3, 4, 5, 0] (by decide) ?_
 cases H
 refine aH [5, 0, 1, 2, 3, 4] (by decide) ?_
 exact yC hs hp rfl
 exact fk
 kernel_rfl
 generalize rb = rb1
 show T β _ _ [(0, aF bN a0), (1, fSl aX a1), (2, aA .i64 a2), (3, aA .i64 a3), (4, fEq (ptr b1)), (5, fEq (ptr b2)), (7, fEq (ptr b3)), (8, aA .i64 0), (14, aF bN a0), (15, aF bN a0), (16, aF cY a0.ScopeProg), (17, aF (tSl aK) a0.ScopeProg.Nodes), (18, fSl aK a0.ScopeProg.Nodes), (19, aA .i64 a2), (20, aF aK y1), (21, fSt aK y1), (9, fEq (ptr b4)), (22, aF bN a0), (23, fSl aX a1), (24, fEq (.pointer (some ⟨b4, 3, none⟩))), (25, fSl (aB .i64) y1.Kids), (26, aF (aB .i64) y2), (27, aA .i64 y2), (28, aA .i64 a3), (29, aA .i64 y3), (10, fEq (ptr b5)), (30, aF bN a0), (31, fEq (.pointer (some ⟨b4, 1, none⟩))), (32, aA .i64 y1.N), (33, dF 101 [aF (fK eD) y4.1, aF (aB .i64) y4.2])] ([jM rb1] ++ [aC b4 51 [aA .i64 y1.Op, aA .i64 y1.N, fSl bD y1.Args, fSl (aB .i64) y1.Kids], aC b3 3 [aA .i64 a3], aC b2 27 [fSl aX a1], aC b1 64 [aF bN a0], aC b5 67 [aA .i64 y5]]) _
 dsimp only [List.append, List.cons_append, List.nil_append]
 revert H; refine B2 fun o1 H Hr1 => ?_
 refine aR (ι := Int) (fun i => o1 = i) (fun i => [(10, fEq (ptr b5))]) (fun i => [aC b4 51 [aA .i64 y1.Op, aA .i64 y1.N, fSl bD y1.Args, fSl (aB .i64) y1.Kids], aC b3 3 [aA .i64 a3], aC b2 27 [fSl aX a1], aC b1 64 [aF bN a0], aC b5 67 [aA .i64 i], jM rb1]) ?_ ?_
 refine aG ?_
 revert H; refine bs fun y8 h8 H => ?_
 apply bC (ods := [_, _, _, _, _, _, _, _, _, _, _, _]) 12 0 6 bB rfl rfl rfl
 refine ND ?_
 refine M8 ?_
 intros
 refine M4 ?_
 intros
 refine Z3 ?_
 refine aH [1, 2, 3, 4, 5, 0] (by decide) ?_
 refine Tl (ι := Nat × Int × Int) (fun i => oS (fD fuel) a0 a1 a3 y1 y8 i.1 i.2.1 i.2.2 = _) (fun i => i.1) (fun i => [(4, fEq (ptr b1)), (5, fEq (ptr b2)), (7, fEq (ptr b3)), (9, fEq (ptr b4)), (10, fEq (ptr b5)), (51, fSl aZ y8.Rules), (52, aA .i64 (y8.Rules.length : Int)), (53, aA .i64 i.2.1)]) (fun i => [aC b4 51 [aA .i64 y1.Op, aA .i64 y1.N, fSl bD y1.Args, fSl (aB .i64) y1.Kids], aC b3 3 [aA .i64 a3], aC b2 27 [fSl aX a1], aC b1 64 [aF bN a0], aC b5 67 [aA .i64 i.2.2], jM rb1]) (fuel, 0, y5) H ?_
 clear H; rintro ⟨k1, x8, x9⟩ H
 replace H : oS (fD fuel) a0 a1 a3 y1 y8 k1 x8 x9 = _ := H
 try dsimp only
 obtain _ | k1 := k1
 rw [oS] at H; cases H
 rw [oS] at H
 refine Z3 ?_
 refine aG ?_
 revert H; refine is (fun c1 H => ?_) fun c1 H => ?_
 refine Z3 ?_
 refine aG ?_
 revert H; refine B3 fun y9 h9 H => ?_
 refine Z2 ?_
 refine Tn (bZ rfl tG rfl) fun b6 => ?_
 refine Z1 ?_
 refine cS (φs' := [aA .i64 y9.At, fSl (aB .i64) y9.Joins, aA .i64 y9.Node]) trivial rfl rfl (has rfl) (has rfl) (aJ (aE trivial) (aJ (bA) (aJ (aE trivial) bP))) (sz rfl) rfl rfl rfl ?_
 revert H; refine B1 fun y10 h10 H => ?_
 revert H; refine bs fun y11 h11 H => ?_
 revert H; refine bs fun y12 h12 H => ?_
 revert H; refine bs fun y13 h13 H => ?_
 revert H; refine bs fun y14 h14 H => ?_
 revert H; refine bs fun y15 h15 H => ?_
 apply bC (ods := [_, _, _, _, _, _, _, _, _, _, _, _, _, _, _, _, _, _, _, _]) 20 0 7 bB rfl rfl rfl
 refine ND ?_
 refine M8 ?_
 intros
 refine M2 ?_
 intros
 refine Nc (tU _ _ h12) fun _ => ?_
 refine M5 ?_
 intros
 refine Nc (ih_usage_text_sends _ _ _ _ _ h13) fun _ => ?_
 refine Nc (aE1 _ _ _ h14) fun _ => ?_
 refine Nc (zW _ _ _ h15) fun _ => ?_
 refine jT (od := odC [5] true (fAny) [aC b5 67 [aA .i64 y15]]) (p := 5) (φs' := [aA .i64 y15]) rfl (fun _ => rfl) (fun _ => rfl) trivial rfl rfl rfl (has rfl) (has rfl) (aE trivial) (sz rfl) rfl rfl (fun _ => ?_)
 revert H; refine B5 fun z1 h16 H => ?_
 refine Z3 ?_
 refine aH [1, 2, 3, 4, 5, 6] (by decide) ?_
 exact Tm ((k1, z1, y15)) ⟨H, ls⟩
 exact fk
 kernel_rfl
 refine Z6 ?_
 exact Tm (x9) (ij H)
 exact fk
 kernel_rfl
 clear H; intro x5 hi; subst o1; have H := Hr1; clear Hr1; try dsimp only at H
 try dsimp only
 refine Z5 ?_
 cases H
 refine aH [5] (by decide) ?_
 exact aEg [rb1] rfl (bL rfl) rfl rfl
 exact fk
 kernel_rfl
theorem aCk (fuel : Nat)  (a0 : Usage_text) (a1 : List UsageDef) (a2 : Int) (a3 : Int) (r : Int) (H : fD fuel a0 a1 a2 a3 = some r) : FnS Tryz.prog 27 [aF bN a0, fSl aX a1, aA .i64 a2, aA .i64 a3] [] (aA .i64 r) (fun _ => []) := (aDH fuel).1 a0 a1 a2 a3 r H
theorem aHD (fuel : Nat)  (a0 : Usage_text) (a1 : List UsageDef) (a2 : Int) (a3 : Int) (r : Int) (H : oE fuel a0 a1 a2 a3 = some r) : FnS Tryz.prog 68 [aF bN a0, fSl aX a1, aA .i64 a2, aA .i64 a3] [] (aA .i64 r) (fun _ => []) := (aDH fuel).2.2 a0 a1 a2 a3 r H
def pJ (a0 : Int) : Option (Int) :=
 if a0 = 0 then
  some 1
 else
  if a0 = 1 then
   some 3
  else
   some 4
theorem aAa  (a0 : Int) (r : Int) (H : pJ a0 = some r) : FnS Tryz.prog 28 [aA .i64 a0] [] (aA .i64 r) (fun _ => []) := by
 unfold pJ at H
 refine bJ Tryz.func28 rfl Tryz.ntmps28 rfl (fun β => ?_)
 refine Z3 ?_
 refine aG ?_
 revert H; refine I8 (fun c1 H => ?_) fun c1 H => ?_
 refine Z7 ?_
 cases H
 exact To
 revert H; refine I5 (fun c2 H => ?_) fun c2 H => ?_
 refine Z7 ?_
 cases H
 exact To
 refine Z8 ?_
 cases H
 exact To
def aBo (fuel : Nat) (a0 : ScopeProg) (a1 : List UsageDef) (a2 : Int) (a3 : Int) : Option (Int × Int) :=
 (zO fuel (⟨a0.Free, a0.Nodes, a0.Defs, a0.Main⟩ : ScopeProg) a2 a3).bind fun y1 =>
 bif !y1.2 then
  some (0, 2)
 else
  (y1.1).bind fun y2 =>
  (uN fuel y2 a1).bind fun y3 =>
  bif y3 then
   (fD fuel y2 a1 a2 a3).bind fun y4 =>
   (pJ y4).bind fun y5 =>
   some (y5, 0)
  else
   some (0, 2)
theorem aGj (fuel : Nat)  (a0 : ScopeProg) (a1 : List UsageDef) (a2 : Int) (a3 : Int) (r : Int × Int) (H : aBo fuel a0 a1 a2 a3 = some r) : FnS Tryz.prog 10 [fSt cY a0, fSl aX a1, aA .i64 a2, aA .i64 a3] [] (dC [aA .i64 r.1, aA .i64 r.2]) (fun _ => []) := by
 unfold aBo at H
 refine bJ Tryz.func10 rfl Tryz.ntmps10 rfl (fun β => ?_)
 refine Z1 ?_
 refine Tn (cF rfl (has rfl) bO) fun b1 => ?_
 revert H; refine B7 fun y1 h1 H => ?_
 refine Tc (aDR _ _ _ _ _ h1) ?_
 refine Z6 ?_
 refine aG ?_
 refine Z4 ?_
 revert H; refine cs (fun c1 H => ?_) fun c1 H => ?_
 refine Z12 ?_
 cases H
 refine aH [] (by decide) ?_
 exact eW rfl (bL rfl) (bL rfl) rfl
 revert H; refine B2 fun y2 h2 H => ?_
 refine lA 17 rfl (sO h2) ?_
 refine lA 10 rfl (sO h2) ?_
 refine lA 22 rfl (sO h2) ?_
 revert H; refine bs fun y3 h3 H => ?_
 refine Tc (aEn _ _ _ _ h3) ?_
 refine Z3 ?_
 revert H; refine cs (fun c2 H => ?_) fun c2 H => ?_
 revert H; refine B8 fun y4 h4 H => ?_
 refine Tc (aCk _ _ _ _ _ _ h4) ?_
 revert H; refine bs fun y5 h5 H => ?_
 refine Tc (aAa _ _ h5) ?_
 refine Z4 ?_
 cases H
 refine aH [] (by decide) ?_
 exact eW rfl (bL rfl) (bL rfl) rfl
 refine Z6 ?_
 cases H
 refine aH [] (by decide) ?_
 exact eW rfl (bL rfl) (bL rfl) rfl
def rV (rec_usage_text_sure : Usage_text → Int → Int → Option (Int)) (a0 : Usage_text) (a2 : Int) (x1 : Int) (x3 : Int) : Option (Int) :=
 (rec_usage_text_sure a0 x1 a2).bind fun y6 =>
 (chk (x3 + y6)).bind fun z1 =>
 some z1
mutual
def gK : Nat → Usage_text → Int → Int → Option (Int)
| 0, _, _, _ => none
| fuel + 1, a0, a1, a2 =>
 (idx a0.ScopeProg.Nodes a1).bind fun y1 =>
 (if y1.Op = 2 then
  (idx a0.denotes a1).bind fun y2 =>
  bif (y2.get a2).isSome then
   if y1.N = a2 then
    (qI a0 (⟨((y2.get a2).getD (⟨0, 0⟩ : Usage_channel)).def_, ((y2.get a2).getD (⟨0, 0⟩ : Usage_channel)).index⟩ : Usage_channel) a1).bind fun y3 =>
    bif y3 then
     (some 1).bind fun r => some (Sum.inr r)
    else
     some (Sum.inl ())
   else
    some (Sum.inl ())
  else
   some (Sum.inl ())
 else
  if y1.Op = 3 then
   (idx y1.Kids 0).bind fun y4 =>
   ((gK fuel) a0 y4 a2).bind fun y5 =>
   (idx y1.Kids 1).bind fun y6 =>
   ((gK fuel) a0 y6 a2).bind fun y7 =>
   (chk (y5 + y7)).bind fun z1 =>
   (some z1).bind fun r => some (Sum.inr r)
  else
   if y1.Op = 5 then
    (idx y1.Kids 0).bind fun y8 =>
    ((gK fuel) a0 y8 a2).bind fun y9 =>
    (idx y1.Kids 1).bind fun y10 =>
    ((gK fuel) a0 y10 a2).bind fun y11 =>
    (some (min y9 y11)).bind fun r => some (Sum.inr r)
   else
    if y1.Op = 4 then
     ((kN fuel) a0 a1 a2).bind fun y12 =>
     (some y12).bind fun r => some (Sum.inr r)
    else
     some (Sum.inl ())).bind fun o => match o with
 | Sum.inr r => some r
 | Sum.inl _ =>
 some 0
def kN : Nat → Usage_text → Int → Int → Option (Int)
| 0, _, _, _ => none
| fuel + 1, a0, a1, a2 =>
 (idx a0.ScopeProg.Nodes a1).bind fun y1 =>
 (idx y1.Kids 0).bind fun y2 =>
 ((gK fuel) a0 y2 a2).bind fun y3 =>
 (pO a0 y1.N).bind fun y4 =>
 (sG fuel (fun (x : Int) (t : Int) => rV (gK fuel) a0 a2 x t) y3 y4.1 y4.2).bind fun y5 =>
 some y5
end
theorem aEF : ∀ (fuel : Nat), (∀  (a0 : Usage_text) (a1 : Int) (a2 : Int) (r : Int) (H : gK fuel a0 a1 a2 = some r), FnS Tryz.prog 33 [aF bN a0, aA .i64 a1, aA .i64 a2] [] (aA .i64 r) (fun _ => [])) ∧ (∀  (a0 : Usage_text) (a1 : Int) (a2 : Int) (r : Int) (H : kN fuel a0 a1 a2 = some r), FnS Tryz.prog 41 [aF bN a0, aA .i64 a1, aA .i64 a2] [] (aA .i64 r) (fun _ => [])) := by
 intro fuel
 induction fuel with
 | zero => exact ⟨fun a0 a1 a2 r H => (by rw [gK] at H; cases H), fun a0 a1 a2 r H => (by rw [kN] at H; cases H)⟩
 | succ fuel ih =>
 obtain ⟨ih_usage_text_sure, ih_usage_text_begun⟩ := ih
 refine ⟨?_, ?_⟩
 intro a0 a1 a2 r H
 rw [gK] at H
 refine bJ Tryz.func33 rfl Tryz.ntmps33 rfl (fun β => ?_)
 revert H; refine B10 fun y1 h1 H => ?_
 refine Z2 ?_
 refine Tn (bZ rfl hZ rfl) fun b1 => ?_
 refine cS (φs' := [aA .i64 y1.Op, aA .i64 y1.N, fSl bD y1.Args, fSl (aB .i64) y1.Kids]) trivial rfl rfl (has rfl) (has rfl) (aJ (aE trivial) (aJ (aE trivial) (aJ (bA) (aJ (bA) bP)))) (sz rfl) rfl rfl rfl ?_
 revert H; refine B1 fun o1 H Hr1 => ?_
 refine aR (ι := Unit) (fun i => o1 = Sum.inl ()) (fun i => []) (fun i => [aC b1 51 [aA .i64 y1.Op, aA .i64 y1.N, fSl bD y1.Args, fSl (aB .i64) y1.Kids]]) ?_ ?_
 revert H; refine I9 (fun c1 H => ?_) fun c1 H => ?_
 revert H; refine B7 fun y2 h2 H => ?_
 refine Z3 ?_
 refine Yy (aDX (zα := (⟨0, 0⟩ : Usage_channel)) (k := a2) rfl hh hh rfl wV (sE [(.int .i64 0), (.int .i64 0)])) ?_
 refine Z3 ?_
 refine Tn (bZ rfl aA8 rfl) fun b2 => ?_
 refine cS (φs' := [aA .i64 (((y2.get a2).getD (⟨0, 0⟩ : Usage_channel)).def_), aA .i64 (((y2.get a2).getD (⟨0, 0⟩ : Usage_channel)).index)]) trivial rfl rfl (has rfl) (has rfl) (aJ (aE trivial) (aJ (aE trivial) bP)) (sz rfl) rfl rfl rfl ?_
 refine Z5 ?_
 revert H; refine cs (fun c2 H => ?_) fun c2 H => ?_
 revert H; refine I6 (fun c3 H => ?_) fun c3 H => ?_
 revert H; refine B3 fun y3 h3 H => ?_
 refine Tc (aCE _ _ _ _ h3) ?_
 refine Z2 ?_
 revert H; refine cs (fun c4 H => ?_) fun c4 H => ?_
 revert H; refine B7 fun r1 H e1 => ?_
 cases e1; cases Hr1
 cases H
 refine aH [] (by decide) ?_
 exact To
 refine Z4 ?_
 refine aH [1] (by decide) ?_
 exact Tm (()) (ij H)
 refine Z10 ?_
 refine aH [1] (by decide) ?_
 exact Tm (()) (ij H)
 refine Z12 ?_
 refine Z4 ?_
 refine aH [1] (by decide) ?_
 exact Tm (()) (ij H)
 revert H; refine I5 (fun c5 H => ?_) fun c5 H => ?_
 refine Z1 ?_
 refine aG ?_
 revert H; refine bs fun y4 h4 H => ?_
 revert H; refine bs fun y5 h5 H => ?_
 revert H; refine bs fun y6 h6 H => ?_
 revert H; refine bs fun y7 h7 H => ?_
 revert H; refine bs fun z1 h8 H => ?_
 apply bC (ods := [_, _, _, _, _, _, _, _, _, _, _, _, _, _, _, _]) 16 0 1 bB rfl rfl rfl
 refine ND ?_
 refine M6 ?_
 intros
 refine Nc (ih_usage_text_sure _ _ _ _ h5) fun _ => ?_
 refine M6 ?_
 intros
 refine Nc (ih_usage_text_sure _ _ _ _ h7) fun _ => ?_
 refine M2 ?_
 intros
 revert H; refine B5 fun r2 H e2 => ?_
 cases e2; cases Hr1
 cases H
 refine aH [] (by decide) ?_
 exact To
 exact fk
 kernel_rfl
 revert H; refine I5 (fun c6 H => ?_) fun c6 H => ?_
 refine Z1 ?_
 refine aG ?_
 revert H; refine bs fun y8 h9 H => ?_
 revert H; refine bs fun y9 h10 H => ?_
 revert H; refine bs fun y10 h11 H => ?_
 revert H; refine bs fun y11 h12 H => ?_
 apply bC (ods := [_, _, _, _, _, _, _, _, _, _, _, _, _, _, _, _]) 16 0 1 bB rfl rfl rfl
 refine ND ?_
 refine M6 ?_
 intros
 refine Nc (ih_usage_text_sure _ _ _ _ h10) fun _ => ?_
 refine M6 ?_
 intros
 refine Nc (ih_usage_text_sure _ _ _ _ h12) fun _ => ?_
 refine M2 ?_
 intros
 revert H; refine B5 fun r3 H e3 => ?_
 cases e3; cases Hr1
 cases H
 refine aH [] (by decide) ?_
 exact To
 exact fk
 kernel_rfl
 revert H; refine I5 (fun c7 H => ?_) fun c7 H => ?_
 revert H; refine B5 fun y12 h13 H => ?_
 refine Tc (ih_usage_text_begun _ _ _ _ h13) ?_
 revert H; refine B5 fun r4 H e4 => ?_
 cases e4; cases Hr1
 cases H
 refine aH [] (by decide) ?_
 exact To
 refine Z4 ?_
 exact Tm (()) (ij H)
 clear H; intro i hi; subst o1; have H := Hr1; clear Hr1; try dsimp only at H
 try dsimp only
 refine Z4 ?_
 cases H
 refine aH [] (by decide) ?_
 exact To
 intro a0 a1 a2 r H
 rw [kN] at H
 refine sK Tryz.func41 rfl Tryz.ntmps41 rfl (fun β => ?_)
 refine Z1 ?_
 refine Tn (cF rfl (has rfl) (aS (tH))) fun b1 => ?_
 refine Tn (cF rfl (has rfl) (aS (aE trivial))) fun b2 => ?_
 revert H; refine B9 fun y1 h1 H => ?_
 refine Z2 ?_
 refine Tn (bZ rfl hZ rfl) fun b3 => ?_
 refine cS (φs' := [aA .i64 y1.Op, aA .i64 y1.N, fSl bD y1.Args, fSl (aB .i64) y1.Kids]) trivial rfl rfl (has rfl) (has rfl) (aJ (aE trivial) (aJ (aE trivial) (aJ (bA) (aJ (bA) bP)))) (sz rfl) rfl rfl rfl ?_
 refine Z1 ?_
 refine aG ?_
 revert H; refine bs fun y2 h2 H => ?_
 revert H; refine bs fun y3 h3 H => ?_
 apply bC (ods := [_, _, _, _, _, _, _, _, _]) 9 1 4 bB rfl rfl rfl
 refine ND ?_
 refine M6 ?_
 intros
 refine Nc (ih_usage_text_sure _ _ _ _ h3) fun _ => ?_
 refine Mn 3 (fun b4 => ptr b4) (fun b4 => aC b4 3 [aA .i64 0]) rfl (bZ rfl qZ rfl) (fun b4 u1 => ?_)
 refine jT (od := od1 7 [3] true (fun b4 _ => fAny) (fun b4 _ => [aC b4 3 [aA .i64 y3]])) (p := 3) (φs' := [aA .i64 y3]) rfl (fun _ => rfl) (fun _ => rfl) trivial rfl rfl rfl (has rfl) (has rfl) (aE trivial) (sz rfl) rfl rfl (fun _ => ?_)
 refine Z2 ?_
 refine aG ?_
 revert H; refine B4 fun y4 h4 H => ?_
 refine iE trivial rfl rfl rfl (has rfl) (aO.cons (dM rfl aDk) (aO.cons (has rfl) aO.nil)) rfl (cb rfl) (aAA a0 y1.N y4 h4) rfl ?_
 refine Z2 ?_
 refine T_sub [(0, aF bN a0), (1, aA .i64 a1), (2, aA .i64 a2), (3, fEq (ptr b1)), (5, fEq (ptr b2)), (6, aA .i64 0), (10, aF bN a0), (11, aF bN a0), (12, aF cY a0.ScopeProg), (13, aF (tSl aK) a0.ScopeProg.Nodes), (14, fSl aK a0.ScopeProg.Nodes), (15, aA .i64 a1), (16, aF aK y1), (17, fSt aK y1), (7, fEq (ptr b3)), (18, aF bN a0), (19, fEq (.pointer (some ⟨b3, 3, none⟩))), (20, fSl (aB .i64) y1.Kids), (21, aF (aB .i64) y2), (22, aA .i64 y2), (23, aA .i64 a2), (24, aA .i64 y3), (8, fEq (ptr b4)), (25, aF bN a0), (26, fEq (.pointer (some ⟨b3, 1, none⟩))), (27, aA .i64 y1.N), (28, dF 101 [aF (fK eD) y4.1, aF (aB .i64) y4.2])] (Sc (Sc (Sc (Sc (Sc (Sc (Sc (Sc (Sc (Sc (Sc (Sc (Sc (Sc (Sc (Sc (Sc (Sc (Sc (Sc (Sc (Sc (Sc (Sc (Sc (Sc (Sc fR.nil))))))))))))))))))))))))))) ?_
 revert H; refine bs fun y5 h5 H => ?_
 refine yA (s := y3) (s' := y5) (fun (x : Int) => [aA .i64 x]) (fun (x : Int) (t : Int) => rV (gK fuel) a0 a2 x t) (fun (t : Int) => [aC b3 51 [aA .i64 y1.Op, aA .i64 y1.N, fSl bD y1.Args, fSl (aB .i64) y1.Kids], aC b2 3 [aA .i64 a2], aC b1 64 [aF bN a0], aC b4 3 [aA .i64 t]]) (has rfl) (cb rfl) rfl (fun _ => rfl) rfl (fun J => aAM fuel J (fun (x : Int) (t : Int) => rV (gK fuel) a0 a2 x t) y3 y4.1 y4.2 y5 h5) (fun β' l rec x1 t t' hs hp hY => ?_) (fun rb => ?_)
 generalize t = x3 at *
 have H : rV (gK fuel) a0 a2 x1 x3 = some t' := hY; clear hY; unfold rV at H; try dsimp only at H
 show T β' _ _ (qM [29] ((fun (x : Int) => [aA .i64 x]) x1) [(0, aF bN a0), (1, aA .i64 a1), (2, aA .i64 a2), (3, fEq (ptr b1)), (5, fEq (ptr b2)), (6, aA .i64 0), (10, aF bN a0), (11, aF bN a0), (12, aF cY a0.ScopeProg), (13, aF (tSl aK) a0.ScopeProg.Nodes), (14, fSl aK a0.ScopeProg.Nodes), (15, aA .i64 a1), (16, aF aK y1), (17, fSt aK y1), (7, fEq (ptr b3)), (18, aF bN a0), (19, fEq (.pointer (some ⟨b3, 3, none⟩))), (20, fSl (aB .i64) y1.Kids), (21, aF (aB .i64) y2), (22, aA .i64 y2), (23, aA .i64 a2), (24, aA .i64 y3), (8, fEq (ptr b4)), (25, aF bN a0), (26, fEq (.pointer (some ⟨b3, 1, none⟩))), (27, aA .i64 y1.N), (28, dF 101 [aF (fK eD) y4.1, aF (aB .i64) y4.2])]) (tObj l (.loop rec) :: [aC b3 51 [aA .i64 y1.Op, aA .i64 y1.N, fSl bD y1.Args, fSl (aB .i64) y1.Kids], aC b2 3 [aA .i64 a2], aC b1 64 [aF bN a0], aC b4 3 [aA .i64 x3]]) _
 refine Z3 ?_
 refine zT hs ?_
 revert H; refine B1 fun y6 h6 H => ?_
 revert H; refine bs fun z1 h7 H => ?_
 apply bC (ods := [_, _, _, _, _, _, _]) 7 0 5 bB rfl rfl rfl
 refine ND ?_
 refine M4 ?_
 intros
 refine Nc (ih_usage_text_sure _ _ _ _ h6) fun _ => ?_
 refine M1 ?_
 intros
 refine jT (od := odC [4] true (fAny) [aC b4 3 [aA .i64 z1]]) (p := 4) (φs' := [aA .i64 z1]) rfl (fun _ => rfl) (fun _ => rfl) trivial rfl rfl rfl (has rfl) (has rfl) (aE trivial) (sz rfl) rfl rfl (fun _ => ?_)
 refine Z3 ?_
 refine aH [1, 2, 3, 4, 0] (by decide) ?_
 cases H
 refine aH [4, 0, 1, 2, 3] (by decide) ?_
 exact yC hs hp rfl
 exact fk
 kernel_rfl
 generalize rb = rb1
 show T β _ _ [(0, aF bN a0), (1, aA .i64 a1), (2, aA .i64 a2), (3, fEq (ptr b1)), (5, fEq (ptr b2)), (6, aA .i64 0), (10, aF bN a0), (11, aF bN a0), (12, aF cY a0.ScopeProg), (13, aF (tSl aK) a0.ScopeProg.Nodes), (14, fSl aK a0.ScopeProg.Nodes), (15, aA .i64 a1), (16, aF aK y1), (17, fSt aK y1), (7, fEq (ptr b3)), (18, aF bN a0), (19, fEq (.pointer (some ⟨b3, 3, none⟩))), (20, fSl (aB .i64) y1.Kids), (21, aF (aB .i64) y2), (22, aA .i64 y2), (23, aA .i64 a2), (24, aA .i64 y3), (8, fEq (ptr b4)), (25, aF bN a0), (26, fEq (.pointer (some ⟨b3, 1, none⟩))), (27, aA .i64 y1.N), (28, dF 101 [aF (fK eD) y4.1, aF (aB .i64) y4.2])] ([jM rb1] ++ [aC b3 51 [aA .i64 y1.Op, aA .i64 y1.N, fSl bD y1.Args, fSl (aB .i64) y1.Kids], aC b2 3 [aA .i64 a2], aC b1 64 [aF bN a0], aC b4 3 [aA .i64 y5]]) _
 dsimp only [List.append, List.cons_append, List.nil_append]
 refine Z7 ?_
 cases H
 refine aH [0] (by decide) ?_
 exact aEg [rb1] rfl (bL rfl) rfl rfl
 exact fk
 kernel_rfl
theorem aGc (fuel : Nat)  (a0 : Usage_text) (a1 : Int) (a2 : Int) (r : Int) (H : gK fuel a0 a1 a2 = some r) : FnS Tryz.prog 33 [aF bN a0, aA .i64 a1, aA .i64 a2] [] (aA .i64 r) (fun _ => []) := (aEF fuel).1 a0 a1 a2 r H
theorem aCa (fuel : Nat)  (a0 : Usage_text) (a1 : Int) (a2 : Int) (r : Int) (H : kN fuel a0 a1 a2 = some r) : FnS Tryz.prog 41 [aF bN a0, aA .i64 a1, aA .i64 a2] [] (aA .i64 r) (fun _ => []) := (aEF fuel).2 a0 a1 a2 r H
def aAs (fuel : Nat) (a0 : ScopeProg) (a1 : Int) (a2 : Int) : Option (Int × Int) :=
 (zO fuel (⟨a0.Free, a0.Nodes, a0.Defs, a0.Main⟩ : ScopeProg) a1 a2).bind fun y1 =>
 bif y1.2 then
  (y1.1).bind fun y2 =>
  (gK fuel y2 a1 a2).bind fun y3 =>
  some (y3, 0)
 else
  some (0, 2)
theorem aGY (fuel : Nat)  (a0 : ScopeProg) (a1 : Int) (a2 : Int) (r : Int × Int) (H : aAs fuel a0 a1 a2 = some r) : FnS Tryz.prog 12 [fSt cY a0, aA .i64 a1, aA .i64 a2] [] (dC [aA .i64 r.1, aA .i64 r.2]) (fun _ => []) := by
 unfold aAs at H
 refine bJ Tryz.func12 rfl Tryz.ntmps12 rfl (fun β => ?_)
 refine Z1 ?_
 refine Tn (cF rfl (has rfl) bO) fun b1 => ?_
 revert H; refine B7 fun y1 h1 H => ?_
 refine Tc (aDR _ _ _ _ _ h1) ?_
 refine Z6 ?_
 refine aG ?_
 refine Z4 ?_
 revert H; refine cs (fun c1 H => ?_) fun c1 H => ?_
 revert H; refine B7 fun y2 h2 H => ?_
 refine lA 15 rfl (sO h2) ?_
 refine lA 8 rfl (sO h2) ?_
 refine lA 19 rfl (sO h2) ?_
 revert H; refine bs fun y3 h3 H => ?_
 refine Tc (aGc _ _ _ _ _ h3) ?_
 refine Z4 ?_
 cases H
 refine aH [] (by decide) ?_
 exact eW rfl (bL rfl) (bL rfl) rfl
 refine Z6 ?_
 cases H
 refine aH [] (by decide) ?_
 exact eW rfl (bL rfl) (bL rfl) rfl
def aAF (a0 : Int) (a1 : Int) : Option (Int × Int) :=
 (shrI .u64 a0 32).bind fun z1 =>
 (shrI .u64 a1 32).bind fun z2 =>
 (shrI .u64 (IntKind.wrap .u64 ((andI .u64 a0 4294967295) * (andI .u64 a1 4294967295))) 32).bind fun z3 =>
 (shrI .u64 (IntKind.wrap .u64 ((IntKind.wrap .u64 (z1 * (andI .u64 a1 4294967295))) + z3)) 32).bind fun z4 =>
 (shrI .u64 (IntKind.wrap .u64 ((andI .u64 (IntKind.wrap .u64 ((IntKind.wrap .u64 (z1 * (andI .u64 a1 4294967295))) + z3)) 4294967295) + (IntKind.wrap .u64 ((andI .u64 a0 4294967295) * z2)))) 32).bind fun z5 =>
 some (IntKind.wrap .u64 ((IntKind.wrap .u64 ((IntKind.wrap .u64 (z1 * z2)) + z4)) + z5), IntKind.wrap .u64 (a0 * a1))
theorem aEX  (a0 : Int) (a1 : Int) (r : Int × Int) (H : aAF a0 a1 = some r) : FnS Tryz.prog 116 [aA .u64 a0, aA .u64 a1] [] (dC [aA .u64 r.1, aA .u64 r.2]) (fun _ => []) := by
 unfold aAF at H
 refine bJ Tryz.func116 rfl Tryz.ntmps116 rfl (fun β => ?_)
 revert H; refine B11 fun z1 h1 H => ?_
 revert H; refine B10 fun z2 h2 H => ?_
 refine Z12 ?_
 revert H; refine B2 fun z3 h3 H => ?_
 revert H; refine B11 fun z4 h4 H => ?_
 refine Z12 ?_
 revert H; refine B6 fun z5 h5 H => ?_
 refine Z11 ?_
 cases H
 exact eW rfl (bL rfl) (bL rfl) rfl
def aBv (a0 : Int) (a1 : Int) : Option (Int × Int) :=
 (aAF a0 a1).bind fun y1 =>
 some (y1.1, y1.2)
theorem aFp  (a0 : Int) (a1 : Int) (r : Int × Int) (H : aBv a0 a1 = some r) : FnS Tryz.prog 100 [aA .u64 a0, aA .u64 a1] [] (dC [aA .u64 r.1, aA .u64 r.2]) (fun _ => []) := by
 unfold aBv at H
 refine bJ Tryz.func100 rfl Tryz.ntmps100 rfl (fun β => ?_)
 refine Z4 ?_
 refine aG ?_
 revert H; refine B6 fun y1 h1 H => ?_
 refine Tc (aEX _ _ _ h1) ?_
 refine Z12 ?_
 refine Z1 ?_
 cases H
 exact eW rfl (bL rfl) (bL rfl) rfl
end Go.Proofs.YtmnbfgeljmhekaaGreat
set_option maxRecDepth 100000
set_option maxHeartbeats 2000000
namespace Go.Proofs.YtmnbfgeljmhekaaGreat
open Go.SX Go.SW Go.Dt
attribute [local irreducible] Code.wpIn wpListIn Exit.then Exit.inBlock
def sV  : Nat → (List Int) → Int → Option (List Int)
| 0, _, _ => none
| k + 1, x4, x5 =>
 if x5 < (x4.length : Int) then
  (slc x4 x5 (x4.length : Int)).bind fun y3 =>
  (slc x4 0 x5).bind fun y4 =>
  (chk (x5 + ((min (Int.toNat x5 - Int.toNat 0) (Int.toNat (x4.length : Int) - Int.toNat x5) : Nat) : Int))).bind fun z1 =>
  sV k (cpy x4 (List.drop (Int.toNat 0) x4) (Int.toNat x5) (min (Int.toNat x5 - Int.toNat 0) (Int.toNat (x4.length : Int) - Int.toNat x5))) z1
 else
  some x4
def wB (fuel : Nat) (a0 : List Int) (a1 : Int) : Option (List Int) :=
 if a1 < 0 then
  none
 else
  (aBv (IntKind.wrap .u64 (a0.length : Int)) (IntKind.wrap .u64 a1)).bind fun y1 =>
  if 0 < y1.1 then
   none
  else
   if 9223372036854775807 < y1.2 then
    none
   else
    (mk 0 (IntKind.wrap .i64 y1.2)).bind fun y2 =>
    (sV fuel (cpy y2 a0 0 (min a0.length y2.length)) ((min a0.length y2.length : Nat) : Int)).bind fun x1 =>
    some x1
theorem aAm (fuel : Nat)  (a0 : List Int) (a1 : Int) (r : List Int) (H : wB fuel a0 a1 = some r) : FnS Tryz.prog 80 [fSl (aB .i64) a0, aA .i64 a1] [] fAny (fun v => [(fun v => aD v 30 (aB .i64) r) v]) := by
 unfold wB at H
 refine bJ Tryz.func80 rfl Tryz.ntmps80 rfl (fun β => ?_)
 refine Z3 ?_
 refine aG ?_
 revert H; refine I4 (fun c1 H => ?_) fun c1 H => ?_
 refine Z2 ?_
 refine Yy (lT rfl hh aBJ) ?_
 cases H
 refine Z6 ?_
 refine Yy (aAX rfl hh aBW aBz) ?_
 refine Z1 ?_
 refine Yy (aAX rfl hh aBW aBz) ?_
 revert H; refine bs fun y1 h1 H => ?_
 refine Tc (aFp _ _ _ h1) ?_
 refine Z6 ?_
 refine aG ?_
 revert H; refine I4 (fun c2 H => ?_) fun c2 H => ?_
 refine Z6 ?_
 refine Yy (lT rfl hh aBJ) ?_
 cases H
 revert H; refine I4 (fun c3 H => ?_) fun c3 H => ?_
 refine Z2 ?_
 refine Yy (lT rfl hh aBJ) ?_
 cases H
 refine Z5 ?_
 refine Yy (aAX rfl hh aBz aBW) ?_
 revert H; refine bs fun y2 h2 H => ?_
 refine Tn (lK (t := (aB .i64)) (z := 0) rfl (has rfl) (et rfl) rfl ty_ze_30 rfl h2) fun b1 => ?_
 generalize (Value.slice (some ⟨b1, 0, none⟩) _ _) = v1
 refine aN 0 rfl (fun hc_v1 => ?_)
 refine Z5 ?_
 refine T_copyF (ys := a0) trivial rfl rfl rfl (has rfl) (has rfl) (et rfl) ?_
 revert H; refine B2 fun o1 H Hr1 => ?_
 refine aR (ι := List Int) (fun i => o1 = i) (fun i => [(7, fEq v1)]) (fun i => [aD v1 30 (aB .i64) i]) ?_ ?_
 refine Z1 ?_
 refine Tl (ι := Nat × List Int × Int) (fun i => sV i.1 i.2.1 i.2.2 = _) (fun i => i.1) (fun i => [(7, fEq v1), (8, aA .i64 i.2.2)]) (fun i => [aD v1 30 (aB .i64) i.2.1]) (fuel, cpy y2 a0 0 (min a0.length y2.length), ((min a0.length y2.length : Nat) : Int)) H ?_
 clear H; rintro ⟨k1, x4, x5⟩ H
 replace H : sV k1 x4 x5 = _ := H
 try dsimp only
 obtain _ | k1 := k1
 rw [sV] at H; cases H
 rw [sV] at H
 refine aG ?_
 revert H; refine I6 (fun c4 H => ?_) fun c4 H => ?_
 revert H; refine B4 fun y3 h3 H => ?_
 revert H; refine bs fun y4 h4 H => ?_
 revert H; refine bs fun z1 h5 H => ?_
 apply bC (ods := [_, _, _, _, _, _, _, _, _, _]) 10 0 1 bB rfl rfl rfl
 refine ND ?_
 refine M3 ?_
 intros
 refine Mo 0 rfl (aCU (l := x5) (h := (x4.length : Int)) rfl hh (aAR hh) aBR (el rfl) h3) fun _ => ?_
 refine M2 ?_
 intros
 refine Mo 0 rfl (aCU (l := 0) (h := x5) rfl hh aBR (aAR hh) (el rfl) h4) fun _ => ?_
 refine N_copyR (od := odC [0] true (aA .i64 ((min (Int.toNat x5 - Int.toNat 0) (Int.toNat (x4.length : Int) - Int.toNat x5) : Nat) : Int)) [aD v1 30 (aB .i64) (cpy x4 (List.drop (Int.toNat 0) x4) (Int.toNat x5) (min (Int.toNat x5 - Int.toNat 0) (Int.toNat (x4.length : Int) - Int.toNat x5)))]) (p := 0) rfl (fun _ => rfl) (fun _ => rfl) trivial rfl rfl rfl rfl (has rfl) (has rfl) (et rfl) ⟨(xP h3).1, (xP h3).2, (xP h4).1, (xP h4).2⟩ (fun _ => ?_)
 refine M2 ?_
 intros
 refine Z4 ?_
 exact Tm ((k1, cpy x4 (List.drop (Int.toNat 0) x4) (Int.toNat x5) (min (Int.toNat x5 - Int.toNat 0) (Int.toNat (x4.length : Int) - Int.toNat x5)), z1)) ⟨H, ls⟩
 exact fk
 kernel_rfl
 refine Z6 ?_
 exact Tm (x4) (ij H)
 clear H; intro x1 hi; subst o1; have H := Hr1; clear Hr1; try dsimp only at H
 try dsimp only
 refine Z5 ?_
 cases H
 exact wL rfl (bL rfl) (fun _ _ _ => trivial) rfl
def tC (fuel : Nat) (y1 : ScopeDef) : Nat → Int → (List (List Int)) → Option (List (List Int))
| 0, _, _ => none
| k + 1, x10, x11 =>
 if x10 < (y1.Chans.length : Int) then
  (idx y1.Chans x10).bind fun y4 =>
  (wB fuel [1] y4.Many).bind fun y5 =>
  (eI (x11 ++ ([y5] : List (List Int)))).bind fun z1 =>
  (chk (x10 + 1)).bind fun z2 =>
  tC fuel y1 k z2 z1
 else
  some x11
def sW (fuel : Nat) (a0 : Usage_text) : Nat → (List UsageDef) → Int → Option (List UsageDef)
| 0, _, _ => none
| k + 1, x4, x5 =>
 if x5 < (a0.ScopeProg.Defs.length : Int) then
  ((idx a0.ScopeProg.Defs x5).bind fun y1 =>
  (wB fuel [1] (y1.Chans.length : Int)).bind fun y2 =>
  (wB fuel [1] (y1.Rules.length : Int)).bind fun y3 =>
  (tC fuel y1 fuel 0 []).bind fun x7 =>
  (eI (x4 ++ ([(⟨y2, y3, x7⟩ : UsageDef)] : List UsageDef))).bind fun z3 =>
  some z3).bind fun x6 =>
  (chk (x5 + 1)).bind fun z4 =>
  sW fuel a0 k x6 z4
 else
  some x4
def aAI (fuel : Nat) (a0 : Usage_text) : Option (List UsageDef) :=
 (sW fuel a0 fuel [] 0).bind fun x1 =>
 some x1
theorem aGZ (fuel : Nat)  (a0 : Usage_text) (r : List UsageDef) (H : aAI fuel a0 = some r) : FnS Tryz.prog 37 [aF bN a0] [] fAny (fun v => [(fun v => bM v 61 cW r) v]) := by
 unfold aAI at H
 refine bJ Tryz.func37 rfl Tryz.ntmps37 rfl (fun β => ?_)
 revert H; refine B6 fun o1 H Hr1 => ?_
 refine aR (ι := List UsageDef × Value) (fun i => o1 = i.1) (fun i => [(3, fEq i.2)]) (fun i => [bM i.2 61 cW i.1]) ?_ ?_
 refine Z10 ?_
 refine qR cW 61 ?_
 refine Tl (ι := Nat × List UsageDef × Int × Value) (fun i => sW fuel a0 i.1 i.2.1 i.2.2.1 = _) (fun i => i.1) (fun i => [(3, fEq i.2.2.2), (13, fSl aI a0.ScopeProg.Defs), (14, aA .i64 (a0.ScopeProg.Defs.length : Int)), (15, aA .i64 i.2.2.1)]) (fun i => [bM i.2.2.2 61 cW i.2.1]) (fuel, [], 0, (.slice none 0 0)) H ?_
 clear H; rintro ⟨k1, x4, x5, v3⟩ H
 replace H : sW fuel a0 k1 x4 x5 = _ := H
 try dsimp only
 obtain _ | k1 := k1
 rw [sW] at H; cases H
 rw [sW] at H
 refine dJ 0 rfl (fun hc_v3 => ?_)
 refine Z3 ?_
 refine aG ?_
 revert H; refine is (fun c1 H => ?_) fun c1 H => ?_
 revert H; refine B3 fun o2 H Hr2 => ?_
 refine aR (ι := List UsageDef × Value) (fun i => o2 = i.1) (fun i => [(13, fSl aI a0.ScopeProg.Defs), (14, aA .i64 (a0.ScopeProg.Defs.length : Int)), (15, aA .i64 x5), (3, fEq i.2)]) (fun i => [bM i.2 61 cW i.1]) ?_ ?_
 revert H; refine B2 fun y1 h1 H => ?_
 refine Z2 ?_
 refine Tn (bZ rfl jD rfl) fun b1 => ?_
 refine cS (φs' := [fSl aU y1.Chans, fSl bH y1.Spots, fSl aZ y1.Rules]) trivial rfl rfl (has rfl) (has rfl) (aJ (bA) (aJ (bA) (aJ (bA) bP))) (sz rfl) rfl rfl rfl ?_
 refine Z1 ?_
 refine aG ?_
 revert H; refine bs fun y2 h2 H => ?_
 revert H; refine bs fun y3 h3 H => ?_
 apply bC (ods := [_, _, _, _, _, _, _, _, _, _, _, _, _]) 13 3 5 bB rfl rfl rfl
 refine ND ?_
 refine Mf (φ := fSl (aB .i64) [1]) (cH (t := (aB .i64)) (xs := [1]) rfl (et rfl) (aQ.cons rfl (has rfl) (aS (aE trivial)) aQ.nil) rfl rfl rfl) (fun b => cL) fun _ => ?_
 refine M3 ?_
 intros
 refine aAv (od := odN [2] true (fun _ v6 => eE v6) (fun _ v6 => [aD v6 30 (aB .i64) y2])) (p := 2) (τ := fun v => aD v 30 (aB .i64) y2) rfl (fun _ => rfl) (fun _ => rfl) trivial rfl rfl rfl (has rfl) (aO.cons (has rfl) (aO.cons (has rfl) aO.nil)) rfl (cb rfl) (aAm fuel [1] (y1.Chans.length : Int) y2 h2) (fun _ => dQ) (fun u1 v6 => ?_)
 refine Mf (φ := fSl (aB .i64) [1]) (cH (t := (aB .i64)) (xs := [1]) rfl (et rfl) (aQ.cons rfl (has rfl) (aS (aE trivial)) aQ.nil) rfl rfl rfl) (fun b => cL) fun _ => ?_
 refine M3 ?_
 intros
 refine aAv (od := odN [3] true (fun _ v8 => eE v8) (fun _ v8 => [aD v8 30 (aB .i64) y3])) (p := 3) (τ := fun v => aD v 30 (aB .i64) y3) rfl (fun _ => rfl) (fun _ => rfl) trivial rfl rfl rfl (has rfl) (aO.cons (has rfl) (aO.cons (has rfl) aO.nil)) rfl (cb rfl) (aAm fuel [1] (y1.Rules.length : Int) y3 h3) (fun _ => dQ) (fun u2 v8 => ?_)
 refine D2 4 9 _ v6 _ v8 (fun _ v6 _ v8 => fC [eE v6, eE v8, fEq (.slice none 0 0)]) rfl rfl (dN (ψs := [eE v6, eE v8, fEq (.slice none 0 0)]) rfl aBQ rfl (aW.cons (has rfl) (aS (iL)) (aW.cons (has rfl) (aS (iL)) aW.nil)) rfl) (fun _ => ?_)
 refine Mn 4 (fun b4 => ptr b4) (fun b4 => aC b4 61 [fEq (.slice none 0 0), fEq (.slice none 0 0), fEq (.slice none 0 0)]) rfl (bZ rfl uV rfl) (fun b4 u3 => ?_)
 refine oT (od := od3 4 9 11 [4] true (fun _ v6 _ v8 b4 _ => fAny) (fun _ v6 _ v8 b4 _ => [aC b4 61 [eE v6, eE v8, fEq (.slice none 0 0)]])) (p := 4) (φs' := [eE v6, eE v8, fEq (.slice none 0 0)]) rfl (fun _ => rfl) (fun _ => rfl) trivial rfl rfl rfl (has rfl) (has rfl) (aJ (iL) (aJ (iL) (aJ (aE trivial) bP))) (sz rfl) rfl rfl rfl (fun _ => ?_)
 refine Z1 ?_
 refine lA 23 rfl gQ ?_
 refine lA 28 rfl gQ ?_
 refine lA 29 rfl (gF (aP.cons gQ (aP.cons gQ (aP.cons Ent.rfl aP.nil)))) ?_
 refine aN 2 rfl (fun hc_v6 => ?_)
 refine aN 3 rfl (fun hc_v8 => ?_)
 refine bK ?_
 refine T_blkE (aP.cons gQ (aP.cons gQ (aP.cons Ent.rfl aP.nil))) ?_
 revert H; refine B1 fun o3 H Hr3 => ?_
 refine aR (ι := List (List Int) × Value) (fun i => o3 = i.1) (fun i => [(3, fEq v3), (13, fSl aI a0.ScopeProg.Defs), (14, aA .i64 (a0.ScopeProg.Defs.length : Int)), (15, aA .i64 x5), (6, fEq (ptr b4))]) (fun i => [aC b4 61 [fEq v6, fEq v8, fEq i.2], aC b1 99 [fSl aU y1.Chans, fSl bH y1.Spots, fSl aZ y1.Rules], bM v3 61 cW x4, aD v6 30 (aB .i64) y2, aD v8 30 (aB .i64) y3, bM i.2 58 (bW 30 (aB .i64)) i.1]) ?_ ?_
 refine Z7 ?_
 refine qR (bW 30 (aB .i64)) 58 ?_
 refine aH [1, 2, 3, 4, 5, 0] (by decide) ?_
 refine Tl (ι := Nat × Int × List (List Int) × Value) (fun i => tC fuel y1 i.1 i.2.1 i.2.2.1 = _) (fun i => i.1) (fun i => [(3, fEq v3), (13, fSl aI a0.ScopeProg.Defs), (14, aA .i64 (a0.ScopeProg.Defs.length : Int)), (15, aA .i64 x5), (6, fEq (ptr b4)), (31, fSl aU y1.Chans), (32, aA .i64 (y1.Chans.length : Int)), (33, aA .i64 i.2.1)]) (fun i => [aC b4 61 [fEq v6, fEq v8, fEq i.2.2.2], aC b1 99 [fSl aU y1.Chans, fSl bH y1.Spots, fSl aZ y1.Rules], bM v3 61 cW x4, aD v6 30 (aB .i64) y2, aD v8 30 (aB .i64) y3, bM i.2.2.2 58 (bW 30 (aB .i64)) i.2.2.1]) (fuel, 0, [], (.slice none 0 0)) H ?_
 clear H; rintro ⟨k2, x10, x11, v11⟩ H
 replace H : tC fuel y1 k2 x10 x11 = _ := H
 try dsimp only
 obtain _ | k2 := k2
 rw [tC] at H; cases H
 rw [tC] at H
 refine dJ 5 rfl (fun hc_v11 => ?_)
 refine Z3 ?_
 refine aG ?_
 revert H; refine is (fun c2 H => ?_) fun c2 H => ?_
 refine Z3 ?_
 refine aG ?_
 revert H; refine B2 fun y4 h4 H => ?_
 refine Z2 ?_
 refine Tn (bZ rfl aBH rfl) fun b5 => ?_
 refine cS (φs' := [aA .i64 y4.At, aA .i64 y4.Many]) trivial rfl rfl (has rfl) (has rfl) (aJ (aE trivial) (aJ (aE trivial) bP)) (sz rfl) rfl rfl rfl ?_
 revert H; refine B1 fun y5 h5 H => ?_
 apply bC (ods := [_, _, _, _, _, _, _]) 7 2 9 bB rfl rfl rfl
 refine ND ?_
 refine M2 ?_
 intros
 refine Mf (φ := fSl (aB .i64) [1]) (cH (t := (aB .i64)) (xs := [1]) rfl (et rfl) (aQ.cons rfl (has rfl) (aS (aE trivial)) aQ.nil) rfl rfl rfl) (fun b => cL) fun _ => ?_
 refine M2 ?_
 intros
 refine aAv (od := odN [7] true (fun _ v13 => eE v13) (fun _ v13 => [aD v13 30 (aB .i64) y5])) (p := 7) (τ := fun v => aD v 30 (aB .i64) y5) rfl (fun _ => rfl) (fun _ => rfl) trivial rfl rfl rfl (has rfl) (aO.cons (has rfl) (aO.cons (has rfl) aO.nil)) rfl (cb rfl) (aAm fuel [1] y4.Many y5 h5) (fun _ => dQ) (fun u4 v13 => ?_)
 refine N_new (od := odN1 5 [8] true (fun _ v13 b7 _ => fEq (.slice (some ⟨b7, 0, none⟩) 1 1)) (fun _ v13 b7 _ => [aD (.slice (some ⟨b7, 0, none⟩) 1 1) 58 (tF 1) [[⟨eE v13, iL⟩]]])) (p := 8) (f := fun b7 => .slice (some ⟨b7, 0, none⟩) 1 1) (τ := fun b7 => aD (.slice (some ⟨b7, 0, none⟩) 1 1) 58 (tF 1) [[⟨eE v13, iL⟩]]) rfl (fun _ => rfl) (fun _ => rfl) trivial rfl rfl (cH (t := tF 1) (xs := [[⟨eE v13, iL⟩]]) rfl (et rfl) (aQ.cons rfl (has rfl) (aS (iL)) aQ.nil) rfl rfl rfl) (fun b7 u5 => ?_)
 refine Z1 ?_
 refine lA 42 rfl gQ ?_
 refine aN 7 rfl (fun hc_v13 => ?_)
 generalize (Value.slice (some ⟨b7, 0, none⟩) 1 1) = v14
 refine T_fr8 ?_
 refine oR ?_
 refine T_fr8 ?_
 refine fN (p := 0) (f := (fun v => aD v 30 (aB .i64) y5)) (hf := (fun _ => dQ)) rfl gQ ?_
 refine oZ (o := (bW 30 (aB .i64))) (xs := ([y5] : List (List Int))) rfl rfl rfl ?_
 refine dJ 0 rfl (fun hc_v14 => ?_)
 revert H; refine bs fun z1 h6 H => ?_
 refine T_fr7 ?_
 refine cI ?_
 refine sM (q := (bW 30 (aB .i64))) trivial rfl rfl rfl (has rfl) (has rfl) (et rfl) rfl h6 (fun v15 => ?_)
 refine dJ 0 rfl (fun hc_v15 => ?_)
 refine Z1 ?_
 refine eB ?_
 refine dA (φs' := [fEq v6, fEq v8, fEq v15]) trivial rfl rfl (has rfl) (has rfl) (aE hc_v15) (sz rfl) rfl rfl ?_
 revert H; refine B4 fun z2 h7 H => ?_
 refine Z3 ?_
 refine aH [0, 3, 4, 5, 6, 1] (by decide) ?_
 exact Tm ((k2, z2, z1, v15)) ⟨H, ls⟩
 exact fk
 kernel_rfl
 refine Z6 ?_
 exact Tm ((x11, v11)) (ij H)
 clear H; intro i hi; obtain ⟨x7, v9⟩ := i; subst o3; have H := Hr3; clear Hr3; try dsimp only at H
 try dsimp only
 refine dJ 5 rfl (fun hc_v9 => ?_)
 refine Z3 ?_
 refine Tn (cH (t := tF 3) (xs := [[⟨fEq v6, aE hc_v6⟩, ⟨fEq v8, aE hc_v8⟩, ⟨fEq v9, aE hc_v9⟩]]) rfl (et rfl) (aQ.cons rfl (has rfl) bO aQ.nil) rfl rfl rfl) fun b8 => ?_
 generalize (Value.slice (some ⟨b8, 0, none⟩) _ _) = v16
 refine oR ?_
 refine bK ?_
 refine fN (p := 0) (f := (fun v => aD v 30 (aB .i64) y2)) (hf := (fun _ => dQ)) rfl Ent.rfl ?_
 refine bK ?_
 refine fN (p := 1) (f := (fun v => aD v 30 (aB .i64) y3)) (hf := (fun _ => dQ)) rfl Ent.rfl ?_
 refine bK ?_
 refine fN (p := 2) (f := (fun v => bM v 58 (bW 30 (aB .i64)) x7)) (hf := (fun _ => iJ)) rfl Ent.rfl ?_
 refine oZ (o := cW) (xs := ([(⟨y2, y3, x7⟩ : UsageDef)] : List UsageDef)) rfl rfl rfl ?_
 refine dJ 0 rfl (fun hc_v16 => ?_)
 revert H; refine bs fun z3 h8 H => ?_
 refine cX ?_
 refine cI ?_
 refine sM (q := cW) trivial rfl rfl rfl (has rfl) (has rfl) (et rfl) rfl h8 (fun v17 => ?_)
 refine dJ 0 rfl (fun hc_v17 => ?_)
 refine Z4 ?_
 refine aH [0] (by decide) ?_
 exact Tm ((z3, v17)) (ij H)
 exact fk
 kernel_rfl
 clear H; intro i hi; obtain ⟨x6, v4⟩ := i; subst o2; have H := Hr2; clear Hr2; try dsimp only at H
 try dsimp only
 refine dJ 0 rfl (fun hc_v4 => ?_)
 revert H; refine B1 fun z4 h9 H => ?_
 refine Z3 ?_
 exact Tm ((k1, x6, z4, v4)) ⟨H, ls⟩
 refine Z6 ?_
 exact Tm ((x4, v3)) (ij H)
 clear H; intro i hi; obtain ⟨x1, v1⟩ := i; subst o1; have H := Hr1; clear Hr1; try dsimp only at H
 try dsimp only
 refine dJ 0 rfl (fun hc_v1 => ?_)
 refine Z5 ?_
 cases H
 exact wL rfl (bL rfl) (fun _ _ _ => trivial) rfl
def pH (a0 : Usage_text) (a1 : Int) (a2 : Int) : Option (Int) :=
 (idx a0.heads a1).bind fun y1 =>
 (idx a0.sizes y1).bind fun y2 =>
 (chk (y2 + a2)).bind fun z1 =>
 some z1
theorem yZ  (a0 : Usage_text) (a1 : Int) (a2 : Int) (r : Int) (H : pH a0 a1 a2 = some r) : FnS Tryz.prog 42 [aF bN a0, aA .i64 a1, aA .i64 a2] [] (aA .i64 r) (fun _ => []) := by
 unfold pH at H
 refine bJ Tryz.func42 rfl Tryz.ntmps42 rfl (fun β => ?_)
 refine Z3 ?_
 refine aG ?_
 revert H; refine bs fun y1 h1 H => ?_
 revert H; refine bs fun y2 h2 H => ?_
 revert H; refine bs fun z1 h3 H => ?_
 apply bC (ods := [_, _, _, _, _, _, _, _, _, _, _, _, _, _, _, _]) 16 0 0 bB rfl rfl rfl
 refine ND ?_
 refine M8 ?_
 intros
 refine M8 ?_
 intros
 refine Z3 ?_
 cases H
 exact To
 exact fk
 kernel_rfl
def mP (fuel : Nat) (a0 : Usage_text) (a1 : List UsageDef) (a2 : Int) (y1 : ScopeDef) : Nat → (List (List Int)) → Int → (List Int) → Option (List (List Int) × List Int)
| 0, _, _, _ => none
| k + 1, x6, x7, x8 =>
 if x7 < (y1.Chans.length : Int) then
  (idx y1.Chans x7).bind fun y3 =>
  (idx a0.heads a2).bind fun y4 =>
  (pH a0 a2 x7).bind fun y5 =>
  (oE fuel a0 a1 y4 y5).bind fun y6 =>
  (pJ y6).bind fun y7 =>
  (eI (x8 ++ [y7])).bind fun z1 =>
  (mk 0 y3.Many).bind fun y8 =>
  (idx x6 x7).bind fun y9 =>
  (chk (x7 + 1)).bind fun z2 =>
  mP fuel a0 a1 a2 y1 k (x6.set x7.toNat y8) z2 z1
 else
  some (x6, x8)
def lM (a1 : List UsageDef) (a2 : Int) (y10 : ScopeRule) : Nat → Int → Int → Option (Int)
| 0, _, _ => none
| k + 1, x22, x23 =>
 if x23 < (y10.Joins.length : Int) then
  (idx y10.Joins x23).bind fun y11 =>
  (idx a1 a2).bind fun y12 =>
  (idx y12.Chans y11).bind fun y13 =>
  (mR y13).bind fun y14 =>
  (chk (x23 + 1)).bind fun z3 =>
  lM a1 a2 y10 k (min x22 y14) z3
 else
  some x22
def mY (fuel : Nat) (a0 : Usage_text) (a1 : List UsageDef) (y10 : ScopeRule) (x27 : List (List Int)) (y20 : Int) (y21 : List Int) : Nat → Int → Int → (List Int) → Option (List (List Int) × Int)
| 0, _, _, _ => none
| k + 1, x35, x36, x37 =>
 if x36 < (y21.length : Int) then
  (idx x27 y20).bind fun y22 =>
  (idx x27 y20).bind fun y23 =>
  (idx x37 x36).bind fun y24 =>
  (fD fuel a0 a1 y10.Node x35).bind fun y25 =>
  (pC y24 y25).bind fun y26 =>
  (idx x37 x36).bind fun y27 =>
  (chk (x35 + 1)).bind fun z6 =>
  (chk (x36 + 1)).bind fun z7 =>
  mY fuel a0 a1 y10 x27 y20 y21 k z6 z7 (x37.set x36.toNat y26)
 else
  some (x27.set y20.toNat x37, x35)
def nI (fuel : Nat) (a0 : Usage_text) (a1 : List UsageDef) (y10 : ScopeRule) (z4 : List Int) : Nat → (List (List Int)) → Int → Int → Option (List (List Int) × List Int)
| 0, _, _, _ => none
| k + 1, x27, x28, x29 =>
 if x29 < (y10.Joins.length : Int) then
  ((idx y10.Joins x29).bind fun y20 =>
  (idx x27 y20).bind fun y21 =>
  mY fuel a0 a1 y10 x27 y20 y21 fuel x28 0 y21).bind fun (x30, x31) =>
  (chk (x29 + 1)).bind fun z8 =>
  nI fuel a0 a1 y10 z4 k x30 x31 z8
 else
  some (x27, z4)
def kF (fuel : Nat) (a0 : Usage_text) (a1 : List UsageDef) (a2 : Int) (y1 : ScopeDef) : Nat → (List (List Int)) → Int → (List Int) → Option (List (List Int) × List Int)
| 0, _, _, _ => none
| k + 1, x14, x15, x16 =>
 if x15 < (y1.Rules.length : Int) then
  ((idx y1.Rules x15).bind fun y10 =>
  (lM a1 a2 y10 fuel 2 0).bind fun x19 =>
  (pJ x19).bind fun y15 =>
  (eI (x16 ++ [y15])).bind fun z4 =>
  (idx a1 a2).bind fun y16 =>
  (idx y16.Rules x15).bind fun y17 =>
  (mR y17).bind fun y18 =>
  if y18 = 0 then
   some (x14, z4)
  else
   (pH a0 a2 (y1.Chans.length : Int)).bind fun y19 =>
   (chk (y19 + (y1.Spots.length : Int))).bind fun z5 =>
   nI fuel a0 a1 y10 z4 fuel x14 z5 0).bind fun (x17, x18) =>
  (chk (x15 + 1)).bind fun z9 =>
  kF fuel a0 a1 a2 y1 k x17 z9 x18
 else
  some (x14, x16)
def mL (y28 : List Int) : Nat → (List Int) → Int → Option (List Int)
| 0, _, _ => none
| k + 1, x50, x51 =>
 if x51 < (y28.length : Int) then
  (idx y28 x51).bind fun y29 =>
  (pJ y29).bind fun y30 =>
  (eI (x50 ++ [y30])).bind fun z10 =>
  (chk (x51 + 1)).bind fun z11 =>
  mL y28 k z10 z11
 else
  some x50
def nJ (fuel : Nat) (x9 : List (List Int)) : Nat → (List (List Int)) → Int → (List (List Int)) → Option (List (List Int))
| 0, _, _, _ => none
| k + 1, x42, x43, x44 =>
 if x43 < (x9.length : Int) then
  ((idx x42 x43).bind fun y28 =>
  (mL y28 fuel [] 0).bind fun x47 =>
  (eI (x44 ++ ([x47] : List (List Int)))).bind fun z12 =>
  some (x42.set x43.toNat y28, z12)).bind fun (x45, x46) =>
  (chk (x43 + 1)).bind fun z13 =>
  nJ fuel x9 k x45 z13 x46
 else
  some x44
def sQ (fuel : Nat) (a0 : Usage_text) (a1 : List UsageDef) (a2 : Int) : Option (UsageDef) :=
 (idx a0.ScopeProg.Defs a2).bind fun y1 =>
 (mk ([] : List Int) (y1.Chans.length : Int)).bind fun y2 =>
 (mP fuel a0 a1 a2 y1 fuel y2 0 []).bind fun (x1, x2) =>
 (kF fuel a0 a1 a2 y1 fuel x1 0 []).bind fun (x9, x10) =>
 (nJ fuel x9 fuel x9 0 []).bind fun x38 =>
 some (⟨x2, x10, x38⟩ : UsageDef)
theorem aFZ (fuel : Nat)  (a0 : Usage_text) (a1 : List UsageDef) (a2 : Int) (r : UsageDef) (H : sQ fuel a0 a1 a2 = some r) : FnS Tryz.prog 81 [aF bN a0, fSl aX a1, aA .i64 a2] [] fAny (fun v => [sD .agg [.own (fun v => aD v 30 (aB .i64) r.Chans) (fun _ => dQ), .own (fun v => aD v 30 (aB .i64) r.Rules) (fun _ => dQ), .own (fun v => bM v 58 (bW 30 (aB .i64)) r.Args) (fun _ => iJ)] v]) := by
 unfold sQ at H
 refine bJ Tryz.func81 rfl Tryz.ntmps81 rfl (fun β => ?_)
 refine Z1 ?_
 refine Tn (bZ rfl uV rfl) fun b1 => ?_
 revert H; refine B8 fun y1 h1 H => ?_
 refine Z2 ?_
 refine Tn (bZ rfl jD rfl) fun b2 => ?_
 refine cS (φs' := [fSl aU y1.Chans, fSl bH y1.Spots, fSl aZ y1.Rules]) trivial rfl rfl (has rfl) (has rfl) (aJ (bA) (aJ (bA) (aJ (bA) bP))) (sz rfl) rfl rfl rfl ?_
 refine Z2 ?_
 refine Tn (bZ rfl uV rfl) fun b3 => ?_
 revert H; refine B5 fun y2 h2 H => ?_
 obtain ⟨h3, h4⟩ := mk_rep (z' := ([⟨fEq (.slice none 0 0), aE trivial⟩] : List LF)) h2
 refine Tn (lK (t := tF 1) (z := [⟨fEq (.slice none 0 0), aE trivial⟩]) rfl (has rfl) (et rfl) rfl aG3 rfl h4) fun b4 => ?_
 generalize (Value.slice (some ⟨b4, 0, none⟩) _ _) = v1
 refine T_nilsD2 (o := (bW 67 (aB .i64))) (ys := y2) h3 rfl nil_tk ?_
 refine dJ 0 rfl (fun hc_v1 => ?_)
 revert H; refine B2 fun o1 H Hr1 => ?_
 refine aR (ι := List (List Int) × List Int × Value) (fun i => o1 = (i.1, i.2.1)) (fun i => [(0, aF bN a0), (1, fSl aX a1), (2, aA .i64 a2), (6, fEq (ptr b1)), (7, fEq (ptr b2)), (8, fEq (ptr b3)), (9, fEq v1)]) (fun i => [aC b3 61 [fEq i.2.2, fEq (.slice none 0 0), fEq (.slice none 0 0)], aC b2 99 [fSl aU y1.Chans, fSl bH y1.Spots, fSl aZ y1.Rules], aC b1 61 [fEq (.slice none 0 0), fEq (.slice none 0 0), fEq (.slice none 0 0)], bM v1 157 (bW 67 (aB .i64)) i.1, aD i.2.2 30 (aB .i64) i.2.1]) ?_ ?_
 refine Z7 ?_
 refine oF (aB .i64) 30 ?_
 refine aH [2, 3, 4, 1, 0] (by decide) ?_
 refine Tl (ι := Nat × List (List Int) × Int × List Int × Value) (fun i => mP fuel a0 a1 a2 y1 i.1 i.2.1 i.2.2.1 i.2.2.2.1 = _) (fun i => i.1) (fun i => [(0, aF bN a0), (1, fSl aX a1), (2, aA .i64 a2), (6, fEq (ptr b1)), (7, fEq (ptr b2)), (8, fEq (ptr b3)), (9, fEq v1), (39, fSl aU y1.Chans), (40, aA .i64 (y1.Chans.length : Int)), (41, aA .i64 i.2.2.1)]) (fun i => [aC b3 61 [fEq i.2.2.2.2, fEq (.slice none 0 0), fEq (.slice none 0 0)], aC b2 99 [fSl aU y1.Chans, fSl bH y1.Spots, fSl aZ y1.Rules], aC b1 61 [fEq (.slice none 0 0), fEq (.slice none 0 0), fEq (.slice none 0 0)], bM v1 157 (bW 67 (aB .i64)) i.2.1, aD i.2.2.2.2 30 (aB .i64) i.2.2.2.1]) (fuel, y2, 0, [], (.slice none 0 0)) H ?_
 clear H; rintro ⟨k1, x6, x7, x8, v4⟩ H
 replace H : mP fuel a0 a1 a2 y1 k1 x6 x7 x8 = _ := H
 try dsimp only
 obtain _ | k1 := k1
 rw [mP] at H; cases H
 rw [mP] at H
 refine aN 4 rfl (fun hc_v4 => ?_)
 refine Z3 ?_
 refine aG ?_
 revert H; refine is (fun c1 H => ?_) fun c1 H => ?_
 refine Z3 ?_
 refine aG ?_
 revert H; refine B3 fun y3 h5 H => ?_
 refine Z2 ?_
 refine Tn (bZ rfl aBH rfl) fun b5 => ?_
 refine Z1 ?_
 refine cS (φs' := [aA .i64 y3.At, aA .i64 y3.Many]) trivial rfl rfl (has rfl) (has rfl) (aJ (aE trivial) (aJ (aE trivial) bP)) (sz rfl) rfl rfl rfl ?_
 refine Z1 ?_
 refine aG ?_
 revert H; refine bs fun y4 h6 H => ?_
 revert H; refine bs fun y5 h7 H => ?_
 revert H; refine bs fun y6 h8 H => ?_
 revert H; refine bs fun y7 h9 H => ?_
 apply bC (ods := [_, _, _, _, _, _, _, _, _, _, _, _, _, _, _, _, _, _]) 18 0 6 bB rfl rfl rfl
 refine ND ?_
 refine M8 ?_
 intros
 refine M6 ?_
 intros
 refine Nc (yZ _ _ _ _ h7) fun _ => ?_
 refine Nc (aHD _ _ _ _ _ _ h8) fun _ => ?_
 refine Nc (aAa _ _ h9) fun _ => ?_
 refine Mf (φ := fSl (aB .i64) [y7]) (cH (t := (aB .i64)) (xs := [y7]) rfl (et rfl) (aQ.cons rfl (has rfl) (aS (aE trivial)) aQ.nil) rfl rfl rfl) (fun b => cL) fun _ => ?_
 revert H; refine B1 fun z1 h10 H => ?_
 refine lC ?_
 refine uW (ys := [y7]) trivial rfl rfl rfl (has rfl) (has rfl) (et rfl) rfl h10 (fun v6 => ?_)
 refine aN 0 rfl (fun hc_v6 => ?_)
 refine Z1 ?_
 refine eB ?_
 refine dA (φs' := [fEq v6, fEq (.slice none 0 0), fEq (.slice none 0 0)]) trivial rfl rfl (has rfl) (has rfl) (aE hc_v6) (sz rfl) rfl rfl ?_
 revert H; refine B6 fun y8 h11 H => ?_
 refine Tn (lK (t := (aB .i64)) (z := 0) rfl (has rfl) (et rfl) rfl aD8 rfl h11) fun b7 => ?_
 generalize (Value.slice (some ⟨b7, 0, none⟩) _ _) = v7
 refine aN 0 rfl (fun hc_v7 => ?_)
 revert H; refine bs fun y9 h12 H => ?_
 refine Yo 6 rfl (lD rfl hh hh (el rfl) h12) ?_
 refine nO ?_
 refine cI ?_
 refine aFY (z' := y8) (f := (fun v => aD v 67 (aB .i64) y8)) (hf := (fun _ => dQ)) trivial rfl rfl rfl (has rfl) (has rfl) hc_v7 (sz rfl) (cB h12) rfl rfl ?_
 revert H; refine B4 fun z2 h13 H => ?_
 refine Z3 ?_
 refine aH [1, 4, 5, 0, 2] (by decide) ?_
 exact Tm ((k1, x6.set x7.toNat y8, z2, z1, v6)) ⟨H, ls⟩
 exact fk
 kernel_rfl
 refine Z6 ?_
 exact Tm ((x6, x8, v4)) (ij H)
 clear H; intro i hi; obtain ⟨x1, x2, v2⟩ := i; subst o1; have H := Hr1; clear Hr1; try dsimp only at H
 try dsimp only
 refine aN 4 rfl (fun hc_v2 => ?_)
 revert H; refine bs fun o2 H Hr2 => ?_
 refine aR (ι := List (List Int) × List Int × Value) (fun i => o2 = (i.1, i.2.1)) (fun i => [(6, fEq (ptr b1)), (8, fEq (ptr b3)), (9, fEq v1)]) (fun i => [aC b3 61 [fEq v2, fEq i.2.2, fEq (.slice none 0 0)], aC b2 99 [fSl aU y1.Chans, fSl bH y1.Spots, fSl aZ y1.Rules], aC b1 61 [fEq (.slice none 0 0), fEq (.slice none 0 0), fEq (.slice none 0 0)], bM v1 157 (bW 67 (aB .i64)) i.1, aD v2 30 (aB .i64) x2, aD i.2.2 30 (aB .i64) i.2.1]) ?_ ?_
 refine Z7 ?_
 refine oF (aB .i64) 30 ?_
 refine aH [1, 2, 3, 4, 5, 0] (by decide) ?_
 refine Tl (ι := Nat × List (List Int) × Int × List Int × Value) (fun i => kF fuel a0 a1 a2 y1 i.1 i.2.1 i.2.2.1 i.2.2.2.1 = _) (fun i => i.1) (fun i => [(0, aF bN a0), (1, fSl aX a1), (2, aA .i64 a2), (6, fEq (ptr b1)), (7, fEq (ptr b2)), (8, fEq (ptr b3)), (9, fEq v1), (74, fSl aZ y1.Rules), (75, aA .i64 (y1.Rules.length : Int)), (76, aA .i64 i.2.2.1)]) (fun i => [aC b3 61 [fEq v2, fEq i.2.2.2.2, fEq (.slice none 0 0)], aC b2 99 [fSl aU y1.Chans, fSl bH y1.Spots, fSl aZ y1.Rules], aC b1 61 [fEq (.slice none 0 0), fEq (.slice none 0 0), fEq (.slice none 0 0)], bM v1 157 (bW 67 (aB .i64)) i.2.1, aD v2 30 (aB .i64) x2, aD i.2.2.2.2 30 (aB .i64) i.2.2.2.1]) (fuel, x1, 0, [], (.slice none 0 0)) H ?_
 clear H; rintro ⟨k2, x14, x15, x16, v10⟩ H
 replace H : kF fuel a0 a1 a2 y1 k2 x14 x15 x16 = _ := H
 try dsimp only
 obtain _ | k2 := k2
 rw [kF] at H; cases H
 rw [kF] at H
 refine aN 5 rfl (fun hc_v10 => ?_)
 refine Z3 ?_
 refine aG ?_
 revert H; refine is (fun c2 H => ?_) fun c2 H => ?_
 revert H; refine B3 fun o3 H Hr3 => ?_
 refine aR (ι := List (List Int) × List Int × Value) (fun i => o3 = (i.1, i.2.1)) (fun i => [(0, aF bN a0), (1, fSl aX a1), (2, aA .i64 a2), (6, fEq (ptr b1)), (7, fEq (ptr b2)), (8, fEq (ptr b3)), (9, fEq v1), (74, fSl aZ y1.Rules), (75, aA .i64 (y1.Rules.length : Int)), (76, aA .i64 x15)]) (fun i => [aC b3 61 [fEq v2, fEq i.2.2, fEq (.slice none 0 0)], aC b2 99 [fSl aU y1.Chans, fSl bH y1.Spots, fSl aZ y1.Rules], aC b1 61 [fEq (.slice none 0 0), fEq (.slice none 0 0), fEq (.slice none 0 0)], bM v1 157 (bW 67 (aB .i64)) i.1, aD v2 30 (aB .i64) x2, aD i.2.2 30 (aB .i64) i.2.1]) ?_ ?_
 revert H; refine B3 fun y10 h14 H => ?_
 refine Z2 ?_
 refine Tn (bZ rfl tG rfl) fun b8 => ?_
 refine Z1 ?_
 refine cS (φs' := [aA .i64 y10.At, fSl (aB .i64) y10.Joins, aA .i64 y10.Node]) trivial rfl rfl (has rfl) (has rfl) (aJ (aE trivial) (aJ (bA) (aJ (aE trivial) bP))) (sz rfl) rfl rfl rfl ?_
 revert H; refine B4 fun o4 H Hr4 => ?_
 refine aR (ι := Int) (fun i => o4 = i) (fun i => [(0, aF bN a0), (1, fSl aX a1), (2, aA .i64 a2), (6, fEq (ptr b1)), (7, fEq (ptr b2)), (8, fEq (ptr b3)), (9, fEq v1), (74, fSl aZ y1.Rules), (75, aA .i64 (y1.Rules.length : Int)), (76, aA .i64 x15), (13, fEq (ptr b8)), (12, aA .i64 x15), (14, aA .i64 i)]) (fun i => [aC b8 105 [aA .i64 y10.At, fSl (aB .i64) y10.Joins, aA .i64 y10.Node], aC b3 61 [fEq v2, fEq v10, fEq (.slice none 0 0)], aC b2 99 [fSl aU y1.Chans, fSl bH y1.Spots, fSl aZ y1.Rules], aC b1 61 [fEq (.slice none 0 0), fEq (.slice none 0 0), fEq (.slice none 0 0)], bM v1 157 (bW 67 (aB .i64)) x14, aD v2 30 (aB .i64) x2, aD v10 30 (aB .i64) x16]) ?_ ?_
 refine Z7 ?_
 refine Tl (ι := Nat × Int × Int) (fun i => lM a1 a2 y10 i.1 i.2.1 i.2.2 = _) (fun i => i.1) (fun i => [(0, aF bN a0), (1, fSl aX a1), (2, aA .i64 a2), (6, fEq (ptr b1)), (7, fEq (ptr b2)), (8, fEq (ptr b3)), (9, fEq v1), (74, fSl aZ y1.Rules), (75, aA .i64 (y1.Rules.length : Int)), (76, aA .i64 x15), (13, fEq (ptr b8)), (12, aA .i64 x15), (14, aA .i64 i.2.1), (82, fSl (aB .i64) y10.Joins), (83, aA .i64 (y10.Joins.length : Int)), (84, aA .i64 i.2.2)]) (fun i => [aC b8 105 [aA .i64 y10.At, fSl (aB .i64) y10.Joins, aA .i64 y10.Node], aC b3 61 [fEq v2, fEq v10, fEq (.slice none 0 0)], aC b2 99 [fSl aU y1.Chans, fSl bH y1.Spots, fSl aZ y1.Rules], aC b1 61 [fEq (.slice none 0 0), fEq (.slice none 0 0), fEq (.slice none 0 0)], bM v1 157 (bW 67 (aB .i64)) x14, aD v2 30 (aB .i64) x2, aD v10 30 (aB .i64) x16]) (fuel, 2, 0) H ?_
 clear H; rintro ⟨k3, x22, x23⟩ H
 replace H : lM a1 a2 y10 k3 x22 x23 = _ := H
 try dsimp only
 obtain _ | k3 := k3
 rw [lM] at H; cases H
 rw [lM] at H
 refine Z3 ?_
 refine aG ?_
 revert H; refine is (fun c3 H => ?_) fun c3 H => ?_
 refine Z3 ?_
 refine aG ?_
 revert H; refine B2 fun y11 h15 H => ?_
 revert H; refine B8 fun y12 h16 H => ?_
 revert H; refine B4 fun y13 h17 H => ?_
 revert H; refine B2 fun y14 h18 H => ?_
 refine Tc (tU _ _ h18) ?_
 revert H; refine B6 fun z3 h19 H => ?_
 refine Z3 ?_
 exact Tm ((k3, min x22 y14, z3)) ⟨H, ls⟩
 refine Z6 ?_
 exact Tm (x22) (ij H)
 clear H; intro x19 hi; subst o4; have H := Hr4; clear Hr4; try dsimp only at H
 try dsimp only
 refine aG ?_
 revert H; refine bs fun y15 h20 H => ?_
 apply bC (ods := [_, _, _, _, _]) 5 0 7 bB rfl rfl rfl
 refine ND ?_
 refine M3 ?_
 intros
 refine Nc (aAa _ _ h20) fun _ => ?_
 refine Mf (φ := fSl (aB .i64) [y15]) (cH (t := (aB .i64)) (xs := [y15]) rfl (et rfl) (aQ.cons rfl (has rfl) (aS (aE trivial)) aQ.nil) rfl rfl rfl) (fun b => cL) fun _ => ?_
 revert H; refine B1 fun z4 h21 H => ?_
 refine nO ?_
 refine uW (ys := [y15]) trivial rfl rfl rfl (has rfl) (has rfl) (et rfl) rfl h21 (fun v13 => ?_)
 refine aN 0 rfl (fun hc_v13 => ?_)
 refine Z1 ?_
 refine eB ?_
 refine dA (φs' := [fEq v2, fEq v13, fEq (.slice none 0 0)]) trivial rfl rfl (has rfl) (has rfl) (aE hc_v13) (sz rfl) rfl rfl ?_
 refine Z1 ?_
 refine aG ?_
 revert H; refine B3 fun y16 h22 H => ?_
 revert H; refine B4 fun y17 h23 H => ?_
 revert H; refine B2 fun y18 h24 H => ?_
 refine Tc (tU _ _ h24) ?_
 revert H; refine I2 (fun c4 H => ?_) fun c4 H => ?_
 refine Z5 ?_
 refine aH [0, 3, 4, 5, 6, 1] (by decide) ?_
 exact Tm ((x14, z4, v13)) (ij H)
 refine Z3 ?_
 refine aG ?_
 revert H; refine bs fun y19 h25 H => ?_
 revert H; refine bs fun z5 h26 H => ?_
 apply bC (ods := [_, _, _, _, _, _, _, _, _, _, _]) 11 0 7 bB rfl rfl rfl
 refine ND ?_
 refine M5 ?_
 intros
 refine Nc (yZ _ _ _ _ h25) fun _ => ?_
 refine M5 ?_
 intros
 refine Z9 ?_
 refine aH [0, 2, 3, 4, 5, 6, 1] (by decide) ?_
 refine Tl (ι := Nat × List (List Int) × Int × Int) (fun i => nI fuel a0 a1 y10 z4 i.1 i.2.1 i.2.2.1 i.2.2.2 = _) (fun i => i.1) (fun i => [(0, aF bN a0), (1, fSl aX a1), (2, aA .i64 a2), (6, fEq (ptr b1)), (7, fEq (ptr b2)), (8, fEq (ptr b3)), (9, fEq v1), (74, fSl aZ y1.Rules), (75, aA .i64 (y1.Rules.length : Int)), (76, aA .i64 x15), (13, fEq (ptr b8)), (17, aA .i64 i.2.2.1), (128, fSl (aB .i64) y10.Joins), (129, aA .i64 (y10.Joins.length : Int)), (130, aA .i64 i.2.2.2)]) (fun i => [aC b3 61 [fEq v2, fEq v13, fEq (.slice none 0 0)], aC b8 105 [aA .i64 y10.At, fSl (aB .i64) y10.Joins, aA .i64 y10.Node], aC b2 99 [fSl aU y1.Chans, fSl bH y1.Spots, fSl aZ y1.Rules], aC b1 61 [fEq (.slice none 0 0), fEq (.slice none 0 0), fEq (.slice none 0 0)], bM v1 157 (bW 67 (aB .i64)) i.2.1, aD v2 30 (aB .i64) x2, aD v13 30 (aB .i64) z4]) (fuel, x14, z5, 0) H ?_
 clear H; rintro ⟨k4, x27, x28, x29⟩ H
 replace H : nI fuel a0 a1 y10 z4 k4 x27 x28 x29 = _ := H
 try dsimp only
 obtain _ | k4 := k4
 rw [nI] at H; cases H
 rw [nI] at H
 refine Z3 ?_
 refine aG ?_
 revert H; refine is (fun c5 H => ?_) fun c5 H => ?_
 revert H; refine B3 fun o5 H Hr5 => ?_
 refine aR (ι := List (List Int) × Int) (fun i => o5 = (i.1, i.2)) (fun i => [(0, aF bN a0), (1, fSl aX a1), (2, aA .i64 a2), (6, fEq (ptr b1)), (7, fEq (ptr b2)), (8, fEq (ptr b3)), (9, fEq v1), (74, fSl aZ y1.Rules), (75, aA .i64 (y1.Rules.length : Int)), (76, aA .i64 x15), (13, fEq (ptr b8)), (17, aA .i64 i.2), (128, fSl (aB .i64) y10.Joins), (129, aA .i64 (y10.Joins.length : Int)), (130, aA .i64 x29)]) (fun i => [aC b3 61 [fEq v2, fEq v13, fEq (.slice none 0 0)], aC b8 105 [aA .i64 y10.At, fSl (aB .i64) y10.Joins, aA .i64 y10.Node], aC b2 99 [fSl aU y1.Chans, fSl bH y1.Spots, fSl aZ y1.Rules], aC b1 61 [fEq (.slice none 0 0), fEq (.slice none 0 0), fEq (.slice none 0 0)], bM v1 157 (bW 67 (aB .i64)) i.1, aD v2 30 (aB .i64) x2, aD v13 30 (aB .i64) z4]) ?_ ?_
 revert H; refine B2 fun y20 h27 H => ?_
 revert H; refine B7 fun y21 h28 H => ?_
 refine Yo 4 rfl (lD rfl hh hh (el rfl) h28) ?_
 refine bK ?_
 refine rW (i := y20.toNat) (k := 0) (y := y21) (f := (fun v => aD v 67 (aB .i64) y21)) (cB h28) rfl (fun v14 => ?_)
 refine aN 0 rfl (fun hc_v14 => ?_)
 refine Yo 1 rfl (mF rfl rfl hh (sc rfl) (cB h28) rfl) ?_
 refine Z4 ?_
 refine aH [2, 3, 4, 5, 1, 6, 7, 0] (by decide) ?_
 refine Tl (ι := Nat × Int × Int × List Int) (fun i => mY fuel a0 a1 y10 x27 y20 y21 i.1 i.2.1 i.2.2.1 i.2.2.2 = _) (fun i => i.1) (fun i => [(0, aF bN a0), (1, fSl aX a1), (2, aA .i64 a2), (6, fEq (ptr b1)), (7, fEq (ptr b2)), (8, fEq (ptr b3)), (9, fEq v1), (74, fSl aZ y1.Rules), (75, aA .i64 (y1.Rules.length : Int)), (76, aA .i64 x15), (13, fEq (ptr b8)), (17, aA .i64 i.2.1), (128, fSl (aB .i64) y10.Joins), (129, aA .i64 (y10.Joins.length : Int)), (130, aA .i64 x29), (19, aA .i64 y20), (138, aA .i64 (y21.length : Int)), (139, aA .i64 i.2.2.1)]) (fun i => [aC b3 61 [fEq v2, fEq v13, fEq (.slice none 0 0)], aC b8 105 [aA .i64 y10.At, fSl (aB .i64) y10.Joins, aA .i64 y10.Node], aC b2 99 [fSl aU y1.Chans, fSl bH y1.Spots, fSl aZ y1.Rules], aC b1 61 [fEq (.slice none 0 0), fEq (.slice none 0 0), fEq (.slice none 0 0)], qD v1 157 (bW 67 (aB .i64)) x27 (y20.toNat * OTy.sz (bW 67 (aB .i64)) + 0) v14, aD v2 30 (aB .i64) x2, aD v13 30 (aB .i64) z4, aD v14 67 (aB .i64) i.2.2.2]) (fuel, x28, 0, y21) H ?_
 clear H; rintro ⟨k5, x35, x36, x37⟩ H
 replace H : mY fuel a0 a1 y10 x27 y20 y21 k5 x35 x36 x37 = _ := H
 try dsimp only
 obtain _ | k5 := k5
 rw [mY] at H; cases H
 rw [mY] at H
 refine Z3 ?_
 refine aG ?_
 revert H; refine is (fun c6 H => ?_) fun c6 H => ?_
 refine Z3 ?_
 refine aG ?_
 refine Z5 ?_
 refine aG ?_
 revert H; refine bs fun y22 h29 H => ?_
 revert H; refine bs fun y23 h30 H => ?_
 revert H; refine bs fun y24 h31 H => ?_
 revert H; refine bs fun y25 h32 H => ?_
 revert H; refine bs fun y26 h33 H => ?_
 revert H; refine bs fun y27 h34 H => ?_
 apply bC (ods := [_, _, _, _, _, _, _, _, _, _, _, _, _, _, _, _, _, _, _, _, _]) 21 0 8 bB rfl rfl rfl
 refine ND ?_
 refine M2 ?_
 intros
 refine Mo 4 rfl (lD rfl hh hh (el rfl) h29) fun _ => ?_
 refine Mo 4 rfl (mF rfl rfl hh (sc rfl) (cB h29) rfl) fun _ => ?_
 refine M3 ?_
 intros
 refine Mo 4 rfl (lD rfl hh hh (el rfl) h30) fun _ => ?_
 refine Mo 4 rfl (mF rfl rfl hh (sc rfl) (cB h30) rfl) fun _ => ?_
 refine M2 ?_
 intros
 refine Mo 7 rfl (jW rfl rfl hh (sc rfl) (cB h31) rfl) fun _ => ?_
 refine M5 ?_
 intros
 refine Nc (aCk _ _ _ _ _ _ h32) fun _ => ?_
 refine Nc (aCy _ _ _ h33) fun _ => ?_
 refine M1 ?_
 intros
 refine qB (od := odC [7] true (fAny) [aD v14 67 (aB .i64) (x37.set x36.toNat y26)]) (p := 7) (z' := y26) rfl (fun _ => rfl) (fun _ => rfl) trivial rfl rfl rfl rfl (has rfl) (has rfl) (aE trivial) (sz rfl) (cB h34) rfl rfl (fun _ => ?_)
 revert H; refine B4 fun z6 h35 H => ?_
 revert H; refine B6 fun z7 h36 H => ?_
 refine Z3 ?_
 exact Tm ((k5, z6, z7, x37.set x36.toNat y26)) ⟨H, ls⟩
 exact fk
 kernel_rfl
 refine Z7 ?_
 refine bK ?_
 refine T_fr7 ?_
 refine qE (o := (bW 67 (aB .i64))) (i := y20.toNat) (k := 0) (y := y21) (y' := x37) (f := (fun v => aD v 67 (aB .i64) x37)) (hf := (fun _ => dQ)) (cB h28) rfl rfl ?_
 refine aH [1, 2, 3, 4, 0, 5, 6] (by decide) ?_
 exact Tm ((x27.set y20.toNat x37, x35)) (ij H)
 clear H; intro i hi; obtain ⟨x30, x31⟩ := i; subst o5; have H := Hr5; clear Hr5; try dsimp only at H
 try dsimp only
 revert H; refine B1 fun z8 h37 H => ?_
 refine Z3 ?_
 exact Tm ((k4, x30, x31, z8)) ⟨H, ls⟩
 refine Z7 ?_
 refine aH [0, 2, 3, 4, 5, 6] (by decide) ?_
 exact Tm ((x27, z4, v13)) (ij H)
 exact fk
 kernel_rfl
 exact fk
 kernel_rfl
 clear H; intro i hi; obtain ⟨x17, x18, v11⟩ := i; subst o3; have H := Hr3; clear Hr3; try dsimp only at H
 try dsimp only
 refine aN 5 rfl (fun hc_v11 => ?_)
 revert H; refine B1 fun z9 h38 H => ?_
 refine Z3 ?_
 exact Tm ((k2, x17, z9, x18, v11)) ⟨H, ls⟩
 refine Z6 ?_
 exact Tm ((x14, x16, v10)) (ij H)
 clear H; intro i hi; obtain ⟨x9, x10, v8⟩ := i; subst o2; have H := Hr2; clear Hr2; try dsimp only at H
 try dsimp only
 refine aN 5 rfl (fun hc_v8 => ?_)
 revert H; refine bs fun o6 H Hr6 => ?_
 refine aR (ι := List (List Int) × Value) (fun i => o6 = i.1) (fun i => [(6, fEq (ptr b1)), (8, fEq (ptr b3))]) (fun i => [aC b3 61 [fEq v2, fEq v8, fEq i.2], aC b2 99 [fSl aU y1.Chans, fSl bH y1.Spots, fSl aZ y1.Rules], aC b1 61 [fEq (.slice none 0 0), fEq (.slice none 0 0), fEq (.slice none 0 0)], aD v2 30 (aB .i64) x2, aD v8 30 (aB .i64) x10, bM i.2 58 (bW 30 (aB .i64)) i.1]) ?_ ?_
 refine Z2 ?_
 refine Yo 3 rfl (o_lenG rfl hh (us rfl)) ?_
 refine Z3 ?_
 refine qR (bW 30 (aB .i64)) 58 ?_
 refine aH [1, 2, 3, 4, 5, 6, 0] (by decide) ?_
 refine Tl (ι := Nat × List (List Int) × Int × List (List Int) × Value) (fun i => nJ fuel x9 i.1 i.2.1 i.2.2.1 i.2.2.2.1 = _) (fun i => i.1) (fun i => [(6, fEq (ptr b1)), (8, fEq (ptr b3)), (167, fEq v1), (168, aA .i64 (x9.length : Int)), (169, aA .i64 i.2.2.1)]) (fun i => [aC b3 61 [fEq v2, fEq v8, fEq i.2.2.2.2], aC b2 99 [fSl aU y1.Chans, fSl bH y1.Spots, fSl aZ y1.Rules], aC b1 61 [fEq (.slice none 0 0), fEq (.slice none 0 0), fEq (.slice none 0 0)], bM v1 157 (bW 67 (aB .i64)) i.2.1, aD v2 30 (aB .i64) x2, aD v8 30 (aB .i64) x10, bM i.2.2.2.2 58 (bW 30 (aB .i64)) i.2.2.2.1]) (fuel, x9, 0, [], (.slice none 0 0)) H ?_
 clear H; rintro ⟨k6, x42, x43, x44, v17⟩ H
 replace H : nJ fuel x9 k6 x42 x43 x44 = _ := H
 try dsimp only
 obtain _ | k6 := k6
 rw [nJ] at H; cases H
 rw [nJ] at H
 refine dJ 6 rfl (fun hc_v17 => ?_)
 refine Z3 ?_
 refine aG ?_
 revert H; refine is (fun c7 H => ?_) fun c7 H => ?_
 revert H; refine B3 fun o7 H Hr7 => ?_
 refine aR (ι := List (List Int) × List (List Int) × Value) (fun i => o7 = (i.1, i.2.1)) (fun i => [(6, fEq (ptr b1)), (8, fEq (ptr b3)), (167, fEq v1), (168, aA .i64 (x9.length : Int)), (169, aA .i64 x43)]) (fun i => [aC b3 61 [fEq v2, fEq v8, fEq i.2.2], aC b2 99 [fSl aU y1.Chans, fSl bH y1.Spots, fSl aZ y1.Rules], aC b1 61 [fEq (.slice none 0 0), fEq (.slice none 0 0), fEq (.slice none 0 0)], bM v1 157 (bW 67 (aB .i64)) i.1, aD v2 30 (aB .i64) x2, aD v8 30 (aB .i64) x10, bM i.2.2 58 (bW 30 (aB .i64)) i.2.1]) ?_ ?_
 revert H; refine B2 fun y28 h39 H => ?_
 refine Yo 3 rfl (lD rfl hh hh (el rfl) h39) ?_
 refine cX ?_
 refine rW (i := x43.toNat) (k := 0) (y := y28) (f := (fun v => aD v 67 (aB .i64) y28)) (cB h39) rfl (fun v19 => ?_)
 refine aN 0 rfl (fun hc_v19 => ?_)
 refine Yo 1 rfl (mF rfl rfl hh (sc rfl) (cB h39) rfl) ?_
 revert H; refine B5 fun o8 H Hr8 => ?_
 refine aR (ι := List Int × Value) (fun i => o8 = i.1) (fun i => [(6, fEq (ptr b1)), (8, fEq (ptr b3)), (167, fEq v1), (168, aA .i64 (x9.length : Int)), (169, aA .i64 x43), (23, fEq i.2)]) (fun i => [aC b3 61 [fEq v2, fEq v8, fEq v17], aC b2 99 [fSl aU y1.Chans, fSl bH y1.Spots, fSl aZ y1.Rules], aC b1 61 [fEq (.slice none 0 0), fEq (.slice none 0 0), fEq (.slice none 0 0)], qD v1 157 (bW 67 (aB .i64)) x42 (x43.toNat * OTy.sz (bW 67 (aB .i64)) + 0) v19, aD i.2 30 (aB .i64) i.1, aD v2 30 (aB .i64) x2, aD v8 30 (aB .i64) x10, bM v17 58 (bW 30 (aB .i64)) x44, aD v19 67 (aB .i64) y28]) ?_ ?_
 refine Z6 ?_
 refine oF (aB .i64) 30 ?_
 refine aH [3, 4, 5, 2, 0, 1, 6, 7, 8] (by decide) ?_
 refine Tl (ι := Nat × List Int × Int × Value) (fun i => mL y28 i.1 i.2.1 i.2.2.1 = _) (fun i => i.1) (fun i => [(6, fEq (ptr b1)), (8, fEq (ptr b3)), (167, fEq v1), (168, aA .i64 (x9.length : Int)), (169, aA .i64 x43), (23, fEq i.2.2.2), (173, fEq v19), (174, aA .i64 (y28.length : Int)), (175, aA .i64 i.2.2.1)]) (fun i => [aC b3 61 [fEq v2, fEq v8, fEq v17], aC b2 99 [fSl aU y1.Chans, fSl bH y1.Spots, fSl aZ y1.Rules], aC b1 61 [fEq (.slice none 0 0), fEq (.slice none 0 0), fEq (.slice none 0 0)], qD v1 157 (bW 67 (aB .i64)) x42 (x43.toNat * OTy.sz (bW 67 (aB .i64)) + 0) v19, aD i.2.2.2 30 (aB .i64) i.2.1, aD v19 67 (aB .i64) y28, aD v2 30 (aB .i64) x2, aD v8 30 (aB .i64) x10, bM v17 58 (bW 30 (aB .i64)) x44]) (fuel, [], 0, (.slice none 0 0)) H ?_
 clear H; rintro ⟨k7, x50, x51, v22⟩ H
 replace H : mL y28 k7 x50 x51 = _ := H
 try dsimp only
 obtain _ | k7 := k7
 rw [mL] at H; cases H
 rw [mL] at H
 refine aN 4 rfl (fun hc_v22 => ?_)
 refine Z3 ?_
 refine aG ?_
 revert H; refine is (fun c8 H => ?_) fun c8 H => ?_
 refine Z3 ?_
 refine aG ?_
 revert H; refine B2 fun y29 h40 H => ?_
 refine Z1 ?_
 refine Yo 5 rfl (jW rfl rfl hh (sc rfl) (cB h40) rfl) ?_
 revert H; refine B5 fun y30 h41 H => ?_
 refine Tc (aAa _ _ h41) ?_
 refine Tn (cH (t := (aB .i64)) (xs := [y30]) rfl (et rfl) (aQ.cons rfl (has rfl) (aS (aE trivial)) aQ.nil) rfl rfl rfl) fun b10 => ?_
 generalize (Value.slice (some ⟨b10, 0, none⟩) _ _) = v23
 refine aN 0 rfl (fun hc_v23 => ?_)
 revert H; refine bs fun z10 h42 H => ?_
 refine lC ?_
 refine cI ?_
 refine pQ trivial rfl rfl rfl (has rfl) (has rfl) (et rfl) rfl h42 (fun v24 => ?_)
 refine aN 0 rfl (fun hc_v24 => ?_)
 revert H; refine B5 fun z11 h43 H => ?_
 refine Z3 ?_
 refine aH [1, 2, 3, 4, 0, 5, 6, 7, 8] (by decide) ?_
 exact Tm ((k7, z10, z11, v24)) ⟨H, ls⟩
 refine Z6 ?_
 refine aH [0, 1, 2, 3, 4, 6, 7, 8, 5] (by decide) ?_
 exact Tm ((x50, v22)) (ij H)
 clear H; intro i hi; obtain ⟨x47, v20⟩ := i; subst o8; have H := Hr8; clear Hr8; try dsimp only at H
 try dsimp only
 refine aN 4 rfl (fun hc_v20 => ?_)
 refine Z4 ?_
 refine Tn (cH (t := tF 1) (xs := [[⟨fEq v20, aE hc_v20⟩]]) rfl (et rfl) (aQ.cons rfl (has rfl) (aS (aE hc_v20)) aQ.nil) rfl rfl rfl) fun b11 => ?_
 generalize (Value.slice (some ⟨b11, 0, none⟩) _ _) = v25
 refine oR ?_
 refine lC ?_
 refine fN (p := 0) (f := (fun v => aD v 30 (aB .i64) x47)) (hf := (fun _ => dQ)) rfl Ent.rfl ?_
 refine oZ (o := (bW 30 (aB .i64))) (xs := ([x47] : List (List Int))) rfl rfl rfl ?_
 refine dJ 0 rfl (fun hc_v25 => ?_)
 revert H; refine bs fun z12 h44 H => ?_
 refine T_fr7 ?_
 refine cI ?_
 refine sM (q := (bW 30 (aB .i64))) trivial rfl rfl rfl (has rfl) (has rfl) (et rfl) rfl h44 (fun v26 => ?_)
 refine dJ 0 rfl (fun hc_v26 => ?_)
 refine Z1 ?_
 refine cI ?_
 refine dA (φs' := [fEq v2, fEq v8, fEq v26]) trivial rfl rfl (has rfl) (has rfl) (aE hc_v26) (sz rfl) rfl rfl ?_
 refine Z3 ?_
 refine bK ?_
 refine T_fr7 ?_
 refine qE (o := (bW 67 (aB .i64))) (i := x43.toNat) (k := 0) (y := y28) (y' := y28) (f := (fun v => aD v 67 (aB .i64) y28)) (hf := (fun _ => dQ)) (cB h39) rfl rfl ?_
 refine aH [1, 3, 4, 0, 5, 6, 2] (by decide) ?_
 exact Tm ((x42.set x43.toNat y28, z12, v26)) (ij H)
 clear H; intro i hi; obtain ⟨x45, x46, v18⟩ := i; subst o7; have H := Hr7; clear Hr7; try dsimp only at H
 try dsimp only
 refine dJ 6 rfl (fun hc_v18 => ?_)
 revert H; refine B1 fun z13 h45 H => ?_
 refine Z3 ?_
 exact Tm ((k6, x45, z13, x46, v18)) ⟨H, ls⟩
 refine Z6 ?_
 refine aH [0, 1, 2, 4, 5, 6] (by decide) ?_
 exact Tm ((x44, v17)) (ij H)
 clear H; intro i hi; obtain ⟨x38, v15⟩ := i; subst o6; have H := Hr6; clear Hr6; try dsimp only at H
 try dsimp only
 refine dJ 5 rfl (fun hc_v15 => ?_)
 refine Z2 ?_
 refine eB ?_
 refine cS (φs' := [fEq v2, fEq v8, fEq v15]) trivial rfl rfl (has rfl) (has rfl) (aJ (aE hc_v2) (aJ (aE hc_v8) (aJ (aE hc_v15) bP))) (sz rfl) rfl rfl rfl ?_
 refine Z2 ?_
 cases H
 refine aH [0, 3, 4, 5] (by decide) ?_
 exact aDw rfl (ag rfl) (bL rfl) (eJ.own (eJ.own (eJ.own eJ.nil))) rfl rfl
end Go.Proofs.YtmnbfgeljmhekaaGreat
set_option maxRecDepth 100000
set_option maxHeartbeats 2000000
namespace Go.Proofs.YtmnbfgeljmhekaaGreat
open Go.SX Go.SW Go.Dt
attribute [local irreducible] Code.wpIn wpListIn Exit.then Exit.inBlock
def mH (fuel : Nat) (a0 : Usage_text) (a1 : List UsageDef) : Nat → (List UsageDef) → Int → Option (List UsageDef)
| 0, _, _ => none
| k + 1, x4, x5 =>
 if x5 < (a0.ScopeProg.Defs.length : Int) then
  (sQ fuel a0 a1 x5).bind fun y1 =>
  (eI (x4 ++ ([(⟨y1.Chans, y1.Rules, y1.Args⟩ : UsageDef)] : List UsageDef))).bind fun z1 =>
  (chk (x5 + 1)).bind fun z2 =>
  mH fuel a0 a1 k z1 z2
 else
  some x4
def rF (fuel : Nat) (a0 : Usage_text) (a1 : List UsageDef) : Option (List UsageDef) :=
 (mH fuel a0 a1 fuel [] 0).bind fun x1 =>
 some x1
theorem aEC (fuel : Nat)  (a0 : Usage_text) (a1 : List UsageDef) (r : List UsageDef) (H : rF fuel a0 a1 = some r) : FnS Tryz.prog 38 [aF bN a0, fSl aX a1] [] fAny (fun v => [(fun v => bM v 61 cW r) v]) := by
 unfold rF at H
 refine bJ Tryz.func38 rfl Tryz.ntmps38 rfl (fun β => ?_)
 revert H; refine B6 fun o1 H Hr1 => ?_
 refine aR (ι := List UsageDef × Value) (fun i => o1 = i.1) (fun i => [(5, fEq i.2)]) (fun i => [bM i.2 61 cW i.1]) ?_ ?_
 refine Z10 ?_
 refine qR cW 61 ?_
 refine Tl (ι := Nat × List UsageDef × Int × Value) (fun i => mH fuel a0 a1 i.1 i.2.1 i.2.2.1 = _) (fun i => i.1) (fun i => [(0, aF bN a0), (1, fSl aX a1), (5, fEq i.2.2.2), (12, aA .i64 (a0.ScopeProg.Defs.length : Int)), (13, aA .i64 i.2.2.1)]) (fun i => [bM i.2.2.2 61 cW i.2.1]) (fuel, [], 0, (.slice none 0 0)) H ?_
 clear H; rintro ⟨k1, x4, x5, v3⟩ H
 replace H : mH fuel a0 a1 k1 x4 x5 = _ := H
 try dsimp only
 obtain _ | k1 := k1
 rw [mH] at H; cases H
 rw [mH] at H
 refine dJ 0 rfl (fun hc_v3 => ?_)
 refine Z3 ?_
 refine aG ?_
 revert H; refine is (fun c1 H => ?_) fun c1 H => ?_
 refine Z3 ?_
 refine aG ?_
 revert H; refine B10 fun y1 h1 H => ?_
 refine vH trivial rfl rfl rfl (has rfl) (aO.cons (has rfl) (aO.cons (has rfl) (aO.cons (has rfl) aO.nil))) rfl (cb rfl) (aFZ fuel a0 a1 x5 y1 h1) (Δi := []) rfl (fun v4 => ?_)
 dsimp only [List.append, List.cons_append, List.nil_append]
 refine aEN (c := .agg) (fs := [.own (fun v => aD v 30 (aB .i64) y1.Chans) (fun _ => dQ), .own (fun v => aD v 30 (aB .i64) y1.Rules) (fun _ => dQ), .own (fun v => bM v 58 (bW 30 (aB .i64)) y1.Args) (fun _ => iJ)]) (fun v5 v6 v7 => ?_)
 dsimp only [List.append, List.cons_append, List.nil_append]
 refine aN 0 rfl (fun hc_v5 => ?_)
 refine aN 1 rfl (fun hc_v6 => ?_)
 refine dJ 2 rfl (fun hc_v7 => ?_)
 refine Tn (cH (t := tF 3) (xs := [[⟨fEq v5, aE hc_v5⟩, ⟨fEq v6, aE hc_v6⟩, ⟨fEq v7, aE hc_v7⟩]]) rfl (et rfl) (aQ.cons rfl (has rfl) bO aQ.nil) rfl rfl rfl) fun b1 => ?_
 generalize (Value.slice (some ⟨b1, 0, none⟩) _ _) = v8
 refine oR ?_
 refine cI ?_
 refine fN (p := 0) (f := (fun v => aD v 30 (aB .i64) y1.Chans)) (hf := (fun _ => dQ)) rfl Ent.rfl ?_
 refine cI ?_
 refine fN (p := 1) (f := (fun v => aD v 30 (aB .i64) y1.Rules)) (hf := (fun _ => dQ)) rfl Ent.rfl ?_
 refine cI ?_
 refine fN (p := 2) (f := (fun v => bM v 58 (bW 30 (aB .i64)) y1.Args)) (hf := (fun _ => iJ)) rfl Ent.rfl ?_
 refine oZ (o := cW) (xs := ([(⟨y1.Chans, y1.Rules, y1.Args⟩ : UsageDef)] : List UsageDef)) rfl rfl rfl ?_
 refine dJ 0 rfl (fun hc_v8 => ?_)
 revert H; refine bs fun z1 h2 H => ?_
 refine sM (q := cW) trivial rfl rfl rfl (has rfl) (has rfl) (et rfl) rfl h2 (fun v9 => ?_)
 refine dJ 0 rfl (fun hc_v9 => ?_)
 revert H; refine B5 fun z2 h3 H => ?_
 refine Z3 ?_
 exact Tm ((k1, z1, z2, v9)) ⟨H, ls⟩
 refine Z6 ?_
 exact Tm ((x4, v3)) (ij H)
 clear H; intro i hi; obtain ⟨x1, v1⟩ := i; subst o1; have H := Hr1; clear Hr1; try dsimp only at H
 try dsimp only
 refine dJ 0 rfl (fun hc_v1 => ?_)
 refine Z5 ?_
 cases H
 exact wL rfl (bL rfl) (fun _ _ _ => trivial) rfl
theorem aHd (fuel : Nat)  (a0 : Usage_text) (a1 : List UsageDef) (r : List UsageDef) (H : rF fuel a0 a1 = some r) : FnS Tryz.prog 38 [aF bN a0, fSl aX a1] [] (fSl aX r) (fun _ => []) := (aEC fuel a0 a1 r H).frz (fun v => (lI rfl nC))
def aAb (a0 : Int) (a1 : Int) (a2 : Bool) : Option (Bool) :=
 some (decide (a0 = a1))
theorem aGq  (a0 : Int) (a1 : Int) (a2 : Bool) (r : Bool) (H : aAb a0 a1 a2 = some r) : FnS Tryz.prog 40 [aA .i64 a0, aA .i64 a1, aL a2] [] (aL r) (fun _ => []) := by
 unfold aAb at H
 refine bJ Tryz.func40 rfl Tryz.ntmps40 rfl (fun β => ?_)
 refine Z10 ?_
 cases H
 exact To
def uZ (fuel : Nat) (y2 : Usage_text) : Nat → (List UsageDef) → Option (List UsageDef)
| 0, _ => none
| k + 1, x3 =>
 (rF fuel y2 x3).bind fun y4 =>
 (qC fuel x3 y4 (fun x => aAb x.1 x.2.1 x.2.2)).bind fun y5 =>
 bif y5 then
  some x3
 else
  uZ fuel y2 k y4
def sJ (fuel : Nat) (y2 : Usage_text) (x7 : List UsageDef) (x8 : Int) (y6 : UsageDef) : Nat → (List Int) → Int → Option (List UsageDef)
| 0, _, _ => none
| k + 1, x12, x13 =>
 if x13 < (y6.Chans.length : Int) then
  ((idx x12 x13).bind fun y7 =>
  if y7 = 3 then
   (idx y2.heads x8).bind fun y8 =>
   (pH y2 x8 x13).bind fun y9 =>
   (kN fuel y2 y8 y9).bind fun y10 =>
   if y10 = 1 then
    (idx x7 x8).bind fun y11 =>
    (idx x12 x13).bind fun y12 =>
    some (x12.set x13.toNat 2)
   else
    some x12
  else
   some x12).bind fun x14 =>
  (chk (x13 + 1)).bind fun z1 =>
  sJ fuel y2 x7 x8 y6 k x14 z1
 else
  some (x7.set x8.toNat ({ y6 with Chans := x12 }))
def tB (fuel : Nat) (y2 : Usage_text) (x1 : List UsageDef) : Nat → (List UsageDef) → Int → Option (List UsageDef)
| 0, _, _ => none
| k + 1, x7, x8 =>
 if x8 < (x1.length : Int) then
  ((idx x7 x8).bind fun y6 =>
  sJ fuel y2 x7 x8 y6 fuel y6.Chans 0).bind fun x9 =>
  (chk (x8 + 1)).bind fun z2 =>
  tB fuel y2 x1 k x9 z2
 else
  some x7
def xL (fuel : Nat) (a0 : ScopeProg) : Option ((List UsageDef) × Int) :=
 (rR fuel (⟨a0.Free, a0.Nodes, a0.Defs, a0.Main⟩ : ScopeProg)).bind fun y1 =>
 if y1 ≠ 0 then
  some (([] : List UsageDef), 2)
 else
  (pV fuel (⟨a0.Free, a0.Nodes, a0.Defs, a0.Main⟩ : ScopeProg)).bind fun y2 =>
  (aAI fuel y2).bind fun y3 =>
  (uZ fuel y2 fuel y3).bind fun x1 =>
  (tB fuel y2 x1 fuel x1 0).bind fun x4 =>
  some (x4, 0)
theorem aGP (fuel : Nat)  (a0 : ScopeProg) (r : (List UsageDef) × Int) (H : xL fuel a0 = some r) : FnS Tryz.prog 14 [fSt cY a0] [] fAny (fun v => [sD .tuple [.own (fun v => bM v 61 cW r.1) (fun _ => iJ), .pure (aA .i64 r.2)] v]) := by
 unfold xL at H
 refine bJ Tryz.func14 rfl Tryz.ntmps14 rfl (fun β => ?_)
 refine Z1 ?_
 refine Tn (cF rfl (has rfl) bO) fun b1 => ?_
 refine Z3 ?_
 refine T_scope ?_
 refine aG ?_
 revert H; refine B2 fun y1 h1 H => ?_
 refine Tc (aBb _ _ _ h1) ?_
 revert H; refine I2 (fun c1 H => ?_) fun c1 H => ?_
 refine Z6 ?_
 refine aCu ?_
 refine qR cW 61 ?_
 cases H
 refine aH [0] (by decide) ?_
 exact aEb rfl (bL rfl) (bL rfl) (eJ.own (eJ.pure Ent.rfl (aE trivial) eJ.nil))
 revert H; refine B5 fun y2 h2 H => ?_
 refine Tc (aBK _ _ _ h2) ?_
 revert H; refine B4 fun y3 h3 H => ?_
 refine vH trivial rfl rfl rfl (has rfl) (aO.cons (has rfl) aO.nil) rfl (cb rfl) (aGZ fuel y2 y3 h3) (Δi := []) rfl (fun v1 => ?_)
 dsimp only [List.append, List.cons_append, List.nil_append]
 refine dJ 0 rfl (fun hc_v1 => ?_)
 refine Z2 ?_
 refine aG ?_
 refine T_label ?_
 revert H; refine B1 fun o1 H Hr1 => ?_
 refine aR (ι := List UsageDef × Value) (fun i => o1 = i.1) (fun i => [(4, aF bN y2), (5, fEq i.2)]) (fun i => [aC b1 26 [fSl aM a0.Free, fSl aK a0.Nodes, fSl aI a0.Defs, aA .i64 a0.Main], bM i.2 61 cW i.1]) ?_ ?_
 refine Z1 ?_
 refine aH [1, 0] (by decide) ?_
 refine Tl (ι := Nat × List UsageDef × Value) (fun i => uZ fuel y2 i.1 i.2.1 = _) (fun i => i.1) (fun i => [(4, aF bN y2), (5, fEq i.2.2)]) (fun i => [aC b1 26 [fSl aM a0.Free, fSl aK a0.Nodes, fSl aI a0.Defs, aA .i64 a0.Main], bM i.2.2 61 cW i.2.1]) (fuel, y3, v1) H ?_
 clear H; rintro ⟨k1, x3, v4⟩ H
 replace H : uZ fuel y2 k1 x3 = _ := H
 try dsimp only
 obtain _ | k1 := k1
 rw [uZ] at H; cases H
 rw [uZ] at H
 refine dJ 1 rfl (fun hc_v4 => ?_)
 refine Z4 ?_
 refine cI ?_
 revert H; refine bs fun y4 h4 H => ?_
 refine aHB (Δl := [bM v4 61 cW x3]) (Δi := []) [(v4, fSl aX x3)] trivial rfl rfl rfl (has rfl) (eH.cons rfl (vX Ent.rfl) (eH.cons rfl (uG 0 rfl) eH.nil)) (cb rfl) (aEC fuel y2 x3 y4 h4) indF_any (fun v τ h => by have : τ = _ := List.mem_singleton.1 h; subst this; exact (aDs aHk)) (fZ.cons (lI rfl nC) fZ.nil) rfl (fun v5 => ?_)
 dsimp only [List.append, List.cons_append, List.nil_append]
 refine dJ 1 rfl (fun hc_v5 => ?_)
 refine Z2 ?_
 refine aG ?_
 revert H; refine B3 fun y5 h5 H => ?_
 refine zY (Δl := [bM v4 61 cW x3, bM v5 61 cW y4]) (Δi := []) (Δo := []) [(v4, fSl aX x3), (v5, fSl aX y4)] trivial rfl rfl rfl (has rfl) (eH.cons rfl (uG 0 rfl) (eH.cons rfl (uG 1 rfl) (eH.cons rfl (vX (sA (cb rfl) (fun x r hx => aGq x.1 x.2.1 x.2.2 r hx))) eH.nil))) (cb rfl) (aBT fuel x3 y4 (fun x => aAb x.1 x.2.1 x.2.2) y5 h5) wE (fun _ h => nomatch h) (fZ.cons (lI rfl nC) (fZ.cons (lI rfl nC) fZ.nil)) rfl ?_
 dsimp only [List.append, List.cons_append, List.nil_append]
 refine Z1 ?_
 revert H; refine cs (fun c2 H => ?_) fun c2 H => ?_
 refine Z7 ?_
 refine aH [2, 0] (by decide) ?_
 exact Tm ((x3, v4)) (ij H)
 refine Z9 ?_
 refine aH [2, 1] (by decide) ?_
 exact Tm ((k1, y4, v5)) ⟨H, ls⟩
 clear H; intro i hi; obtain ⟨x1, v2⟩ := i; subst o1; have H := Hr1; clear Hr1; try dsimp only at H
 try dsimp only
 refine dJ 1 rfl (fun hc_v2 => ?_)
 revert H; refine bs fun o2 H Hr2 => ?_
 refine aR (ι := List UsageDef) (fun i => o2 = i) (fun i => [(5, fEq v2)]) (fun i => [aC b1 26 [fSl aM a0.Free, fSl aK a0.Nodes, fSl aI a0.Defs, aA .i64 a0.Main], bM v2 61 cW i]) ?_ ?_
 refine Z2 ?_
 refine Yo 1 rfl (o_lenG rfl hh (us rfl)) ?_
 refine Z3 ?_
 refine Tl (ι := Nat × List UsageDef × Int) (fun i => tB fuel y2 x1 i.1 i.2.1 i.2.2 = _) (fun i => i.1) (fun i => [(4, aF bN y2), (5, fEq v2), (25, aA .i64 (x1.length : Int)), (26, aA .i64 i.2.2)]) (fun i => [aC b1 26 [fSl aM a0.Free, fSl aK a0.Nodes, fSl aI a0.Defs, aA .i64 a0.Main], bM v2 61 cW i.2.1]) (fuel, x1, 0) H ?_
 clear H; rintro ⟨k2, x7, x8⟩ H
 replace H : tB fuel y2 x1 k2 x7 x8 = _ := H
 try dsimp only
 obtain _ | k2 := k2
 rw [tB] at H; cases H
 rw [tB] at H
 refine Z3 ?_
 refine aG ?_
 revert H; refine is (fun c3 H => ?_) fun c3 H => ?_
 revert H; refine B3 fun o3 H Hr3 => ?_
 refine aR (ι := List UsageDef) (fun i => o3 = i) (fun i => [(4, aF bN y2), (5, fEq v2), (25, aA .i64 (x1.length : Int)), (26, aA .i64 x8)]) (fun i => [aC b1 26 [fSl aM a0.Free, fSl aK a0.Nodes, fSl aI a0.Defs, aA .i64 a0.Main], bM v2 61 cW i]) ?_ ?_
 revert H; refine B8 fun y6 h6 H => ?_
 refine Yo 1 rfl (lD rfl hh hh (el rfl) h6) ?_
 refine Yy (zU 0 rfl hh (fa rfl) rfl) ?_
 refine cI ?_
 refine rW (i := x8.toNat) (k := 0) (y := y6) (f := (fun v => aD v 30 (aB .i64) y6.Chans)) (cB h6) rfl (fun v6 => ?_)
 refine aN 0 rfl (fun hc_v6 => ?_)
 refine Yo 1 rfl (mF rfl rfl hh (sc rfl) (cB h6) rfl) ?_
 refine Z4 ?_
 refine aH [2, 1, 0] (by decide) ?_
 refine Tl (ι := Nat × List Int × Int) (fun i => sJ fuel y2 x7 x8 y6 i.1 i.2.1 i.2.2 = _) (fun i => i.1) (fun i => [(4, aF bN y2), (5, fEq v2), (25, aA .i64 (x1.length : Int)), (26, aA .i64 x8), (7, aA .i64 x8), (33, fEq v6), (34, aA .i64 (y6.Chans.length : Int)), (35, aA .i64 i.2.2)]) (fun i => [aC b1 26 [fSl aM a0.Free, fSl aK a0.Nodes, fSl aI a0.Defs, aA .i64 a0.Main], qD v2 61 cW x7 (x8.toNat * OTy.sz cW + 0) v6, aD v6 30 (aB .i64) i.2.1]) (fuel, y6.Chans, 0) H ?_
 clear H; rintro ⟨k3, x12, x13⟩ H
 replace H : sJ fuel y2 x7 x8 y6 k3 x12 x13 = _ := H
 try dsimp only
 obtain _ | k3 := k3
 rw [sJ] at H; cases H
 rw [sJ] at H
 refine Z3 ?_
 refine aG ?_
 revert H; refine is (fun c4 H => ?_) fun c4 H => ?_
 revert H; refine B3 fun o4 H Hr4 => ?_
 refine aR (ι := List Int) (fun i => o4 = i) (fun i => [(4, aF bN y2), (5, fEq v2), (25, aA .i64 (x1.length : Int)), (26, aA .i64 x8), (7, aA .i64 x8), (33, fEq v6), (34, aA .i64 (y6.Chans.length : Int)), (35, aA .i64 x13)]) (fun i => [aC b1 26 [fSl aM a0.Free, fSl aK a0.Nodes, fSl aI a0.Defs, aA .i64 a0.Main], qD v2 61 cW x7 (x8.toNat * OTy.sz cW + 0) v6, aD v6 30 (aB .i64) i]) ?_ ?_
 revert H; refine B3 fun y7 h7 H => ?_
 refine Z1 ?_
 refine Yo 2 rfl (jW rfl rfl hh (sc rfl) (cB h7) rfl) ?_
 refine Z3 ?_
 refine aG ?_
 revert H; refine is (fun c5 H => ?_) fun c5 H => ?_
 revert H; refine bs fun y8 h8 H => ?_
 revert H; refine bs fun y9 h9 H => ?_
 revert H; refine bs fun y10 h10 H => ?_
 apply bC (ods := [_, _, _, _, _, _, _, _, _, _, _, _, _, _, _, _, _, _]) 18 0 3 bB rfl rfl rfl
 refine ND ?_
 refine M8 ?_
 intros
 refine M6 ?_
 intros
 refine Nc (yZ _ _ _ _ h9) fun _ => ?_
 refine Nc (aCa _ _ _ _ _ h10) fun _ => ?_
 refine M2 ?_
 intros
 revert H; refine I2 (fun c6 H => ?_) fun c6 H => ?_
 revert H; refine B4 fun y11 h11 H => ?_
 refine Yo 1 rfl (lD rfl hh hh (el rfl) h11) ?_
 refine Yy (zU 0 rfl hh (fa rfl) rfl) ?_
 refine Yo 1 rfl (mF rfl rfl hh (sc rfl) (cB h11) rfl) ?_
 revert H; refine B1 fun y12 h12 H => ?_
 refine Z1 ?_
 refine eB ?_
 refine qP (z' := 2) trivial rfl rfl rfl (has rfl) (has rfl) (aE trivial) (sz rfl) (cB h12) rfl rfl ?_
 refine Z3 ?_
 refine aH [1, 2, 0] (by decide) ?_
 exact Tm (x12.set x13.toNat 2) (ij H)
 refine Z4 ?_
 exact Tm (x12) (ij H)
 exact fk
 kernel_rfl
 apply bC (ods := [_, _, _, _, _, _, _, _, _, _, _, _, _, _, _, _, _, _]) 18 0 3 bB rfl rfl rfl
 refine ND ?_
 refine M8 ?_
 intros
 refine M8 ?_
 intros
 refine M2 ?_
 intros
 refine Z6 ?_
 exact Tm (x12) (ij H)
 exact fk
 kernel_rfl
 clear H; intro x14 hi; subst o4; have H := Hr4; clear Hr4; try dsimp only at H
 try dsimp only
 revert H; refine B1 fun z1 h13 H => ?_
 refine Z3 ?_
 exact Tm ((k3, x14, z1)) ⟨H, ls⟩
 refine Z7 ?_
 refine cI ?_
 refine eB ?_
 refine qE (o := cW) (i := x8.toNat) (k := 0) (y := y6) (y' := { y6 with Chans := x12 }) (f := (fun v => aD v 30 (aB .i64) x12)) (hf := (fun _ => dQ)) (cB h6) rfl rfl ?_
 refine aH [1, 0] (by decide) ?_
 exact Tm (x7.set x8.toNat ({ y6 with Chans := x12 })) (ij H)
 clear H; intro x9 hi; subst o3; have H := Hr3; clear Hr3; try dsimp only at H
 try dsimp only
 revert H; refine B1 fun z2 h14 H => ?_
 refine Z3 ?_
 exact Tm ((k2, x9, z2)) ⟨H, ls⟩
 refine Z6 ?_
 exact Tm (x7) (ij H)
 clear H; intro x4 hi; subst o2; have H := Hr2; clear Hr2; try dsimp only at H
 try dsimp only
 refine Z6 ?_
 refine aCu ?_
 cases H
 refine aH [1] (by decide) ?_
 exact aEb rfl (bL rfl) (bL rfl) (eJ.own (eJ.pure Ent.rfl (aE trivial) eJ.nil))
theorem aHg (fuel : Nat)  (a0 : ScopeProg) (r : (List UsageDef) × Int) (H : xL fuel a0 = some r) : FnS Tryz.prog 14 [fSt cY a0] [] (dC [fSl aX r.1, aA .i64 r.2]) (fun _ => []) := (aGP fuel a0 r H).frz (fun v => frz_wrap (dY.cons (fun v => (lI rfl nC)) (dY.cons (fun v => frz_pure v) dY.nil)))
def tM (a0 : List Int) (a1 : List Int) : Nat → Int → Option ((Unit) ⊕ (Bool))
| 0, _ => none
| k + 1, x2 =>
 if x2 < (a0.length : Int) then
  (idx a0 x2).bind fun y1 =>
  (idx a1 x2).bind fun y2 =>
  if y1 ≠ y2 then
   (some false).bind fun r => some (Sum.inr r)
  else
   (chk (x2 + 1)).bind fun z1 =>
   tM a0 a1 k z1
 else
  some (Sum.inl ())
def wZ (fuel : Nat) (a0 : List Int) (a1 : List Int) : Option (Bool) :=
 if (a0.length : Int) ≠ (a1.length : Int) then
  some false
 else
  (tM a0 a1 fuel 0).bind fun o => match o with
  | Sum.inr r => some r
  | Sum.inl _ =>
  some true
theorem tV (fuel : Nat)  (a0 : List Int) (a1 : List Int) (r : Bool) (H : wZ fuel a0 a1 = some r) : FnS Tryz.prog 44 [fSl (aB .i64) a0, fSl (aB .i64) a1] [] (aL r) (fun _ => []) := by
 unfold wZ at H
 refine bJ Tryz.func44 rfl Tryz.ntmps44 rfl (fun β => ?_)
 refine Z3 ?_
 refine aG ?_
 revert H; refine I7 (fun c1 H => ?_) fun c1 H => ?_
 refine Z5 ?_
 cases H
 exact To
 revert H; refine B3 fun o1 H Hr1 => ?_
 refine aR (ι := Unit) (fun i => o1 = Sum.inl ()) (fun i => []) (fun i => []) ?_ ?_
 refine Z4 ?_
 refine Tl (ι := Nat × Int) (fun i => tM a0 a1 i.1 i.2 = _) (fun i => i.1) (fun i => [(0, fSl (aB .i64) a0), (1, fSl (aB .i64) a1), (5, aA .i64 i.2)]) (fun i => []) (fuel, 0) H ?_
 clear H; rintro ⟨k1, x2⟩ H
 replace H : tM a0 a1 k1 x2 = _ := H
 try dsimp only
 obtain _ | k1 := k1
 rw [tM] at H; cases H
 rw [tM] at H
 refine aG ?_
 revert H; refine I6 (fun c2 H => ?_) fun c2 H => ?_
 refine Z3 ?_
 refine aG ?_
 refine Z1 ?_
 refine aG ?_
 revert H; refine bs fun y1 h1 H => ?_
 revert H; refine bs fun y2 h2 H => ?_
 apply bC (ods := [_, _, _, _, _, _, _, _, _]) 9 0 0 bB rfl rfl rfl
 refine ND ?_
 refine M8 ?_
 intros
 refine M1 ?_
 intros
 revert H; refine I2 (fun c3 H => ?_) fun c3 H => ?_
 revert H; refine B10 fun r1 H e1 => ?_
 cases e1; cases Hr1
 cases H
 exact To
 revert H; refine B6 fun z1 h3 H => ?_
 refine Z3 ?_
 exact Tm ((k1, z1)) ⟨H, ls⟩
 exact fk
 kernel_rfl
 refine Z6 ?_
 exact Tm (()) (ij H)
 clear H; intro i hi; subst o1; have H := Hr1; clear Hr1; try dsimp only at H
 try dsimp only
 refine Z4 ?_
 cases H
 exact To
def uF (fuel : Nat) (a0 : List UsageDef) (a1 : List UsageDef) (x2 : Int) : Nat → Int → Option ((Unit) ⊕ ((Unit) ⊕ (Bool)))
| 0, _ => none
| k + 1, x4 =>
 (idx a0 x2).bind fun y9 =>
 if x4 < (y9.Args.length : Int) then
  (idx a0 x2).bind fun y10 =>
  (idx y10.Args x4).bind fun y11 =>
  (idx a1 x2).bind fun y12 =>
  (idx y12.Args x4).bind fun y13 =>
  (wZ fuel y11 y13).bind fun y14 =>
  bif y14 then
   (chk (x4 + 1)).bind fun z1 =>
   uF fuel a0 a1 x2 k z1
  else
   ((some false).bind fun r => some (Sum.inr r)).bind fun r => some (Sum.inr r)
 else
  some (Sum.inl ())
def tQ (fuel : Nat) (a0 : List UsageDef) (a1 : List UsageDef) : Nat → Int → Option ((Unit) ⊕ (Bool))
| 0, _ => none
| k + 1, x2 =>
 if x2 < (a0.length : Int) then
  ((idx a0 x2).bind fun y1 =>
  (idx a1 x2).bind fun y2 =>
  (wZ fuel y1.Chans y2.Chans).bind fun y3 =>
  bif !y3 then
   ((some false).bind fun r => some (Sum.inr r)).bind fun r => some (Sum.inr r)
  else
   (idx a0 x2).bind fun y4 =>
   (idx a1 x2).bind fun y5 =>
   (wZ fuel y4.Rules y5.Rules).bind fun y6 =>
   bif !y6 then
    ((some false).bind fun r => some (Sum.inr r)).bind fun r => some (Sum.inr r)
   else
    (idx a0 x2).bind fun y7 =>
    (idx a1 x2).bind fun y8 =>
    if (y7.Args.length : Int) ≠ (y8.Args.length : Int) then
     ((some false).bind fun r => some (Sum.inr r)).bind fun r => some (Sum.inr r)
    else
     uF fuel a0 a1 x2 fuel 0).bind fun o => match o with
  | Sum.inr r => some r
  | Sum.inl _ =>
  (chk (x2 + 1)).bind fun z2 =>
  tQ fuel a0 a1 k z2
 else
  some (Sum.inl ())
def aBX (fuel : Nat) (a0 : List UsageDef) (a1 : List UsageDef) : Option (Bool) :=
 if (a0.length : Int) ≠ (a1.length : Int) then
  some false
 else
  (tQ fuel a0 a1 fuel 0).bind fun o => match o with
  | Sum.inr r => some r
  | Sum.inl _ =>
  some true
theorem aHJ (fuel : Nat)  (a0 : List UsageDef) (a1 : List UsageDef) (r : Bool) (H : aBX fuel a0 a1 = some r) : FnS Tryz.prog 16 [fSl aX a0, fSl aX a1] [] (aL r) (fun _ => []) := by
 unfold aBX at H
 refine bJ Tryz.func16 rfl Tryz.ntmps16 rfl (fun β => ?_)
 refine Z3 ?_
 refine aG ?_
 revert H; refine I7 (fun c1 H => ?_) fun c1 H => ?_
 refine cJ (has rfl) c1 ?_
 refine Z4 ?_
 cases H
 exact To
 refine cK (has rfl) c1 ?_
 revert H; refine B2 fun o1 H Hr1 => ?_
 refine aR (ι := Unit) (fun i => o1 = Sum.inl ()) (fun i => []) (fun i => []) ?_ ?_
 refine Z4 ?_
 refine Tl (ι := Nat × Int) (fun i => tQ fuel a0 a1 i.1 i.2 = _) (fun i => i.1) (fun i => [(0, fSl aX a0), (1, fSl aX a1), (5, aA .i64 i.2)]) (fun i => []) (fuel, 0) H ?_
 clear H; rintro ⟨k1, x2⟩ H
 replace H : tQ fuel a0 a1 k1 x2 = _ := H
 try dsimp only
 obtain _ | k1 := k1
 rw [tQ] at H; cases H
 rw [tQ] at H
 refine aG ?_
 revert H; refine I6 (fun c2 H => ?_) fun c2 H => ?_
 refine cJ (has rfl) c2 ?_
 revert H; refine B2 fun o2 H Hr2 => ?_
 refine aR (ι := Unit) (fun i => o2 = Sum.inl ()) (fun i => [(0, fSl aX a0), (1, fSl aX a1), (5, aA .i64 x2)]) (fun i => []) ?_ ?_
 refine Z1 ?_
 refine aG ?_
 refine aG ?_
 revert H; refine bs fun y1 h1 H => ?_
 revert H; refine bs fun y2 h2 H => ?_
 revert H; refine bs fun y3 h3 H => ?_
 revert H; refine cs (fun c3 H => ?_) fun c3 H => ?_
 apply bC (ods := [_, _, _, _, _, _, _, _, _, _, _, _, _, _, _, _, _, _, _, _, _, _, _, _, _, _, _, _, _, _, _, _, _, _, _, _, _, _, _, _, _]) 41 0 0 bB rfl rfl rfl
 refine ND ?_
 refine M2 ?_
 intros
 refine My (bE rfl hh hh (el rfl) h1) fun _ => ?_
 refine M4 ?_
 intros
 refine My (bE rfl hh hh (el rfl) h2) fun _ => ?_
 refine M2 ?_
 intros
 refine Nc (tV _ _ _ _ h3) fun _ => ?_
 refine M2 ?_
 intros
 refine Mt c3 fun _ => ?_
 refine Mt c3 fun _ => ?_
 refine Mt c3 fun _ => ?_
 refine Mt c3 fun _ => ?_
 refine Mt c3 fun _ => ?_
 refine Mt c3 fun _ => ?_
 refine Mt c3 fun _ => ?_
 refine Mt c3 fun _ => ?_
 refine Mt c3 fun _ => ?_
 refine Mt c3 fun _ => ?_
 refine Mt c3 fun _ => ?_
 refine Mt c3 fun _ => ?_
 refine My (cN rfl hh c3 hh) fun _ => ?_
 refine M8 ?_
 intros
 refine M7 ?_
 intros
 revert H; refine B9 fun r1 H e1 => ?_
 cases e1; cases Hr2
 revert H; refine B3 fun r2 H e2 => ?_
 cases e2; cases Hr1
 cases H
 exact To
 exact fk
 kernel_rfl
 revert H; refine bs fun y4 h4 H => ?_
 revert H; refine bs fun y5 h5 H => ?_
 revert H; refine bs fun y6 h6 H => ?_
 revert H; refine cs (fun c4 H => ?_) fun c4 H => ?_
 apply bC (ods := [_, _, _, _, _, _, _, _, _, _, _, _, _, _, _, _, _, _, _, _, _, _, _, _, _, _, _, _, _, _, _, _, _, _, _, _, _, _, _, _, _]) 41 0 0 bB rfl rfl rfl
 refine ND ?_
 refine M2 ?_
 intros
 refine My (bE rfl hh hh (el rfl) h1) fun _ => ?_
 refine M4 ?_
 intros
 refine My (bE rfl hh hh (el rfl) h2) fun _ => ?_
 refine M2 ?_
 intros
 refine Nc (tV _ _ _ _ h3) fun _ => ?_
 refine M2 ?_
 intros
 refine Mg c3 (bF rfl hh) fun _ => ?_
 refine Mg c3 (bF rfl hh) fun _ => ?_
 refine Mg c3 (bE rfl hh hh (el rfl) h4) fun _ => ?_
 refine Mg c3 (dP (t' := (tSl (aB .i64))) (z := y4.Rules) rfl hh (fa rfl) rfl) fun _ => ?_
 refine Mg c3 (dB rfl hh (sc rfl) rfl) fun _ => ?_
 refine Mg c3 (bF rfl hh) fun _ => ?_
 refine Mg c3 (bF rfl hh) fun _ => ?_
 refine Mg c3 (bE rfl hh hh (el rfl) h5) fun _ => ?_
 refine Mg c3 (dP (t' := (tSl (aB .i64))) (z := y5.Rules) rfl hh (fa rfl) rfl) fun _ => ?_
 refine Mg c3 (dB rfl hh (sc rfl) rfl) fun _ => ?_
 refine Nc (tV _ _ _ _ h6) fun _ => ?_
 refine Mg c3 (gD rfl hh) fun _ => ?_
 refine My (bU rfl hh c3 hh) fun _ => ?_
 refine M1 ?_
 intros
 refine Mt c4 fun _ => ?_
 refine Mt c4 fun _ => ?_
 refine Mt c4 fun _ => ?_
 refine Mt c4 fun _ => ?_
 refine Mt c4 fun _ => ?_
 refine Mt c4 fun _ => ?_
 refine Mt c4 fun _ => ?_
 refine Mt c4 fun _ => ?_
 refine Mt c4 fun _ => ?_
 refine Mt c4 fun _ => ?_
 refine Mt c4 fun _ => ?_
 refine Mt c4 fun _ => ?_
 refine Mt c4 fun _ => ?_
 refine My (cN rfl hh c4 hh) fun _ => ?_
 revert H; refine B9 fun r3 H e3 => ?_
 cases e3; cases Hr2
 revert H; refine B3 fun r4 H e4 => ?_
 cases e4; cases Hr1
 cases H
 exact To
 exact fk
 kernel_rfl
 revert H; refine bs fun y7 h7 H => ?_
 revert H; refine bs fun y8 h8 H => ?_
 apply bC (ods := [_, _, _, _, _, _, _, _, _, _, _, _, _, _, _, _, _, _, _, _, _, _, _, _, _, _, _, _, _, _, _, _, _, _, _, _, _, _, _, _, _]) 41 0 0 bB rfl rfl rfl
 refine ND ?_
 refine M2 ?_
 intros
 refine My (bE rfl hh hh (el rfl) h1) fun _ => ?_
 refine M4 ?_
 intros
 refine My (bE rfl hh hh (el rfl) h2) fun _ => ?_
 refine M2 ?_
 intros
 refine Nc (tV _ _ _ _ h3) fun _ => ?_
 refine M2 ?_
 intros
 refine Mg c3 (bF rfl hh) fun _ => ?_
 refine Mg c3 (bF rfl hh) fun _ => ?_
 refine Mg c3 (bE rfl hh hh (el rfl) h4) fun _ => ?_
 refine Mg c3 (dP (t' := (tSl (aB .i64))) (z := y4.Rules) rfl hh (fa rfl) rfl) fun _ => ?_
 refine Mg c3 (dB rfl hh (sc rfl) rfl) fun _ => ?_
 refine Mg c3 (bF rfl hh) fun _ => ?_
 refine Mg c3 (bF rfl hh) fun _ => ?_
 refine Mg c3 (bE rfl hh hh (el rfl) h5) fun _ => ?_
 refine Mg c3 (dP (t' := (tSl (aB .i64))) (z := y5.Rules) rfl hh (fa rfl) rfl) fun _ => ?_
 refine Mg c3 (dB rfl hh (sc rfl) rfl) fun _ => ?_
 refine Nc (tV _ _ _ _ h6) fun _ => ?_
 refine Mg c3 (gD rfl hh) fun _ => ?_
 refine My (bU rfl hh c3 hh) fun _ => ?_
 refine M1 ?_
 intros
 refine Mg c4 (bF rfl hh) fun _ => ?_
 refine Mg c4 (bF rfl hh) fun _ => ?_
 refine Mg c4 (bE rfl hh hh (el rfl) h7) fun _ => ?_
 refine Mg c4 (dP (t' := (tSl (tSl (aB .i64)))) (z := y7.Args) rfl hh (fa rfl) rfl) fun _ => ?_
 refine Mg c4 (dB rfl hh (sc rfl) rfl) fun _ => ?_
 refine Mg c4 (dT rfl hh (us rfl)) fun _ => ?_
 refine Mg c4 (bF rfl hh) fun _ => ?_
 refine Mg c4 (bF rfl hh) fun _ => ?_
 refine Mg c4 (bE rfl hh hh (el rfl) h8) fun _ => ?_
 refine Mg c4 (dP (t' := (tSl (tSl (aB .i64)))) (z := y8.Args) rfl hh (fa rfl) rfl) fun _ => ?_
 refine Mg c4 (dB rfl hh (sc rfl) rfl) fun _ => ?_
 refine Mg c4 (dT rfl hh (us rfl)) fun _ => ?_
 refine Mg c4 (hP rfl hh hh) fun _ => ?_
 refine My (bU rfl hh c4 hh) fun _ => ?_
 revert H; refine I2 (fun c5 H => ?_) fun c5 H => ?_
 refine cJ (has rfl) c5 ?_
 revert H; refine B6 fun r5 H e5 => ?_
 cases e5; cases Hr2
 revert H; refine B3 fun r6 H e6 => ?_
 cases e6; cases Hr1
 cases H
 exact To
 refine cK (has rfl) c5 ?_
 refine Z6 ?_
 refine Tl (ι := Nat × Int) (fun i => uF fuel a0 a1 x2 i.1 i.2 = _) (fun i => i.1) (fun i => [(0, fSl aX a0), (1, fSl aX a1), (5, aA .i64 x2), (6, aA .i64 i.2)]) (fun i => []) (fuel, 0) H ?_
 clear H; rintro ⟨k2, x4⟩ H
 replace H : uF fuel a0 a1 x2 k2 x4 = _ := H
 try dsimp only
 obtain _ | k2 := k2
 rw [uF] at H; cases H
 rw [uF] at H
 refine aG ?_
 revert H; refine B4 fun y9 h9 H => ?_
 refine Yy (bE rfl hh hh (el rfl) h9) ?_
 revert H; refine I5 (fun c6 H => ?_) fun c6 H => ?_
 refine cJ (has rfl) c6 ?_
 refine Z2 ?_
 refine aG ?_
 refine Z1 ?_
 refine aG ?_
 revert H; refine bs fun y10 h10 H => ?_
 revert H; refine bs fun y11 h11 H => ?_
 revert H; refine bs fun y12 h12 H => ?_
 revert H; refine bs fun y13 h13 H => ?_
 revert H; refine bs fun y14 h14 H => ?_
 apply bC (ods := [_, _, _, _, _, _, _, _, _, _, _, _, _, _, _, _, _, _]) 18 0 0 bB rfl rfl rfl
 refine ND ?_
 refine M2 ?_
 intros
 refine My (bE rfl hh hh (el rfl) h10) fun _ => ?_
 refine M3 ?_
 intros
 refine My (bE rfl hh hh (el rfl) h11) fun _ => ?_
 refine M3 ?_
 intros
 refine My (bE rfl hh hh (el rfl) h12) fun _ => ?_
 refine M3 ?_
 intros
 refine My (bE rfl hh hh (el rfl) h13) fun _ => ?_
 refine M1 ?_
 intros
 refine Nc (tV _ _ _ _ h14) fun _ => ?_
 refine M1 ?_
 intros
 refine Z2 ?_
 revert H; refine cs (fun c7 H => ?_) fun c7 H => ?_
 refine cK (has rfl) (iP c7) ?_
 revert H; refine B5 fun z1 h15 H => ?_
 refine Yy (eN rfl hh hh h15) ?_
 refine Z2 ?_
 exact Tm ((k2, z1)) ⟨H, ls⟩
 refine cJ (has rfl) (jC c7) ?_
 revert H; refine B10 fun r7 H e7 => ?_
 cases e7; cases Hr2
 revert H; refine B3 fun r8 H e8 => ?_
 cases e8; cases Hr1
 cases H
 exact To
 exact fk
 kernel_rfl
 refine cK (has rfl) c6 ?_
 refine Z6 ?_
 exact Tm (()) (ij H)
 exact fk
 kernel_rfl
 clear H; intro i hi; subst o2; have H := Hr2; clear Hr2; try dsimp only at H
 try dsimp only
 revert H; refine B2 fun z2 h16 H => ?_
 refine Yy (eN rfl hh hh h16) ?_
 refine Z2 ?_
 exact Tm ((k1, z2)) ⟨H, ls⟩
 refine cK (has rfl) c2 ?_
 refine Z5 ?_
 exact Tm (()) (ij H)
 clear H; intro i hi; subst o1; have H := Hr1; clear Hr1; try dsimp only at H
 try dsimp only
 refine Z4 ?_
 cases H
 exact To
def rD (a0 : Int) (a1 : Int) (a2 : Bool) : Option (Bool) :=
 (mR a0).bind fun y1 =>
 (mR a1).bind fun y2 =>
 some (decide (y2 ≤ y1))
theorem aFl  (a0 : Int) (a1 : Int) (a2 : Bool) (r : Bool) (H : rD a0 a1 a2 = some r) : FnS Tryz.prog 45 [aA .i64 a0, aA .i64 a1, aL a2] [] (aL r) (fun _ => []) := by
 unfold rD at H
 refine bJ Tryz.func45 rfl Tryz.ntmps45 rfl (fun β => ?_)
 revert H; refine B5 fun y1 h1 H => ?_
 refine Tc (tU _ _ h1) ?_
 revert H; refine B1 fun y2 h2 H => ?_
 refine Tc (tU _ _ h2) ?_
 refine Z4 ?_
 cases H
 exact To
end Go.Proofs.YtmnbfgeljmhekaaGreat
