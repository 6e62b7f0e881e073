/- Parts of the proof: lemmas, and the steps through the program. -/
import Derived.Test.YtmnbfgeljmhekaaGreatKw1
set_option linter.unusedVariables false
set_option linter.unusedSimpArgs false
set_option maxRecDepth 100000
set_option maxHeartbeats 2000000
namespace Go.Proofs.YtmnbfgeljmhekaaGreat
open Go.SX Go.SW Go.Dt
attribute [local irreducible] Code.wpIn wpListIn Exit.then Exit.inBlock
def aCA (a0 : Scope_speaks) : Option (Int) :=
 some 0
theorem aJm  (a0 : Scope_speaks) (r : Int) (H : aCA a0 = some r) : FnS Tryz.prog 148 [fSt aHz a0] [] (aA .i64 r) (fun _ => []) := by
 unfold aCA at H
 refine bD Tryz.func148 rfl Tryz.ntmps148 rfl (fun β => ?_)
 refine Z1 ?_
 refine Tn (cF rfl (has rfl) bQ) fun b1 => ?_
 refine Z6 ?_
 cases H
 refine aG [] (by decide) ?_
 exact To
def aCJ (a0 : Scope_travels) : Option (Int) :=
 some 1
theorem aI6  (a0 : Scope_travels) (r : Int) (H : aCJ a0 = some r) : FnS Tryz.prog 149 [fSt aJr a0] [] (aA .i64 r) (fun _ => []) := by
 unfold aCJ at H
 refine bD Tryz.func149 rfl Tryz.ntmps149 rfl (fun β => ?_)
 refine Z1 ?_
 refine Tn (cF rfl (has rfl) bQ) fun b1 => ?_
 refine Z6 ?_
 cases H
 refine aG [] (by decide) ?_
 exact To
def aBF (a0 : Scope_declares) : Option (Int) :=
 some 1
theorem aGN  (a0 : Scope_declares) (r : Int) (H : aBF a0 = some r) : FnS Tryz.prog 150 [fSt aI2 a0] [] (aA .i64 r) (fun _ => []) := by
 unfold aBF at H
 refine bD Tryz.func150 rfl Tryz.ntmps150 rfl (fun β => ?_)
 refine Z1 ?_
 refine Tn (cF rfl (has rfl) bQ) fun b1 => ?_
 refine Z6 ?_
 cases H
 refine aG [] (by decide) ?_
 exact To
def aCT (a0 : Scope_decides) : Option (Int) :=
 some 2
theorem aIp  (a0 : Scope_decides) (r : Int) (H : aCT a0 = some r) : FnS Tryz.prog 151 [fSt aJq a0] [] (aA .i64 r) (fun _ => []) := by
 unfold aCT at H
 refine bD Tryz.func151 rfl Tryz.ntmps151 rfl (fun β => ?_)
 refine Z1 ?_
 refine Tn (cF rfl (has rfl) bQ) fun b1 => ?_
 refine Z6 ?_
 cases H
 refine aG [] (by decide) ?_
 exact To
def aCR (a0 : Int) : Option (Int) :=
 some a0
theorem aHI  (a0 : Int) (r : Int) (H : aCR a0 = some r) : FnS Tryz.prog 152 [aA .i64 a0] [] (aA .i64 r) (fun _ => []) := by
 unfold aCR at H
 refine bD Tryz.func152 rfl Tryz.ntmps152 rfl (fun β => ?_)
 refine Z8 ?_
 cases H
 exact To
def mN : Value → Option Int
 | .iface 190 (.agg ⟨[]⟩) => aCA ⟨⟩
 | .iface 191 (.agg ⟨[]⟩) => aCJ ⟨⟩
 | .iface 192 (.agg ⟨[]⟩) => aBF ⟨⟩
 | .iface 193 (.agg ⟨[]⟩) => aCT ⟨⟩
 | .iface 197 (.int .i64 n) => aCR n
 | _ => none
theorem aIR (v : Value) (r : Int) (H : mN v = some r) : Inv Tryz.prog v "cabotage/scope.kids" [] (aA .i64 r) := by
 unfold mN at H
 split at H
 ·exact ⟨_, _, 148, rfl, fun w => by kernel_rfl, (cb rfl), (aJm ⟨⟩ r H).args (aN.cons (sW []) aN.nil)⟩
 ·exact ⟨_, _, 149, rfl, fun w => by kernel_rfl, (cb rfl), (aI6 ⟨⟩ r H).args (aN.cons (sW []) aN.nil)⟩
 ·exact ⟨_, _, 150, rfl, fun w => by kernel_rfl, (cb rfl), (aGN ⟨⟩ r H).args (aN.cons (sW []) aN.nil)⟩
 ·exact ⟨_, _, 151, rfl, fun w => by kernel_rfl, (cb rfl), (aIp ⟨⟩ r H).args (aN.cons (sW []) aN.nil)⟩
 ·rename_i n; exact ⟨_, _, 152, rfl, fun w => by kernel_rfl, (cb rfl), (aHI n r H).args aN.rfl⟩
 ·cases H
def nQ (fuel : Nat) (a2 : Int) (y7 : ScopeNode) : Nat → Int → Option ((Unit) ⊕ (Scope_looker ⊕ Value))
| 0, _ => none
| k + 1, x8 =>
 if x8 < (y7.Args.length : Int) then
  (idx y7.Args x8).bind fun y27 =>
  (xX fuel (⟨y27.Op, y27.N, y27.Kids⟩ : ScopeExp) a2).bind fun y28 =>
  match y28 with
  | Sum.inr pv16 => (some (Sum.inr pv16)).bind fun r => some (Sum.inr r)
  | Sum.inl y28 =>
  (chk (x8 + 1)).bind fun z1 =>
  nQ fuel a2 y7 k z1
 else
  some (Sum.inl ())
def oG (fuel : Nat) (rec_scope_looker_node : Scope_looker → Int → Int → Option (Scope_looker ⊕ Value)) (y30 : ScopeDef) (z2 : Int) : Nat → Int → (List ByteArray) → (List ScopeNode) → (List ScopeDef) → Int → (List Int) → (List Bool) → (List Bool) → Option ((List ByteArray × List ScopeNode × List ScopeDef × Int × List Int × List Bool × List Bool) ⊕ ((Int × List ByteArray × List ScopeNode × List ScopeDef × Int × List Int × List Bool × List Bool) ⊕ (Scope_looker ⊕ Value)))
| 0, _, _, _, _, _, _, _, _ => none
| k + 1, x32, x33, x34, x35, x36, x37, x38, x39 =>
 if x32 < (y30.Rules.length : Int) then
  (idx y30.Rules x32).bind fun y33 =>
  (xY fuel (⟨y30.Chans, y30.Spots, y30.Rules⟩ : ScopeDef) (⟨y33.At, y33.Joins, y33.Node⟩ : ScopeRule)).bind fun y34 =>
  (chk (z2 + y34)).bind fun z3 =>
  (rec_scope_looker_node (⟨(⟨x33, x34, x35, x36⟩ : ScopeProg), x37, x38, x39⟩ : Scope_looker) y33.Node z3).bind fun y35 =>
  match y35 with
  | Sum.inr pv18 => ((some (Sum.inr pv18)).bind fun r => some (Sum.inr r)).bind fun r => some (Sum.inr r)
  | Sum.inl y35 =>
  (chk (x32 + 1)).bind fun z4 =>
  oG fuel rec_scope_looker_node y30 z2 k z4 y35.p.Free y35.p.Nodes y35.p.Defs y35.p.Main y35.sizes y35.met y35.defs
 else
  some (Sum.inl (x33, x34, x35, x36, x37, x38, x39))
def mK (rec_scope_looker_node : Scope_looker → Int → Int → Option (Scope_looker ⊕ Value)) (y30 : ScopeDef) (z2 : Int) : Nat → Int → (List ByteArray) → (List ScopeNode) → (List ScopeDef) → Int → (List Int) → (List Bool) → (List Bool) → Option ((Int × List ByteArray × List ScopeNode × List ScopeDef × Int × List Int × List Bool × List Bool) ⊕ (Scope_looker ⊕ Value))
| 0, _, _, _, _, _, _, _, _ => none
| k + 1, x48, x49, x50, x51, x52, x53, x54, x55 =>
 if x48 < (y30.Spots.length : Int) then
  (idx y30.Spots x48).bind fun y36 =>
  (rec_scope_looker_node (⟨(⟨x49, x50, x51, x52⟩ : ScopeProg), x53, x54, x55⟩ : Scope_looker) y36.Node z2).bind fun y37 =>
  match y37 with
  | Sum.inr pv19 => (some (Sum.inr pv19)).bind fun r => some (Sum.inr r)
  | Sum.inl y37 =>
  (chk (x48 + 1)).bind fun z5 =>
  mK rec_scope_looker_node y30 z2 k z5 y37.p.Free y37.p.Nodes y37.p.Defs y37.p.Main y37.sizes y37.met y37.defs
 else
  some (Sum.inl (z2, x49, x50, x51, x52, x53, x54, x55))
def nH (rec_scope_looker_node : Scope_looker → Int → Int → Option (Scope_looker ⊕ Value)) (y7 : ScopeNode) (x9 : Int) : Nat → Int → (List ByteArray) → (List ScopeNode) → (List ScopeDef) → Int → (List Int) → (List Bool) → (List Bool) → Option (Scope_looker ⊕ Value)
| 0, _, _, _, _, _, _, _, _ => none
| k + 1, x64, x65, x66, x67, x68, x69, x70, x71 =>
 if x64 < (y7.Kids.length : Int) then
  (idx y7.Kids x64).bind fun y38 =>
  (rec_scope_looker_node (⟨(⟨x65, x66, x67, x68⟩ : ScopeProg), x69, x70, x71⟩ : Scope_looker) y38 x9).bind fun y39 =>
  match y39 with
  | Sum.inr pv20 => some (Sum.inr pv20)
  | Sum.inl y39 =>
  (chk (x64 + 1)).bind fun z6 =>
  nH rec_scope_looker_node y7 x9 k z6 y39.p.Free y39.p.Nodes y39.p.Defs y39.p.Main y39.sizes y39.met y39.defs
 else
  some (Sum.inl (⟨(⟨x65, x66, x67, x68⟩ : ScopeProg), x69, x70, x71⟩ : Scope_looker))
def fF : Nat → Scope_looker → Int → Int → Option (Scope_looker ⊕ Value)
| 0, _, _, _ => none
| fuel + 1, a0, a1, a2 =>
 (if 0 ≤ a1 then
  if a1 < (a0.p.Nodes.length : Int) then
   (idx a0.met a1).bind fun y1 =>
   (bT (!y1)).bind fun y2 =>
   match y2 with
   | Sum.inr pv1 => (some (Sum.inr pv1)).bind fun r => some (Sum.inr r)
   | Sum.inl y2 =>
   some (Sum.inl ())
  else
   (bT false).bind fun y3 =>
   match y3 with
   | Sum.inr pv2 => (some (Sum.inr pv2)).bind fun r => some (Sum.inr r)
   | Sum.inl y3 =>
   some (Sum.inl ())
 else
  (bT false).bind fun y4 =>
  match y4 with
  | Sum.inr pv3 => (some (Sum.inr pv3)).bind fun r => some (Sum.inr r)
  | Sum.inl y4 =>
  some (Sum.inl ())).bind fun o => match o with
 | Sum.inr r => some r
 | Sum.inl _ =>
 (idx a0.met a1).bind fun y5 =>
 (idx a0.sizes a1).bind fun y6 =>
 (idx a0.p.Nodes a1).bind fun y7 =>
 (kV y7.Op).bind fun y8 =>
 ((iT y8).bind fun x1 =>
 bif !x1 then
  (mN y8).bind fun y9 =>
  (bT (decide ((y7.Kids.length : Int) = y9))).bind fun y10 =>
  match y10 with
  | Sum.inr pv4 => (some (Sum.inr pv4)).bind fun r => some (Sum.inr r)
  | Sum.inl y10 =>
  some (Sum.inl ())
 else
  (bT false).bind fun y11 =>
  match y11 with
  | Sum.inr pv5 => (some (Sum.inr pv5)).bind fun r => some (Sum.inr r)
  | Sum.inl y11 =>
  some (Sum.inl ())).bind fun o => match o with
 | Sum.inr r => some r
 | Sum.inl _ =>
 ((eU 190 (.agg #[]) y8).bind fun y12 =>
 match y12 with
 | (u1, x3) =>
 bif x3 then
  if 0 ≤ y7.N then
   (bT (decide (y7.N < a2))).bind fun y13 =>
   match y13 with
   | Sum.inr pv6 => (some (Sum.inr pv6)).bind fun r => some (Sum.inr r)
   | Sum.inl y13 =>
   some (Sum.inl (min (y7.Args.length : Int) 3))
  else
   (bT false).bind fun y14 =>
   match y14 with
   | Sum.inr pv7 => (some (Sum.inr pv7)).bind fun r => some (Sum.inr r)
   | Sum.inl y14 =>
   some (Sum.inl (min (y7.Args.length : Int) 3))
 else
  (eU 191 (.agg #[]) y8).bind fun y15 =>
  match y15 with
  | (u2, x4) =>
  bif x4 then
   if 0 ≤ y7.N then
    (bT (decide (y7.N < a2))).bind fun y16 =>
    match y16 with
    | Sum.inr pv8 => (some (Sum.inr pv8)).bind fun r => some (Sum.inr r)
    | Sum.inl y16 =>
    some (Sum.inl 0)
   else
    (bT false).bind fun y17 =>
    match y17 with
    | Sum.inr pv9 => (some (Sum.inr pv9)).bind fun r => some (Sum.inr r)
    | Sum.inl y17 =>
    some (Sum.inl 0)
  else
   (eU 192 (.agg #[]) y8).bind fun y18 =>
   match y18 with
   | (u3, x5) =>
   bif x5 then
    if 0 ≤ y7.N then
     if y7.N < (a0.p.Defs.length : Int) then
      (idx a0.defs y7.N).bind fun y19 =>
      (bT (!y19)).bind fun y20 =>
      match y20 with
      | Sum.inr pv10 => (some (Sum.inr pv10)).bind fun r => some (Sum.inr r)
      | Sum.inl y20 =>
      some (Sum.inl 0)
     else
      (bT false).bind fun y21 =>
      match y21 with
      | Sum.inr pv11 => (some (Sum.inr pv11)).bind fun r => some (Sum.inr r)
      | Sum.inl y21 =>
      some (Sum.inl 0)
    else
     (bT false).bind fun y22 =>
     match y22 with
     | Sum.inr pv12 => (some (Sum.inr pv12)).bind fun r => some (Sum.inr r)
     | Sum.inl y22 =>
     some (Sum.inl 0)
   else
    (eU 193 (.agg #[]) y8).bind fun y23 =>
    match y23 with
    | (u4, x6) =>
    bif x6 then
     (bT (decide (y7.N = 0))).bind fun y24 =>
     match y24 with
     | Sum.inr pv13 => (some (Sum.inr pv13)).bind fun r => some (Sum.inr r)
     | Sum.inl y24 =>
     some (Sum.inl 1)
    else
     (bT (decide (y7.N = 0))).bind fun y25 =>
     match y25 with
     | Sum.inr pv14 => (some (Sum.inr pv14)).bind fun r => some (Sum.inr r)
     | Sum.inl y25 =>
     some (Sum.inl 0)).bind fun o => match o with
 | Sum.inr r => some r
 | Sum.inl x2 =>
 (bT (decide ((y7.Args.length : Int) = x2))).bind fun y26 =>
 match y26 with
 | Sum.inr pv15 => some (Sum.inr pv15)
 | Sum.inl y26 =>
 (nQ fuel a2 y7 fuel 0).bind fun o => match o with
 | Sum.inr r => some r
 | Sum.inl _ =>
 (if y7.Op = 4 then
  (idx a0.defs y7.N).bind fun y29 =>
  (idx a0.p.Defs y7.N).bind fun y30 =>
  (uQ fuel (⟨y30.Chans, y30.Spots, y30.Rules⟩ : ScopeDef)).bind fun y31 =>
  match y31 with
  | Sum.inr pv17 => (some (Sum.inr pv17)).bind fun r => some (Sum.inr r)
  | Sum.inl y31 =>
  (uU (⟨y30.Chans, y30.Spots, y30.Rules⟩ : ScopeDef)).bind fun y32 =>
  (chk (a2 + y32)).bind fun z2 =>
  (oG fuel (fF fuel) y30 z2 fuel 0 a0.p.Free a0.p.Nodes a0.p.Defs a0.p.Main (a0.sizes.set a1.toNat a2) (a0.met.set a1.toNat true) (a0.defs.set y7.N.toNat true)).bind fun o => match o with
  | Sum.inr r => some r
  | Sum.inl (x17, x18, x19, x20, x21, x22, x23) =>
  mK (fF fuel) y30 z2 fuel 0 x17 x18 x19 x20 x21 x22 x23
 else
  some (Sum.inl (a2, a0.p.Free, a0.p.Nodes, a0.p.Defs, a0.p.Main, a0.sizes.set a1.toNat a2, a0.met.set a1.toNat true, a0.defs))).bind fun o => match o with
 | Sum.inr r => some r
 | Sum.inl (x9, x10, x11, x12, x13, x14, x15, x16) =>
 nH (fF fuel) y7 x9 fuel 0 x10 x11 x12 x13 x14 x15 x16
theorem aD4 : ∀ (fuel : Nat), (∀ (p0 : Nat) (a0 : Scope_looker) (a1 : Int) (a2 : Int) (r : Scope_looker ⊕ Value) (H : fF fuel a0 a1 a2 = some r), FnE Tryz.prog 110 [fEq (.pointer (some ⟨p0, 0, none⟩)), aA .i64 a1, aA .i64 a2] [aAH p0 a0] r (fun r => dG []) (fun r => [aAH p0 r])) := by
 intro fuel
 induction fuel with
 | zero => exact fun p0 a0 a1 a2 r H => (by rw [fF] at H; cases H)
 | succ fuel ih =>
 have ih_scope_looker_node := ih
 refine ?_
 intro p0 a0 a1 a2 r H
 rw [fF] at H
 refine rH Tryz.func110 rfl Tryz.ntmps110 rfl (fun β => ?_)
 refine xB (fun v1 v2 v3 => ?_)
 refine aR 1 rfl (fun hc_v1 => ?_)
 refine aR 2 rfl (fun hc_v2 => ?_)
 refine aR 3 rfl (fun hc_v3 => ?_)
 revert H; refine bs fun o1 H Hr1 => ?_
 refine aW (ι := Unit) (fun i => o1 = Sum.inl ()) (fun i => [(0, fEq (ptr p0)), (1, aA .i64 a1), (2, aA .i64 a2)]) (fun i => [aC p0 151 [fSl aM a0.p.Free, fSl aL a0.p.Nodes, fSl aJ a0.p.Defs, aA .i64 a0.p.Main, fEq v1, fEq v2, fEq v3], aE v1 3 (aB .i64) a0.sizes, aE v2 4 cD a0.met, aE v3 4 cD a0.defs]) ?_ ?_
 revert H; refine I4 (fun c1 H => ?_) fun c1 H => ?_
 revert H; refine I10 (fun c2 H => ?_) fun c2 H => ?_
 revert H; refine B5 fun y1 h1 H => ?_
 refine Z1 ?_
 refine Yh 2 rfl c2 (gN rfl rfl hh (sc rfl) (bB h1) rfl) ?_
 revert H; refine B2 fun y2 h2 H => ?_
 rcases y2 with y2 | pv1 <;> dsimp only at H
 refine Tc (aY _ _ h2).s ?_
 refine Z1 ?_
 exact Tm (()) (ij H)
 refine Tp (aY _ _ h2).pan ?_
 revert H; refine B1 fun r1 H e1 => ?_
 cases e1; cases Hr1
 cases H
 exact bZ
 revert H; refine B9 fun y3 h3 H => ?_
 rcases y3 with y3 | pv2 <;> dsimp only at H
 refine Tc (aY _ _ h3).s ?_
 refine Z1 ?_
 exact Tm (()) (ij H)
 refine Tp (aY _ _ h3).pan ?_
 revert H; refine B1 fun r2 H e2 => ?_
 cases e2; cases Hr1
 cases H
 exact bZ
 refine Z12 ?_
 revert H; refine B7 fun y4 h4 H => ?_
 rcases y4 with y4 | pv3 <;> dsimp only at H
 refine Tc (aY _ _ h4).s ?_
 refine Z1 ?_
 exact Tm (()) (ij H)
 refine Tp (aY _ _ h4).pan ?_
 revert H; refine B1 fun r3 H e3 => ?_
 cases e3; cases Hr1
 cases H
 exact bZ
 clear H; intro i hi; subst o1; have H := Hr1; clear Hr1; try dsimp only at H
 try dsimp only
 refine aH ?_
 revert H; refine bs fun y5 h5 H => ?_
 revert H; refine bs fun y6 h6 H => ?_
 apply bH (ods := [_, _, _, _, _, _, _, _, _, _, _, _, _, _, _]) 15 0 4 bG rfl rfl rfl
 refine ND ?_
 refine M8 ?_
 intros
 refine M4 ?_
 intros
 refine jV (od := odC [2] true (fAny) [aE v2 4 cD (a0.met.set a1.toNat true)]) (p := 2) (z' := true) rfl (fun _ => rfl) (fun _ => rfl) trivial rfl rfl rfl rfl (has rfl) (has rfl) (aD trivial) (sz rfl) (bB h5) rfl rfl (fun _ => ?_)
 refine M1 ?_
 intros
 refine jV (od := odC [1] true (fAny) [aE v1 3 (aB .i64) (a0.sizes.set a1.toNat a2)]) (p := 1) (z' := a2) rfl (fun _ => rfl) (fun _ => rfl) trivial rfl rfl rfl rfl (has rfl) (has rfl) (aD trivial) (sz rfl) (bB h6) rfl rfl (fun _ => ?_)
 revert H; refine B9 fun y7 h7 H => ?_
 refine Z2 ?_
 refine Tn (cK rfl pN rfl) fun b1 => ?_
 refine dM (φs' := [aA .i64 y7.Op, aA .i64 y7.N, fSl bA y7.Args, fSl (aB .i64) y7.Kids]) trivial rfl rfl (has rfl) (has rfl) (aO (aD trivial) (aO (aD trivial) (aO (aZ) (aO (aZ) bX)))) (sz rfl) rfl rfl rfl ?_
 revert H; refine B4 fun y8 h8 H => ?_
 refine Tc (aHX _ _ h8) ?_
 revert H; refine B2 fun o2 H Hr2 => ?_
 refine aW (ι := Unit) (fun i => o2 = Sum.inl ()) (fun i => [(0, fEq (ptr p0)), (2, aA .i64 a2), (6, fEq (ptr b1)), (7, eI y8)]) (fun i => [aC b1 51 [aA .i64 y7.Op, aA .i64 y7.N, fSl bA y7.Args, fSl (aB .i64) y7.Kids], aC p0 151 [fSl aM a0.p.Free, fSl aL a0.p.Nodes, fSl aJ a0.p.Defs, aA .i64 a0.p.Main, fEq v1, fEq v2, fEq v3], aE v1 3 (aB .i64) (a0.sizes.set a1.toNat a2), aE v2 4 cD (a0.met.set a1.toNat true), aE v3 4 cD a0.defs]) ?_ ?_
 revert H; refine bs fun x1 h9 H => ?_
 revert H; refine cs (fun c3 H => ?_) fun c3 H => ?_
 revert H; refine bs fun y9 h10 H => ?_
 apply bH (ods := [_, _, _, _, _, _, _, _, _, _]) 10 0 5 bG rfl rfl rfl
 refine ND ?_
 refine M1 ?_
 intros
 refine My (zV rfl (dA rfl gZ) aF7 h9) fun _ => ?_
 refine M5 ?_
 intros
 refine N_callI (od := odC [] true (aA .i64 y9) []) (Φ := aA .i64 y9) rfl (fun _ => rfl) ⟨_, _, rfl, rfl, c3⟩ rfl rfl (dA rfl gZ) aK.nil (aIR y8 y9 h10) (fun _ => ?_)
 refine M2 ?_
 intros
 revert H; refine B1 fun y10 h11 H => ?_
 rcases y10 with y10 | pv4 <;> dsimp only at H
 refine Tc (aY _ _ h11).s ?_
 refine Z1 ?_
 exact Tm (()) (ij H)
 refine Tp (aY _ _ h11).pan ?_
 revert H; refine B1 fun r4 H e4 => ?_
 cases e4; cases Hr2
 cases H
 exact bZ
 exact fk
 kernel_rfl
 apply bH (ods := [_, _, _, _, _, _, _, _, _, _]) 10 0 5 bG rfl rfl rfl
 refine ND ?_
 refine M1 ?_
 intros
 refine My (zV rfl (dA rfl gZ) aF7 h9) fun _ => ?_
 refine M8 ?_
 intros
 revert H; refine B1 fun y11 h12 H => ?_
 rcases y11 with y11 | pv5 <;> dsimp only at H
 refine Tc (aY _ _ h12).s ?_
 refine Z1 ?_
 exact Tm (()) (ij H)
 refine Tp (aY _ _ h12).pan ?_
 revert H; refine B1 fun r5 H e5 => ?_
 cases e5; cases Hr2
 cases H
 exact bZ
 exact fk
 kernel_rfl
 clear H; intro i hi; subst o2; have H := Hr2; clear Hr2; try dsimp only at H
 try dsimp only
 revert H; refine B3 fun o3 H Hr3 => ?_
 refine aW (ι := Int) (fun i => o3 = Sum.inl i) (fun i => [(0, fEq (ptr p0)), (2, aA .i64 a2), (6, fEq (ptr b1)), (8, aA .i64 i)]) (fun i => [aC b1 51 [aA .i64 y7.Op, aA .i64 y7.N, fSl bA y7.Args, fSl (aB .i64) y7.Kids], aC p0 151 [fSl aM a0.p.Free, fSl aL a0.p.Nodes, fSl aJ a0.p.Defs, aA .i64 a0.p.Main, fEq v1, fEq v2, fEq v3], aE v1 3 (aB .i64) (a0.sizes.set a1.toNat a2), aE v2 4 cD (a0.met.set a1.toNat true), aE v3 4 cD a0.defs]) ?_ ?_
 revert H; refine B5 fun y12 h13 H => ?_
 obtain ⟨u1, x3⟩ := y12; dsimp only at H
 refine Yy (wL rfl (dA rfl gZ) aF1 aHl h13) ?_
 refine Z3 ?_
 revert H; refine cs (fun c4 H => ?_) fun c4 H => ?_
 refine Z12 ?_
 revert H; refine I1 (fun c5 H => ?_) fun c5 H => ?_
 revert H; refine B5 fun y13 h14 H => ?_
 rcases y13 with y13 | pv6 <;> dsimp only at H
 refine Tc (aY _ _ h14).s ?_
 refine Z3 ?_
 exact Tm (min (y7.Args.length : Int) 3) (ij H)
 refine Tp (aY _ _ h14).pan ?_
 revert H; refine B2 fun r6 H e6 => ?_
 cases e6; cases Hr3
 cases H
 exact bZ
 revert H; refine B5 fun y14 h15 H => ?_
 rcases y14 with y14 | pv7 <;> dsimp only at H
 refine Tc (aY _ _ h15).s ?_
 refine Z3 ?_
 exact Tm (min (y7.Args.length : Int) 3) (ij H)
 refine Tp (aY _ _ h15).pan ?_
 revert H; refine B2 fun r7 H e7 => ?_
 cases e7; cases Hr3
 cases H
 exact bZ
 revert H; refine B2 fun y15 h16 H => ?_
 obtain ⟨u2, x4⟩ := y15; dsimp only at H
 refine Yy (wL rfl (dA rfl gZ) aEE aJl h16) ?_
 refine Z3 ?_
 revert H; refine cs (fun c6 H => ?_) fun c6 H => ?_
 revert H; refine I6 (fun c7 H => ?_) fun c7 H => ?_
 revert H; refine B5 fun y16 h17 H => ?_
 rcases y16 with y16 | pv8 <;> dsimp only at H
 refine Tc (aY _ _ h17).s ?_
 refine Z3 ?_
 exact Tm (0) (ij H)
 refine Tp (aY _ _ h17).pan ?_
 revert H; refine B2 fun r8 H e8 => ?_
 cases e8; cases Hr3
 cases H
 exact bZ
 revert H; refine B5 fun y17 h18 H => ?_
 rcases y17 with y17 | pv9 <;> dsimp only at H
 refine Tc (aY _ _ h18).s ?_
 refine Z3 ?_
 exact Tm (0) (ij H)
 refine Tp (aY _ _ h18).pan ?_
 revert H; refine B2 fun r9 H e9 => ?_
 cases e9; cases Hr3
 cases H
 exact bZ
 revert H; refine B2 fun y18 h19 H => ?_
 obtain ⟨u3, x5⟩ := y18; dsimp only at H
 refine Yy (wL rfl (dA rfl gZ) aE9 aH9 h19) ?_
 refine Z3 ?_
 revert H; refine cs (fun c8 H => ?_) fun c8 H => ?_
 revert H; refine I1 (fun c9 H => ?_) fun c9 H => ?_
 revert H; refine is (fun c10 H => ?_) fun c10 H => ?_
 revert H; refine bs fun y19 h20 H => ?_
 apply bH (ods := [_, _, _, _, _, _, _, _, _, _, _, _, _, _, _, _, _, _, _, _, _, _, _, _, _]) 25 0 5 bG rfl rfl rfl
 refine ND ?_
 refine M8 ?_
 intros
 refine M8 ?_
 intros
 refine M6 ?_
 intros
 refine eD (od := odC [4] false (aI y19) [cZ]) (ps := [4]) (φ := aI y19) rfl (fun _ => rfl) ⟨_, _, rfl, rfl, c10⟩ rfl rfl (gN rfl rfl (has rfl) (sc rfl) (bB h20) rfl) (fun _ => ?_)
 refine M2 ?_
 intros
 revert H; refine B1 fun y20 h21 H => ?_
 rcases y20 with y20 | pv10 <;> dsimp only at H
 refine Tc (aY _ _ h21).s ?_
 refine Z3 ?_
 exact Tm (0) (ij H)
 refine Tp (aY _ _ h21).pan ?_
 revert H; refine B2 fun r10 H e10 => ?_
 cases e10; cases Hr3
 cases H
 exact bZ
 exact fk
 kernel_rfl
 apply bH (ods := [_, _, _, _, _, _, _, _, _, _, _, _, _, _, _, _, _, _, _, _, _, _, _, _, _]) 25 0 5 bG rfl rfl rfl
 refine ND ?_
 refine M8 ?_
 intros
 refine M8 ?_
 intros
 refine M8 ?_
 intros
 refine M1 ?_
 intros
 revert H; refine B1 fun y21 h22 H => ?_
 rcases y21 with y21 | pv11 <;> dsimp only at H
 refine Tc (aY _ _ h22).s ?_
 refine Z3 ?_
 exact Tm (0) (ij H)
 refine Tp (aY _ _ h22).pan ?_
 revert H; refine B2 fun r11 H e11 => ?_
 cases e11; cases Hr3
 cases H
 exact bZ
 exact fk
 kernel_rfl
 apply bH (ods := [_, _, _, _, _, _, _, _, _, _, _, _, _, _, _, _, _, _, _, _, _, _, _, _, _]) 25 0 5 bG rfl rfl rfl
 refine ND ?_
 refine M8 ?_
 intros
 refine M8 ?_
 intros
 refine M8 ?_
 intros
 refine M1 ?_
 intros
 revert H; refine B1 fun y22 h23 H => ?_
 rcases y22 with y22 | pv12 <;> dsimp only at H
 refine Tc (aY _ _ h23).s ?_
 refine Z3 ?_
 exact Tm (0) (ij H)
 refine Tp (aY _ _ h23).pan ?_
 revert H; refine B2 fun r12 H e12 => ?_
 cases e12; cases Hr3
 cases H
 exact bZ
 exact fk
 kernel_rfl
 revert H; refine B2 fun y23 h24 H => ?_
 obtain ⟨u4, x6⟩ := y23; dsimp only at H
 refine Yy (wL rfl (dA rfl gZ) aFs aJo h24) ?_
 refine Z3 ?_
 revert H; refine cs (fun c11 H => ?_) fun c11 H => ?_
 revert H; refine B8 fun y24 h25 H => ?_
 rcases y24 with y24 | pv13 <;> dsimp only at H
 refine Tc (aY _ _ h25).s ?_
 refine Z3 ?_
 exact Tm (1) (ij H)
 refine Tp (aY _ _ h25).pan ?_
 revert H; refine B2 fun r13 H e13 => ?_
 cases e13; cases Hr3
 cases H
 exact bZ
 revert H; refine B5 fun y25 h26 H => ?_
 rcases y25 with y25 | pv14 <;> dsimp only at H
 refine Tc (aY _ _ h26).s ?_
 refine Z3 ?_
 exact Tm (0) (ij H)
 refine Tp (aY _ _ h26).pan ?_
 revert H; refine B2 fun r14 H e14 => ?_
 cases e14; cases Hr3
 cases H
 exact bZ
 clear H; intro x2 hi; subst o3; have H := Hr3; clear Hr3; try dsimp only at H
 try dsimp only
 revert H; refine B6 fun y26 h27 H => ?_
 rcases y26 with y26 | pv15 <;> dsimp only at H
 refine Tc (aY _ _ h27).s ?_
 revert H; refine B1 fun o4 H Hr4 => ?_
 refine aW (ι := Unit) (fun i => o4 = Sum.inl ()) (fun i => [(0, fEq (ptr p0)), (2, aA .i64 a2), (6, fEq (ptr b1))]) (fun i => [aC b1 51 [aA .i64 y7.Op, aA .i64 y7.N, fSl bA y7.Args, fSl (aB .i64) y7.Kids], aC p0 151 [fSl aM a0.p.Free, fSl aL a0.p.Nodes, fSl aJ a0.p.Defs, aA .i64 a0.p.Main, fEq v1, fEq v2, fEq v3], aE v1 3 (aB .i64) (a0.sizes.set a1.toNat a2), aE v2 4 cD (a0.met.set a1.toNat true), aE v3 4 cD a0.defs]) ?_ ?_
 refine Z7 ?_
 refine Tl (ι := Nat × Int) (fun i => nQ fuel a2 y7 i.1 i.2 = _) (fun i => i.1) (fun i => [(0, fEq (ptr p0)), (2, aA .i64 a2), (6, fEq (ptr b1)), (154, fSl bA y7.Args), (155, aA .i64 (y7.Args.length : Int)), (156, aA .i64 i.2)]) (fun i => [aC b1 51 [aA .i64 y7.Op, aA .i64 y7.N, fSl bA y7.Args, fSl (aB .i64) y7.Kids], aC p0 151 [fSl aM a0.p.Free, fSl aL a0.p.Nodes, fSl aJ a0.p.Defs, aA .i64 a0.p.Main, fEq v1, fEq v2, fEq v3], aE v1 3 (aB .i64) (a0.sizes.set a1.toNat a2), aE v2 4 cD (a0.met.set a1.toNat true), aE v3 4 cD a0.defs]) (fuel, 0) H ?_
 clear H; rintro ⟨k1, x8⟩ H
 replace H : nQ fuel a2 y7 k1 x8 = _ := H
 try dsimp only
 obtain _ | k1 := k1
 rw [nQ] at H; cases H
 rw [nQ] at H
 refine Z3 ?_
 refine aH ?_
 revert H; refine is (fun c12 H => ?_) fun c12 H => ?_
 refine Z3 ?_
 refine aH ?_
 revert H; refine B2 fun y27 h28 H => ?_
 refine Z2 ?_
 refine Tn (cK rfl aBy rfl) fun b2 => ?_
 refine dM (φs' := [aA .i64 y27.Op, aA .i64 y27.N, gE y27.Kids]) trivial rfl rfl (has rfl) (has rfl) (aO (aD trivial) (aO (aD trivial) (aO (aA6) bX))) (sz rfl) rfl rfl rfl ?_
 revert H; refine B4 fun y28 h29 H => ?_
 rcases y28 with y28 | pv16 <;> dsimp only at H
 refine Tc (aD1 _ _ _ _ h29).s ?_
 revert H; refine B4 fun z1 h30 H => ?_
 refine Z3 ?_
 refine aG [1, 2, 3, 4, 5] (by decide) ?_
 exact Tm ((k1, z1)) ⟨H, ls⟩
 refine Tp (aD1 _ _ _ _ h29).pan ?_
 revert H; refine B5 fun r15 H e15 => ?_
 cases e15; cases Hr4
 cases H
 exact bZ
 refine Z6 ?_
 exact Tm (()) (ij H)
 clear H; intro i hi; subst o4; have H := Hr4; clear Hr4; try dsimp only at H
 try dsimp only
 revert H; refine bs fun o5 H Hr5 => ?_
 refine aW (ι := Int × List ByteArray × List ScopeNode × List ScopeDef × Int × List Int × List Bool × List Bool × Value × Value × Value) (fun i => o5 = Sum.inl (i.1, i.2.1, i.2.2.1, i.2.2.2.1, i.2.2.2.2.1, i.2.2.2.2.2.1, i.2.2.2.2.2.2.1, i.2.2.2.2.2.2.2.1)) (fun i => [(0, fEq (ptr p0)), (2, aA .i64 i.1), (6, fEq (ptr b1))]) (fun i => [aC b1 51 [aA .i64 y7.Op, aA .i64 y7.N, fSl bA y7.Args, fSl (aB .i64) y7.Kids], aC p0 151 [fSl aM i.2.1, fSl aL i.2.2.1, fSl aJ i.2.2.2.1, aA .i64 i.2.2.2.2.1, fEq i.2.2.2.2.2.2.2.2.1, fEq i.2.2.2.2.2.2.2.2.2.1, fEq i.2.2.2.2.2.2.2.2.2.2], aE i.2.2.2.2.2.2.2.2.1 3 (aB .i64) i.2.2.2.2.2.1, aE i.2.2.2.2.2.2.2.2.2.1 4 cD i.2.2.2.2.2.2.1, aE i.2.2.2.2.2.2.2.2.2.2 4 cD i.2.2.2.2.2.2.2.1]) ?_ ?_
 revert H; refine I5 (fun c13 H => ?_) fun c13 H => ?_
 refine Z1 ?_
 refine aH ?_
 revert H; refine bs fun y29 h31 H => ?_
 apply bH (ods := [_, _, _, _, _, _, _, _]) 8 0 5 bG rfl rfl rfl
 refine ND ?_
 refine M7 ?_
 intros
 refine jV (od := odC [4] true (fAny) [aE v3 4 cD (a0.defs.set y7.N.toNat true)]) (p := 4) (z' := true) rfl (fun _ => rfl) (fun _ => rfl) trivial rfl rfl rfl rfl (has rfl) (has rfl) (aD trivial) (sz rfl) (bB h31) rfl rfl (fun _ => ?_)
 refine Z2 ?_
 refine aH ?_
 revert H; refine bs fun y30 h32 H => ?_
 apply bH (ods := [_, _, _, _, _, _, _, _, _, _, _]) 11 1 6 bG rfl rfl rfl
 refine ND ?_
 refine M8 ?_
 intros
 refine M1 ?_
 intros
 refine Mn 5 (fun b3 => ptr b3) (fun b3 => aC b3 99 [fEq (.slice none 0 0), fEq (.slice none 0 0), fEq (.slice none 0 0)]) rfl (cK rfl tB rfl) (fun b3 u5 => ?_)
 refine wF (od := od1 9 [5] true (fun b3 _ => fAny) (fun b3 _ => [aC b3 99 [fSl bF y30.Chans, fSl bW y30.Spots, fSl bK y30.Rules]])) (p := 5) (φs' := [fSl bF y30.Chans, fSl bW y30.Spots, fSl bK y30.Rules]) rfl (fun _ => rfl) (fun _ => rfl) trivial rfl rfl rfl (has rfl) (has rfl) (aO (aZ) (aO (aZ) (aO (aZ) bX))) (sz rfl) rfl rfl rfl (fun _ => ?_)
 revert H; refine B4 fun y31 h33 H => ?_
 rcases y31 with y31 | pv17 <;> dsimp only at H
 refine Tc (aD9 _ _ _ h33).s ?_
 revert H; refine B4 fun y32 h34 H => ?_
 refine Tc (aJa _ _ h34) ?_
 revert H; refine bs fun z2 h35 H => ?_
 revert H; refine B3 fun o6 H Hr6 => ?_
 refine aW (ι := List ByteArray × List ScopeNode × List ScopeDef × Int × List Int × List Bool × List Bool × Value × Value × Value) (fun i => o6 = Sum.inl (i.1, i.2.1, i.2.2.1, i.2.2.2.1, i.2.2.2.2.1, i.2.2.2.2.2.1, i.2.2.2.2.2.2.1)) (fun i => [(0, fEq (ptr p0)), (2, aA .i64 z2), (6, fEq (ptr b1)), (11, fEq (ptr b3))]) (fun i => [aC b1 51 [aA .i64 y7.Op, aA .i64 y7.N, fSl bA y7.Args, fSl (aB .i64) y7.Kids], aC p0 151 [fSl aM i.1, fSl aL i.2.1, fSl aJ i.2.2.1, aA .i64 i.2.2.2.1, fEq i.2.2.2.2.2.2.2.1, fEq i.2.2.2.2.2.2.2.2.1, fEq i.2.2.2.2.2.2.2.2.2], aC b3 99 [fSl bF y30.Chans, fSl bW y30.Spots, fSl bK y30.Rules], aE i.2.2.2.2.2.2.2.1 3 (aB .i64) i.2.2.2.2.1, aE i.2.2.2.2.2.2.2.2.1 4 cD i.2.2.2.2.2.1, aE i.2.2.2.2.2.2.2.2.2 4 cD i.2.2.2.2.2.2.1]) ?_ ?_
 refine Z7 ?_
 refine aG [0, 1, 5, 2, 3, 4] (by decide) ?_
 refine Tl (ι := Nat × Int × List ByteArray × List ScopeNode × List ScopeDef × Int × List Int × List Bool × List Bool × Value × Value × Value) (fun i => oG fuel (fF fuel) y30 z2 i.1 i.2.1 i.2.2.1 i.2.2.2.1 i.2.2.2.2.1 i.2.2.2.2.2.1 i.2.2.2.2.2.2.1 i.2.2.2.2.2.2.2.1 i.2.2.2.2.2.2.2.2.1 = _) (fun i => i.1) (fun i => [(0, fEq (ptr p0)), (2, aA .i64 z2), (6, fEq (ptr b1)), (11, fEq (ptr b3)), (190, fSl bK y30.Rules), (191, aA .i64 (y30.Rules.length : Int)), (192, aA .i64 i.2.1)]) (fun i => [aC b1 51 [aA .i64 y7.Op, aA .i64 y7.N, fSl bA y7.Args, fSl (aB .i64) y7.Kids], aC p0 151 [fSl aM i.2.2.1, fSl aL i.2.2.2.1, fSl aJ i.2.2.2.2.1, aA .i64 i.2.2.2.2.2.1, fEq i.2.2.2.2.2.2.2.2.2.1, fEq i.2.2.2.2.2.2.2.2.2.2.1, fEq i.2.2.2.2.2.2.2.2.2.2.2], aC b3 99 [fSl bF y30.Chans, fSl bW y30.Spots, fSl bK y30.Rules], aE i.2.2.2.2.2.2.2.2.2.1 3 (aB .i64) i.2.2.2.2.2.2.1, aE i.2.2.2.2.2.2.2.2.2.2.1 4 cD i.2.2.2.2.2.2.2.1, aE i.2.2.2.2.2.2.2.2.2.2.2 4 cD i.2.2.2.2.2.2.2.2.1]) (fuel, 0, a0.p.Free, a0.p.Nodes, a0.p.Defs, a0.p.Main, a0.sizes.set a1.toNat a2, a0.met.set a1.toNat true, a0.defs.set y7.N.toNat true, v1, v2, v3) H ?_
 clear H; rintro ⟨k2, x32, x33, x34, x35, x36, x37, x38, x39, v13, v14, v15⟩ H
 replace H : oG fuel (fF fuel) y30 z2 k2 x32 x33 x34 x35 x36 x37 x38 x39 = _ := H
 try dsimp only
 obtain _ | k2 := k2
 rw [oG] at H; cases H
 rw [oG] at H
 refine aR 3 rfl (fun hc_v13 => ?_)
 refine aR 4 rfl (fun hc_v14 => ?_)
 refine aR 5 rfl (fun hc_v15 => ?_)
 refine Z3 ?_
 refine aH ?_
 revert H; refine is (fun c14 H => ?_) fun c14 H => ?_
 refine Z3 ?_
 refine aH ?_
 revert H; refine B2 fun y33 h36 H => ?_
 refine Z2 ?_
 refine Tn (cK rfl uD rfl) fun b4 => ?_
 refine dM (φs' := [aA .i64 y33.At, fSl (aB .i64) y33.Joins, aA .i64 y33.Node]) trivial rfl rfl (has rfl) (has rfl) (aO (aD trivial) (aO (aZ) (aO (aD trivial) bX))) (sz rfl) rfl rfl rfl ?_
 revert H; refine B1 fun y34 h37 H => ?_
 revert H; refine bs fun z3 h38 H => ?_
 apply bH (ods := [_, _, _, _, _, _, _, _]) 8 0 7 bG rfl rfl rfl
 refine ND ?_
 refine M6 ?_
 intros
 refine Nc (aH6 _ _ _ _ h37) fun _ => ?_
 refine M1 ?_
 intros
 refine Z1 ?_
 refine mU ?_
 refine mU ?_
 refine mU ?_
 refine nG ?_
 refine yX (x := (⟨(⟨x33, x34, x35, x36⟩ : ScopeProg), x37, x38, x39⟩ : Scope_looker)) ?_
 revert H; refine bs fun y35 h39 H => ?_
 rcases y35 with y35 | pv18 <;> dsimp only at H
 refine Tc (ih_scope_looker_node _ _ _ _ _ h39).s ?_
 refine xB (fun v16 v17 v18 => ?_)
 refine aR 1 rfl (fun hc_v16 => ?_)
 refine aR 2 rfl (fun hc_v17 => ?_)
 refine aR 3 rfl (fun hc_v18 => ?_)
 revert H; refine B4 fun z4 h40 H => ?_
 refine Z3 ?_
 refine aG [5, 0, 6, 1, 2, 3] (by decide) ?_
 exact Tm ((k2, z4, y35.p.Free, y35.p.Nodes, y35.p.Defs, y35.p.Main, y35.sizes, y35.met, y35.defs, v16, v17, v18)) ⟨H, ls⟩
 refine Tp (ih_scope_looker_node _ _ _ _ _ h39).pan ?_
 revert H; refine B5 fun r16 H e16 => ?_
 cases e16; cases Hr6
 revert H; refine B1 fun r17 H e17 => ?_
 cases e17; cases Hr5
 cases H
 exact bZ
 exact fk
 kernel_rfl
 refine Z6 ?_
 exact Tm ((x33, x34, x35, x36, x37, x38, x39, v13, v14, v15)) (ij H)
 clear H; intro i hi; obtain ⟨x17, x18, x19, x20, x21, x22, x23, v7, v8, v9⟩ := i; subst o6; have H := Hr6; clear Hr6; try dsimp only at H
 try dsimp only
 refine aR 3 rfl (fun hc_v7 => ?_)
 refine aR 4 rfl (fun hc_v8 => ?_)
 refine aR 5 rfl (fun hc_v9 => ?_)
 refine Z7 ?_
 refine Tl (ι := Nat × Int × List ByteArray × List ScopeNode × List ScopeDef × Int × List Int × List Bool × List Bool × Value × Value × Value) (fun i => mK (fF fuel) y30 z2 i.1 i.2.1 i.2.2.1 i.2.2.2.1 i.2.2.2.2.1 i.2.2.2.2.2.1 i.2.2.2.2.2.2.1 i.2.2.2.2.2.2.2.1 i.2.2.2.2.2.2.2.2.1 = _) (fun i => i.1) (fun i => [(0, fEq (ptr p0)), (2, aA .i64 z2), (6, fEq (ptr b1)), (207, fSl bW y30.Spots), (208, aA .i64 (y30.Spots.length : Int)), (209, aA .i64 i.2.1)]) (fun i => [aC b1 51 [aA .i64 y7.Op, aA .i64 y7.N, fSl bA y7.Args, fSl (aB .i64) y7.Kids], aC p0 151 [fSl aM i.2.2.1, fSl aL i.2.2.2.1, fSl aJ i.2.2.2.2.1, aA .i64 i.2.2.2.2.2.1, fEq i.2.2.2.2.2.2.2.2.2.1, fEq i.2.2.2.2.2.2.2.2.2.2.1, fEq i.2.2.2.2.2.2.2.2.2.2.2], aC b3 99 [fSl bF y30.Chans, fSl bW y30.Spots, fSl bK y30.Rules], aE i.2.2.2.2.2.2.2.2.2.1 3 (aB .i64) i.2.2.2.2.2.2.1, aE i.2.2.2.2.2.2.2.2.2.2.1 4 cD i.2.2.2.2.2.2.2.1, aE i.2.2.2.2.2.2.2.2.2.2.2 4 cD i.2.2.2.2.2.2.2.2.1]) (fuel, 0, x17, x18, x19, x20, x21, x22, x23, v7, v8, v9) H ?_
 clear H; rintro ⟨k3, x48, x49, x50, x51, x52, x53, x54, x55, v22, v23, v24⟩ H
 replace H : mK (fF fuel) y30 z2 k3 x48 x49 x50 x51 x52 x53 x54 x55 = _ := H
 try dsimp only
 obtain _ | k3 := k3
 rw [mK] at H; cases H
 rw [mK] at H
 refine aR 3 rfl (fun hc_v22 => ?_)
 refine aR 4 rfl (fun hc_v23 => ?_)
 refine aR 5 rfl (fun hc_v24 => ?_)
 refine Z3 ?_
 refine aH ?_
 revert H; refine is (fun c15 H => ?_) fun c15 H => ?_
 refine Z3 ?_
 refine aH ?_
 revert H; refine B2 fun y36 h41 H => ?_
 refine Z2 ?_
 refine Tn (cK rfl aBB rfl) fun b5 => ?_
 refine dM (φs' := [aA .i64 y36.In, aA .i64 y36.Node]) trivial rfl rfl (has rfl) (has rfl) (aO (aD trivial) (aO (aD trivial) bX)) (sz rfl) rfl rfl rfl ?_
 refine Z6 ?_
 refine mU ?_
 refine mU ?_
 refine mU ?_
 refine nG ?_
 refine yX (x := (⟨(⟨x49, x50, x51, x52⟩ : ScopeProg), x53, x54, x55⟩ : Scope_looker)) ?_
 revert H; refine bs fun y37 h42 H => ?_
 rcases y37 with y37 | pv19 <;> dsimp only at H
 refine Tc (ih_scope_looker_node _ _ _ _ _ h42).s ?_
 refine xB (fun v25 v26 v27 => ?_)
 refine aR 1 rfl (fun hc_v25 => ?_)
 refine aR 2 rfl (fun hc_v26 => ?_)
 refine aR 3 rfl (fun hc_v27 => ?_)
 revert H; refine B4 fun z5 h43 H => ?_
 refine Z3 ?_
 refine aG [5, 0, 6, 1, 2, 3] (by decide) ?_
 exact Tm ((k3, z5, y37.p.Free, y37.p.Nodes, y37.p.Defs, y37.p.Main, y37.sizes, y37.met, y37.defs, v25, v26, v27)) ⟨H, ls⟩
 refine Tp (ih_scope_looker_node _ _ _ _ _ h42).pan ?_
 revert H; refine B5 fun r18 H e18 => ?_
 cases e18; cases Hr5
 cases H
 exact bZ
 refine Z6 ?_
 refine aG [0, 1, 3, 4, 5] (by decide) ?_
 exact Tm ((z2, x49, x50, x51, x52, x53, x54, x55, v22, v23, v24)) (ij H)
 refine Tp (aD9 _ _ _ h33).pan ?_
 revert H; refine B2 fun r19 H e19 => ?_
 cases e19; cases Hr5
 cases H
 exact bZ
 exact fk
 kernel_rfl
 exact fk
 kernel_rfl
 refine Z3 ?_
 exact Tm ((a2, a0.p.Free, a0.p.Nodes, a0.p.Defs, a0.p.Main, a0.sizes.set a1.toNat a2, a0.met.set a1.toNat true, a0.defs, v1, v2, v3)) (ij H)
 clear H; intro i hi; obtain ⟨x9, x10, x11, x12, x13, x14, x15, x16, v4, v5, v6⟩ := i; subst o5; have H := Hr5; clear Hr5; try dsimp only at H
 try dsimp only
 refine aR 2 rfl (fun hc_v4 => ?_)
 refine aR 3 rfl (fun hc_v5 => ?_)
 refine aR 4 rfl (fun hc_v6 => ?_)
 refine Z7 ?_
 refine Tl (ι := Nat × Int × List ByteArray × List ScopeNode × List ScopeDef × Int × List Int × List Bool × List Bool × Value × Value × Value) (fun i => nH (fF fuel) y7 x9 i.1 i.2.1 i.2.2.1 i.2.2.2.1 i.2.2.2.2.1 i.2.2.2.2.2.1 i.2.2.2.2.2.2.1 i.2.2.2.2.2.2.2.1 i.2.2.2.2.2.2.2.2.1 = _) (fun i => i.1) (fun i => [(0, fEq (ptr p0)), (2, aA .i64 x9), (220, fSl (aB .i64) y7.Kids), (221, aA .i64 (y7.Kids.length : Int)), (222, aA .i64 i.2.1)]) (fun i => [aC b1 51 [aA .i64 y7.Op, aA .i64 y7.N, fSl bA y7.Args, fSl (aB .i64) y7.Kids], aC p0 151 [fSl aM i.2.2.1, fSl aL i.2.2.2.1, fSl aJ i.2.2.2.2.1, aA .i64 i.2.2.2.2.2.1, fEq i.2.2.2.2.2.2.2.2.2.1, fEq i.2.2.2.2.2.2.2.2.2.2.1, fEq i.2.2.2.2.2.2.2.2.2.2.2], aE i.2.2.2.2.2.2.2.2.2.1 3 (aB .i64) i.2.2.2.2.2.2.1, aE i.2.2.2.2.2.2.2.2.2.2.1 4 cD i.2.2.2.2.2.2.2.1, aE i.2.2.2.2.2.2.2.2.2.2.2 4 cD i.2.2.2.2.2.2.2.2.1]) (fuel, 0, x10, x11, x12, x13, x14, x15, x16, v4, v5, v6) H ?_
 clear H; rintro ⟨k4, x64, x65, x66, x67, x68, x69, x70, x71, v31, v32, v33⟩ H
 replace H : nH (fF fuel) y7 x9 k4 x64 x65 x66 x67 x68 x69 x70 x71 = _ := H
 try dsimp only
 obtain _ | k4 := k4
 rw [nH] at H; cases H
 rw [nH] at H
 refine aR 2 rfl (fun hc_v31 => ?_)
 refine aR 3 rfl (fun hc_v32 => ?_)
 refine aR 4 rfl (fun hc_v33 => ?_)
 refine Z3 ?_
 refine aH ?_
 revert H; refine is (fun c16 H => ?_) fun c16 H => ?_
 refine Z3 ?_
 refine aH ?_
 revert H; refine B2 fun y38 h44 H => ?_
 refine Z8 ?_
 refine bM ?_
 refine bM ?_
 refine bM ?_
 refine bM ?_
 refine yX (x := (⟨(⟨x65, x66, x67, x68⟩ : ScopeProg), x69, x70, x71⟩ : Scope_looker)) ?_
 revert H; refine bs fun y39 h45 H => ?_
 rcases y39 with y39 | pv20 <;> dsimp only at H
 refine Tc (ih_scope_looker_node _ _ _ _ _ h45).s ?_
 refine xB (fun v34 v35 v36 => ?_)
 refine aR 1 rfl (fun hc_v34 => ?_)
 refine aR 2 rfl (fun hc_v35 => ?_)
 refine aR 3 rfl (fun hc_v36 => ?_)
 revert H; refine B4 fun z6 h46 H => ?_
 refine Z3 ?_
 refine aG [4, 0, 1, 2, 3] (by decide) ?_
 exact Tm ((k4, z6, y39.p.Free, y39.p.Nodes, y39.p.Defs, y39.p.Main, y39.sizes, y39.met, y39.defs, v34, v35, v36)) ⟨H, ls⟩
 refine Tp (ih_scope_looker_node _ _ _ _ _ h45).pan ?_
 refine Z4 ?_
 cases H
 exact bZ
 refine Z5 ?_
 refine bM ?_
 refine bM ?_
 refine bM ?_
 refine bM ?_
 refine yX (x := (⟨(⟨x65, x66, x67, x68⟩ : ScopeProg), x69, x70, x71⟩ : Scope_looker)) ?_
 cases H
 refine qF ?_
 refine aG [0] (by decide) ?_
 exact fJ (.inr rfl) rfl rfl
 refine Tp (aY _ _ h27).pan ?_
 refine Z1 ?_
 cases H
 exact bZ
 exact fk
 kernel_rfl
end Go.Proofs.YtmnbfgeljmhekaaGreat
set_option maxRecDepth 100000
set_option maxHeartbeats 2000000
namespace Go.Proofs.YtmnbfgeljmhekaaGreat
open Go.SX Go.SW Go.Dt
attribute [local irreducible] Code.wpIn wpListIn Exit.then Exit.inBlock
def pC (a0 : List Bool) (a1 : Bool) : Nat → Int → Option ((Unit) ⊕ (Int))
| 0, _ => none
| k + 1, x2 =>
 if x2 < (a0.length : Int) then
  (idx a0 x2).bind fun y1 =>
  bif a1 == y1 then
   (some x2).bind fun r => some (Sum.inr r)
  else
   (chk (x2 + 1)).bind fun z1 =>
   pC a0 a1 k z1
 else
  some (Sum.inl ())
def aBc (fuel : Nat) (a0 : List Bool) (a1 : Bool) : Option (Int) :=
 (pC a0 a1 fuel 0).bind fun o => match o with
 | Sum.inr r => some r
 | Sum.inl _ =>
 some (-1)
theorem aIw (fuel : Nat)  (a0 : List Bool) (a1 : Bool) (r : Int) (H : aBc fuel a0 a1 = some r) : FnS Tryz.prog 128 [fSl cD a0, aI a1] [] (aA .i64 r) (fun _ => []) := by
 unfold aBc at H
 refine bD Tryz.func128 rfl Tryz.ntmps128 rfl (fun β => ?_)
 revert H; refine B3 fun o1 H Hr1 => ?_
 refine aW (ι := Unit) (fun i => o1 = Sum.inl ()) (fun i => []) (fun i => []) ?_ ?_
 refine Z6 ?_
 refine Tl (ι := Nat × Int) (fun i => pC a0 a1 i.1 i.2 = _) (fun i => i.1) (fun i => [(0, fSl cD a0), (1, aI a1), (7, aA .i64 (a0.length : Int)), (8, aA .i64 i.2)]) (fun i => []) (fuel, 0) H ?_
 clear H; rintro ⟨k1, x2⟩ H
 replace H : pC a0 a1 k1 x2 = _ := H
 try dsimp only
 obtain _ | k1 := k1
 rw [pC] at H; cases H
 rw [pC] at H
 refine Z3 ?_
 refine aH ?_
 revert H; refine is (fun c1 H => ?_) fun c1 H => ?_
 refine Z3 ?_
 refine aH ?_
 revert H; refine B9 fun y1 h1 H => ?_
 refine Z2 ?_
 refine Yy (o_eqlB rfl hh hh aHr) ?_
 refine Z1 ?_
 revert H; refine cs (fun c2 H => ?_) fun c2 H => ?_
 revert H; refine B11 fun r1 H e1 => ?_
 cases e1; cases Hr1
 cases H
 exact To
 revert H; refine B5 fun z1 h2 H => ?_
 refine Z3 ?_
 exact Tm ((k1, z1)) ⟨H, ls⟩
 refine Z6 ?_
 exact Tm (()) (ij H)
 clear H; intro i hi; subst o1; have H := Hr1; clear Hr1; try dsimp only at H
 try dsimp only
 refine Z4 ?_
 cases H
 exact To
def wC (fuel : Nat) (a0 : List Bool) (a1 : Bool) : Option (Bool) :=
 (aBc fuel a0 a1).bind fun y1 =>
 some (decide (0 ≤ y1))
theorem aFa (fuel : Nat)  (a0 : List Bool) (a1 : Bool) (r : Bool) (H : wC fuel a0 a1 = some r) : FnS Tryz.prog 111 [fSl cD a0, aI a1] [] (aI r) (fun _ => []) := by
 unfold wC at H
 refine bD Tryz.func111 rfl Tryz.ntmps111 rfl (fun β => ?_)
 revert H; refine B6 fun y1 h1 H => ?_
 refine Tc (aIw _ _ _ _ h1) ?_
 refine Z4 ?_
 cases H
 exact To
def nI (fuel : Nat) (a0 : ScopeProg) : Nat → Int → Option ((Unit) ⊕ (Scope_looker ⊕ Value))
| 0, _ => none
| k + 1, x2 =>
 if x2 < (a0.Free.length : Int) then
  ((idx a0.Free x2).bind fun y4 =>
  (sK fuel y4).bind fun y5 =>
  bif y5 then
   if x2 = 0 then
    (bT true).bind fun y6 =>
    match y6 with
    | Sum.inr pv4 => ((some (Sum.inr pv4)).bind fun r => some (Sum.inr r)).bind fun r => some (Sum.inr r)
    | Sum.inl y6 =>
    some (Sum.inl ())
   else
    (chk (x2 - 1)).bind fun z1 =>
    (idx a0.Free z1).bind fun y7 =>
    (bT (slt y7 y4)).bind fun y8 =>
    match y8 with
    | Sum.inr pv5 => ((some (Sum.inr pv5)).bind fun r => some (Sum.inr r)).bind fun r => some (Sum.inr r)
    | Sum.inl y8 =>
    some (Sum.inl ())
  else
   (bT false).bind fun y9 =>
   match y9 with
   | Sum.inr pv6 => ((some (Sum.inr pv6)).bind fun r => some (Sum.inr r)).bind fun r => some (Sum.inr r)
   | Sum.inl y9 =>
   some (Sum.inl ())).bind fun o => match o with
  | Sum.inr r => some r
  | Sum.inl _ =>
  (chk (x2 + 1)).bind fun z2 =>
  nI fuel a0 k z2
 else
  some (Sum.inl ())
def wE (fuel : Nat) (a0 : ScopeProg) : Option (Scope_looker ⊕ Value) :=
 (if (a0.Free.length : Int) ≤ 12 then
  if (a0.Nodes.length : Int) ≤ 60 then
   (bT (decide ((a0.Defs.length : Int) ≤ 12))).bind fun y1 =>
   match y1 with
   | Sum.inr pv1 => (some (Sum.inr pv1)).bind fun r => some (Sum.inr r)
   | Sum.inl y1 =>
   some (Sum.inl ())
  else
   (bT false).bind fun y2 =>
   match y2 with
   | Sum.inr pv2 => (some (Sum.inr pv2)).bind fun r => some (Sum.inr r)
   | Sum.inl y2 =>
   some (Sum.inl ())
 else
  (bT false).bind fun y3 =>
  match y3 with
  | Sum.inr pv3 => (some (Sum.inr pv3)).bind fun r => some (Sum.inr r)
  | Sum.inl y3 =>
  some (Sum.inl ())).bind fun o => match o with
 | Sum.inr r => some r
 | Sum.inl _ =>
 (nI fuel a0 fuel 0).bind fun o => match o with
 | Sum.inr r => some r
 | Sum.inl _ =>
 (mk 0 (a0.Nodes.length : Int)).bind fun y10 =>
 (mk false (a0.Nodes.length : Int)).bind fun y11 =>
 (mk false (a0.Defs.length : Int)).bind fun y12 =>
 (fF fuel (⟨(⟨a0.Free, a0.Nodes, a0.Defs, a0.Main⟩ : ScopeProg), y10, y11, y12⟩ : Scope_looker) a0.Main (a0.Free.length : Int)).bind fun y13 =>
 match y13 with
 | Sum.inr pv7 => some (Sum.inr pv7)
 | Sum.inl y13 =>
 ((wC fuel y13.met false).bind fun y14 =>
 bif !y14 then
  (wC fuel y13.defs false).bind fun y15 =>
  (bT (!y15)).bind fun y16 =>
  match y16 with
  | Sum.inr pv8 => (some (Sum.inr pv8)).bind fun r => some (Sum.inr r)
  | Sum.inl y16 =>
  some (Sum.inl y13.defs)
 else
  (bT false).bind fun y17 =>
  match y17 with
  | Sum.inr pv9 => (some (Sum.inr pv9)).bind fun r => some (Sum.inr r)
  | Sum.inl y17 =>
  some (Sum.inl y13.defs)).bind fun o => match o with
 | Sum.inr r => some r
 | Sum.inl x3 =>
 some (Sum.inl (⟨(⟨y13.p.Free, y13.p.Nodes, y13.p.Defs, y13.p.Main⟩ : ScopeProg), y13.sizes, y13.met, x3⟩ : Scope_looker))
theorem zB (fuel : Nat)  (a0 : ScopeProg) (r : Scope_looker ⊕ Value) (H : wE fuel a0 = some r) : FnE Tryz.prog 96 [fSt dO a0] [] r (fun r => aF kL r) (fun r => []) := by
 unfold wE at H
 refine rH Tryz.func96 rfl Tryz.ntmps96 rfl (fun β => ?_)
 refine Z1 ?_
 refine Tn (cF rfl (has rfl) bQ) fun b1 => ?_
 revert H; refine B2 fun o1 H Hr1 => ?_
 refine aW (ι := Unit) (fun i => o1 = Sum.inl ()) (fun i => [(1, fEq (ptr b1))]) (fun i => [aC b1 26 [fSl aM a0.Free, fSl aL a0.Nodes, fSl aJ a0.Defs, aA .i64 a0.Main]]) ?_ ?_
 revert H; refine I6 (fun c1 H => ?_) fun c1 H => ?_
 revert H; refine I6 (fun c2 H => ?_) fun c2 H => ?_
 revert H; refine B5 fun y1 h1 H => ?_
 rcases y1 with y1 | pv1 <;> dsimp only at H
 refine Tc (aY _ _ h1).s ?_
 refine Z1 ?_
 exact Tm (()) (ij H)
 refine Tp (aY _ _ h1).pan ?_
 revert H; refine B1 fun r1 H e1 => ?_
 cases e1; cases Hr1
 cases H
 exact bZ
 revert H; refine B5 fun y2 h2 H => ?_
 rcases y2 with y2 | pv2 <;> dsimp only at H
 refine Tc (aY _ _ h2).s ?_
 refine Z1 ?_
 exact Tm (()) (ij H)
 refine Tp (aY _ _ h2).pan ?_
 revert H; refine B1 fun r2 H e2 => ?_
 cases e2; cases Hr1
 cases H
 exact bZ
 revert H; refine B11 fun y3 h3 H => ?_
 rcases y3 with y3 | pv3 <;> dsimp only at H
 refine Tc (aY _ _ h3).s ?_
 refine Z1 ?_
 exact Tm (()) (ij H)
 refine Tp (aY _ _ h3).pan ?_
 revert H; refine B1 fun r3 H e3 => ?_
 cases e3; cases Hr1
 cases H
 exact bZ
 clear H; intro i hi; subst o1; have H := Hr1; clear Hr1; try dsimp only at H
 try dsimp only
 revert H; refine bs fun o2 H Hr2 => ?_
 refine aW (ι := Unit) (fun i => o2 = Sum.inl ()) (fun i => [(1, fEq (ptr b1))]) (fun i => [aC b1 26 [fSl aM a0.Free, fSl aL a0.Nodes, fSl aJ a0.Defs, aA .i64 a0.Main]]) ?_ ?_
 refine Z7 ?_
 refine Tl (ι := Nat × Int) (fun i => nI fuel a0 i.1 i.2 = _) (fun i => i.1) (fun i => [(1, fEq (ptr b1)), (24, fSl aM a0.Free), (25, aA .i64 (a0.Free.length : Int)), (26, aA .i64 i.2)]) (fun i => [aC b1 26 [fSl aM a0.Free, fSl aL a0.Nodes, fSl aJ a0.Defs, aA .i64 a0.Main]]) (fuel, 0) H ?_
 clear H; rintro ⟨k1, x2⟩ H
 replace H : nI fuel a0 k1 x2 = _ := H
 try dsimp only
 obtain _ | k1 := k1
 rw [nI] at H; cases H
 rw [nI] at H
 refine Z3 ?_
 refine aH ?_
 revert H; refine is (fun c3 H => ?_) fun c3 H => ?_
 revert H; refine B3 fun o3 H Hr3 => ?_
 refine aW (ι := Unit) (fun i => o3 = Sum.inl ()) (fun i => [(1, fEq (ptr b1)), (24, fSl aM a0.Free), (25, aA .i64 (a0.Free.length : Int)), (26, aA .i64 x2)]) (fun i => [aC b1 26 [fSl aM a0.Free, fSl aL a0.Nodes, fSl aJ a0.Defs, aA .i64 a0.Main]]) ?_ ?_
 revert H; refine B3 fun y4 h4 H => ?_
 revert H; refine B7 fun y5 h5 H => ?_
 refine Tc (aHK _ _ _ h5) ?_
 refine Z1 ?_
 revert H; refine cs (fun c4 H => ?_) fun c4 H => ?_
 revert H; refine I3 (fun c5 H => ?_) fun c5 H => ?_
 revert H; refine B10 fun y6 h6 H => ?_
 rcases y6 with y6 | pv4 <;> dsimp only at H
 refine Tc (aY _ _ h6).s ?_
 refine Z3 ?_
 exact Tm (()) (ij H)
 refine Tp (aY _ _ h6).pan ?_
 revert H; refine B2 fun r4 H e4 => ?_
 cases e4; cases Hr3
 revert H; refine B3 fun r5 H e5 => ?_
 cases e5; cases Hr2
 cases H
 exact bZ
 revert H; refine B3 fun z1 h7 H => ?_
 revert H; refine B1 fun y7 h8 H => ?_
 refine Z3 ?_
 refine Yg c5 (o_lssS rfl hh hh) ?_
 revert H; refine B2 fun y8 h9 H => ?_
 rcases y8 with y8 | pv5 <;> dsimp only at H
 refine Tc (aY _ _ h9).s ?_
 refine Z3 ?_
 exact Tm (()) (ij H)
 refine Tp (aY _ _ h9).pan ?_
 revert H; refine B2 fun r6 H e6 => ?_
 cases e6; cases Hr3
 revert H; refine B3 fun r7 H e7 => ?_
 cases e7; cases Hr2
 cases H
 exact bZ
 refine Z3 ?_
 refine dS (⟨_, _, _, _, rfl, rfl, rfl, nu⟩) rfl rfl ?_
 refine dS (⟨_, _, _, _, rfl, rfl, rfl, nu⟩) rfl rfl ?_
 refine dS (⟨_, _, _, _, rfl, rfl, rfl, nu⟩) rfl rfl ?_
 refine dS (⟨_, _, _, _, rfl, rfl, rfl, nu⟩) rfl rfl ?_
 refine dS (⟨_, _, _, _, rfl, rfl, rfl, nu⟩) rfl rfl ?_
 refine dS (⟨_, _, _, _, rfl, rfl, rfl, nu⟩) rfl rfl ?_
 refine dS (⟨_, _, _, _, rfl, rfl, rfl, nu⟩) rfl rfl ?_
 refine dS (⟨_, _, _, _, rfl, rfl, rfl, nu⟩) rfl rfl ?_
 revert H; refine B2 fun y9 h10 H => ?_
 rcases y9 with y9 | pv6 <;> dsimp only at H
 refine Tc (aY _ _ h10).s ?_
 refine Z3 ?_
 exact Tm (()) (ij H)
 refine Tp (aY _ _ h10).pan ?_
 revert H; refine B2 fun r8 H e8 => ?_
 cases e8; cases Hr3
 revert H; refine B3 fun r9 H e9 => ?_
 cases e9; cases Hr2
 cases H
 exact bZ
 clear H; intro i hi; subst o3; have H := Hr3; clear Hr3; try dsimp only at H
 try dsimp only
 revert H; refine B1 fun z2 h11 H => ?_
 refine Z3 ?_
 exact Tm ((k1, z2)) ⟨H, ls⟩
 refine Z6 ?_
 exact Tm (()) (ij H)
 clear H; intro i hi; subst o2; have H := Hr2; clear Hr2; try dsimp only at H
 try dsimp only
 refine aH ?_
 revert H; refine bs fun y10 h12 H => ?_
 revert H; refine bs fun y11 h13 H => ?_
 revert H; refine bs fun y12 h14 H => ?_
 apply bH (ods := [_, _, _, _, _, _, _, _, _, _, _, _, _, _, _, _]) 16 4 5 bG rfl rfl rfl
 refine ND ?_
 refine M4 ?_
 intros
 refine Mn 1 (fun b2 => .slice (some ⟨b2, 0, none⟩) y10.length y10.length) (fun b2 => aE (.slice (some ⟨b2, 0, none⟩) y10.length y10.length) 3 (aB .i64) y10) rfl (lZ (t := (aB .i64)) (z := 0) rfl (has rfl) (et rfl) rfl sO rfl h12) (fun b2 u1 => ?_)
 refine M3 ?_
 intros
 refine Mn 2 (fun b3 => .slice (some ⟨b3, 0, none⟩) y11.length y11.length) (fun b3 => aE (.slice (some ⟨b3, 0, none⟩) y11.length y11.length) 4 cD y11) rfl (lZ (t := cD) (z := false) rfl (has rfl) (et rfl) rfl aCs rfl h13) (fun b3 u2 => ?_)
 refine M3 ?_
 intros
 refine Mn 3 (fun b4 => .slice (some ⟨b4, 0, none⟩) y12.length y12.length) (fun b4 => aE (.slice (some ⟨b4, 0, none⟩) y12.length y12.length) 4 cD y12) rfl (lZ (t := cD) (z := false) rfl (has rfl) (et rfl) rfl aCs rfl h14) (fun b4 u3 => ?_)
 refine N_y (od := od3 4 8 12 [] false (fun b2 _ b3 _ b4 _ => eY [fSl aM a0.Free, fSl aL a0.Nodes, fSl aJ a0.Defs, aA .i64 a0.Main, fEq (.slice (some ⟨b2, 0, none⟩) y10.length y10.length), fEq (.slice (some ⟨b3, 0, none⟩) y11.length y11.length), fEq (.slice (some ⟨b4, 0, none⟩) y12.length y12.length)]) (fun b2 _ b3 _ b4 _ => [])) (φ := eY [fSl aM a0.Free, fSl aL a0.Nodes, fSl aJ a0.Defs, aA .i64 a0.Main, fEq (.slice (some ⟨b2, 0, none⟩) y10.length y10.length), fEq (.slice (some ⟨b3, 0, none⟩) y11.length y11.length), fEq (.slice (some ⟨b4, 0, none⟩) y12.length y12.length)]) rfl (fun _ => rfl) trivial rfl (dV (ψs := [fSl aM a0.Free, fSl aL a0.Nodes, fSl aJ a0.Defs, aA .i64 a0.Main, fEq (.slice (some ⟨b2, 0, none⟩) y10.length y10.length), fEq (.slice (some ⟨b3, 0, none⟩) y11.length y11.length), fEq (.slice (some ⟨b4, 0, none⟩) y12.length y12.length)]) rfl aHE rfl (aV.cons (has rfl) bQ (aV.cons (has rfl) (aT (aD trivial)) (aV.cons (has rfl) (aT (aD trivial)) (aV.cons (has rfl) (aT (aD trivial)) aV.nil)))) rfl) (fun _ => ?_)
 refine N_new (od := odN3 4 8 12 [4] true (fun b2 _ b3 _ b4 _ b5 _ => fEq (ptr b5)) (fun b2 _ b3 _ b4 _ b5 _ => [aC b5 151 [fSl aM a0.Free, fSl aL a0.Nodes, fSl aJ a0.Defs, aA .i64 a0.Main, fEq (.slice (some ⟨b2, 0, none⟩) y10.length y10.length), fEq (.slice (some ⟨b3, 0, none⟩) y11.length y11.length), fEq (.slice (some ⟨b4, 0, none⟩) y12.length y12.length)]])) (p := 4) (f := fun b5 => ptr b5) (τ := fun b5 => aC b5 151 [fSl aM a0.Free, fSl aL a0.Nodes, fSl aJ a0.Defs, aA .i64 a0.Main, fEq (.slice (some ⟨b2, 0, none⟩) y10.length y10.length), fEq (.slice (some ⟨b3, 0, none⟩) y11.length y11.length), fEq (.slice (some ⟨b4, 0, none⟩) y12.length y12.length)]) rfl (fun _ => rfl) (fun _ => rfl) trivial rfl rfl (cF rfl (has rfl) bQ) (fun b5 u4 => ?_)
 refine D1 14 b5 _ (fun b5 _ => fEq (ptr b5)) rfl (aAY rfl hh) (fun _ => ?_)
 refine Z1 ?_
 generalize (Value.slice (some ⟨b2, 0, none⟩) _ _) = v1
 refine aR 1 rfl (fun hc_v1 => ?_)
 generalize (Value.slice (some ⟨b3, 0, none⟩) _ _) = v2
 refine aR 2 rfl (fun hc_v2 => ?_)
 generalize (Value.slice (some ⟨b4, 0, none⟩) _ _) = v3
 refine aR 3 rfl (fun hc_v3 => ?_)
 refine Z8 ?_
 refine eF ?_
 refine eF ?_
 refine eF ?_
 refine bM ?_
 refine yX (x := (⟨(⟨a0.Free, a0.Nodes, a0.Defs, a0.Main⟩ : ScopeProg), y10, y11, y12⟩ : Scope_looker)) ?_
 revert H; refine bs fun y13 h15 H => ?_
 rcases y13 with y13 | pv7 <;> dsimp only at H
 refine Tc (aD4 _ _ _ _ _ _ h15).s ?_
 refine xB (fun v4 v5 v6 => ?_)
 refine aR 1 rfl (fun hc_v4 => ?_)
 refine aR 2 rfl (fun hc_v5 => ?_)
 refine aR 3 rfl (fun hc_v6 => ?_)
 revert H; refine B1 fun o4 H Hr4 => ?_
 refine aW (ι := List Bool) (fun i => o4 = Sum.inl i) (fun i => [(5, fEq (ptr b5))]) (fun i => [aC b5 151 [fSl aM y13.p.Free, fSl aL y13.p.Nodes, fSl aJ y13.p.Defs, aA .i64 y13.p.Main, fEq v4, fSl cD y13.met, fSl cD i], aC b1 26 [fSl aM a0.Free, fSl aL a0.Nodes, fSl aJ a0.Defs, aA .i64 a0.Main], aE v4 3 (aB .i64) y13.sizes]) ?_ ?_
 refine Z5 ?_
 refine eH ?_
 refine cR (φ := fSl cD y13.met) (v := v5) [74] cO fz ?_
 refine hC (φs' := [fSl aM y13.p.Free, fSl aL y13.p.Nodes, fSl aJ y13.p.Defs, aA .i64 y13.p.Main, fEq v4, fSl cD y13.met, fEq v6]) (i := 5) rfl rfl ?_
 refine cS ?_
 revert H; refine bs fun y14 h16 H => ?_
 refine Tc (aFa _ _ _ _ h16) ?_
 refine Z2 ?_
 revert H; refine cs (fun c6 H => ?_) fun c6 H => ?_
 refine Z4 ?_
 refine eH ?_
 refine cR (φ := fSl cD y13.defs) (v := v6) [81] cO fz ?_
 refine hC (φs' := [fSl aM y13.p.Free, fSl aL y13.p.Nodes, fSl aJ y13.p.Defs, aA .i64 y13.p.Main, fEq v4, fSl cD y13.met, fSl cD y13.defs]) (i := 6) rfl rfl ?_
 refine cS ?_
 revert H; refine bs fun y15 h17 H => ?_
 refine Tc (aFa _ _ _ _ h17) ?_
 revert H; refine B2 fun y16 h18 H => ?_
 rcases y16 with y16 | pv8 <;> dsimp only at H
 refine Tc (aY _ _ h18).s ?_
 refine Z1 ?_
 refine aG [0, 2, 1] (by decide) ?_
 exact Tm (y13.defs) (ij H)
 refine Tp (aY _ _ h18).pan ?_
 revert H; refine B1 fun r10 H e10 => ?_
 cases e10; cases Hr4
 cases H
 exact bZ
 revert H; refine B7 fun y17 h19 H => ?_
 rcases y17 with y17 | pv9 <;> dsimp only at H
 refine Tc (aY _ _ h19).s ?_
 refine Z1 ?_
 refine eH ?_
 refine cR (φ := fSl cD y13.defs) (v := v6) [] cO (fun _ h => nomatch h) ?_
 refine hC (φs' := [fSl aM y13.p.Free, fSl aL y13.p.Nodes, fSl aJ y13.p.Defs, aA .i64 y13.p.Main, fEq v4, fSl cD y13.met, fSl cD y13.defs]) (i := 6) rfl rfl ?_
 refine cS ?_
 refine aG [0, 2, 1] (by decide) ?_
 exact Tm (y13.defs) (ij H)
 refine Tp (aY _ _ h19).pan ?_
 revert H; refine B1 fun r11 H e11 => ?_
 cases e11; cases Hr4
 cases H
 exact bZ
 clear H; intro x3 hi; subst o4; have H := Hr4; clear Hr4; try dsimp only at H
 try dsimp only
 refine Z5 ?_
 refine eH ?_
 refine cR (φ := fSl (aB .i64) y13.sizes) (v := v4) [] cO (fun _ h => nomatch h) ?_
 refine hC (φs' := [fSl aM y13.p.Free, fSl aL y13.p.Nodes, fSl aJ y13.p.Defs, aA .i64 y13.p.Main, fSl (aB .i64) y13.sizes, fSl cD y13.met, fSl cD x3]) (i := 4) rfl rfl ?_
 refine cS ?_
 refine cR (φ := aF kL (⟨(⟨y13.p.Free, y13.p.Nodes, y13.p.Defs, y13.p.Main⟩ : ScopeProg), y13.sizes, y13.met, x3⟩ : Scope_looker)) (v := ptr b5) [5, 86, 2] (iG aN.rfl) fz ?_
 refine cS ?_
 cases H
 refine qF ?_
 refine aG [] (by decide) ?_
 exact To
 refine Tp (aD4 _ _ _ _ _ _ h15).pan ?_
 refine Z1 ?_
 cases H
 exact bZ
 exact fk
 kernel_rfl
def aBe (fuel : Nat) (a0 : ScopeProg) (a1 : Scope_looker → Option Bool) : Option (Bool × Int) :=
 (wE fuel (⟨a0.Free, a0.Nodes, a0.Defs, a0.Main⟩ : ScopeProg)).bind fun y1 =>
 match y1 with
 | Sum.inr pv1 => (unI 167 pv1).bind fun e1 => some (false, e1)
 | Sum.inl y1 =>
 (a1 y1).bind fun y2 =>
 some (y2, 0)
theorem aJh (fuel : Nat)  (a0 : ScopeProg) (a1 : Scope_looker → Option Bool) (r : Bool × Int) (H : aBe fuel a0 a1 = some r) : FnS Tryz.prog 76 [fSt dO a0, fFn Tryz.prog (fun (x : Scope_looker) => [aF kL x]) (fun (r : Bool) => aI r) a1] [] (dG [aI r.1, aA .i64 r.2]) (fun _ => []) := by
 unfold aBe at H
 refine tN Tryz.func76 rfl Tryz.ntmps76 rfl (fun β => ?_)
 refine Z1 ?_
 refine Tn (cF rfl (has rfl) bQ) fun b1 => ?_
 refine Z1 ?_
 refine Tn (cK rfl aEc rfl) fun b2 => ?_
 refine Z2 ?_
 refine aGa trivial rfl rfl (iI.cons (has rfl) iI.nil) ?_
 revert H; refine B4 fun y1 h1 H => ?_
 rcases y1 with y1 | pv1 <;> dsimp only at H
 refine Tc (zB _ _ _ h1).s ?_
 revert H; refine bs fun y2 h2 H => ?_
 refine tH y1 trivial rfl rfl rfl (has rfl) (aK.cons (has rfl) aK.nil) h2 ?_
 refine Z1 ?_
 refine dC (φs' := [aA .i64 0]) trivial rfl rfl (has rfl) (has rfl) (aD trivial) (sz rfl) rfl rfl ?_
 refine Z2 ?_
 cases H
 refine aG [0] (by decide) ?_
 exact aDu (aAC (u := .returning) (by simp) rfl (bO rfl) rfl (sc rfl) (cb rfl) (aEu b2 0) rfl rfl)
 refine Tp (zB _ _ _ h1).pan ?_
 refine Z1 ?_
 have H0 := H; clear H; obtain ⟨e1, h3, H⟩ := bind_some H0; clear H0; have hv_e1 := aDp h3; subst hv_e1
 cases H
 refine aG [0] (by decide) ?_
 exact aEM (aAC (u := .panicking [{ v := .iface 167 (.agg #[.int .i64 e1]), recovered := false }]) (by simp) rfl (bO rfl) rfl (sc rfl) (cb rfl) (aEC b2 0 e1) rfl rfl)
def aAB (a0 : Scope_looker) : Option (Bool) :=
 some true
theorem aGS  (a0 : Scope_looker) (r : Bool) (H : aAB a0 = some r) : FnS Tryz.prog 77 [aF kL a0] [] (aI r) (fun _ => []) := by
 unfold aAB at H
 refine bD Tryz.func77 rfl Tryz.ntmps77 rfl (fun β => ?_)
 refine Z7 ?_
 cases H
 exact To
def sJ (fuel : Nat) (a0 : ScopeProg) : Option (Int) :=
 (aBe fuel (⟨a0.Free, a0.Nodes, a0.Defs, a0.Main⟩ : ScopeProg) (fun x => aAB x)).bind fun y1 =>
 some y1.2
theorem aB7 (fuel : Nat)  (a0 : ScopeProg) (r : Int) (H : sJ fuel a0 = some r) : FnS Tryz.prog 35 [fSt dO a0] [] (aA .i64 r) (fun _ => []) := by
 unfold sJ at H
 refine bD Tryz.func35 rfl Tryz.ntmps35 rfl (fun β => ?_)
 refine Z1 ?_
 refine Tn (cF rfl (has rfl) bQ) fun b1 => ?_
 revert H; refine B4 fun y1 h1 H => ?_
 refine gS trivial rfl rfl rfl (has rfl) (aK.cons (has rfl) (aK.cons (dA rfl (oI (cb rfl) (fun x r hx => aGS x r hx))) aK.nil)) rfl (cb rfl) (aJh fuel (⟨a0.Free, a0.Nodes, a0.Defs, a0.Main⟩ : ScopeProg) (fun x => aAB x) y1 h1) rfl ?_
 refine Z11 ?_
 cases H
 refine aG [] (by decide) ?_
 exact To
def zC (fuel : Nat) (a0 : ScopeProg) (a1 : Scope_looker → Option (List Int)) : Option ((List Int) × Int) :=
 (wE fuel (⟨a0.Free, a0.Nodes, a0.Defs, a0.Main⟩ : ScopeProg)).bind fun y1 =>
 match y1 with
 | Sum.inr pv1 => (unI 167 pv1).bind fun e1 => some ([], e1)
 | Sum.inl y1 =>
 (a1 y1).bind fun y2 =>
 some (y2, 0)
theorem aHO (fuel : Nat)  (a0 : ScopeProg) (a1 : Scope_looker → Option (List Int)) (r : (List Int) × Int) (H : zC fuel a0 a1 = some r) : FnS Tryz.prog 112 [fSt dO a0, fFn Tryz.prog (fun (x : Scope_looker) => [aF kL x]) (fun (r : List Int) => fSl (aB .i64) r) a1] [] (dG [fSl (aB .i64) r.1, aA .i64 r.2]) (fun _ => []) := by
 unfold zC at H
 refine tN Tryz.func112 rfl Tryz.ntmps112 rfl (fun β => ?_)
 refine Z1 ?_
 refine Tn (cF rfl (has rfl) bQ) fun b1 => ?_
 refine Z1 ?_
 refine Tn (cK rfl aEc rfl) fun b2 => ?_
 refine Z2 ?_
 refine aGa trivial rfl rfl (iI.cons (has rfl) iI.nil) ?_
 revert H; refine B4 fun y1 h1 H => ?_
 rcases y1 with y1 | pv1 <;> dsimp only at H
 refine Tc (zB _ _ _ h1).s ?_
 revert H; refine bs fun y2 h2 H => ?_
 refine tH y1 trivial rfl rfl rfl (has rfl) (aK.cons (has rfl) aK.nil) h2 ?_
 refine Z1 ?_
 refine dC (φs' := [aA .i64 0]) trivial rfl rfl (has rfl) (has rfl) (aD trivial) (sz rfl) rfl rfl ?_
 refine Z2 ?_
 cases H
 refine aG [0] (by decide) ?_
 exact aDu (aAC (u := .returning) (by simp) rfl (bO rfl) rfl (sc rfl) (cb rfl) (aEu b2 0) rfl rfl)
 refine Tp (zB _ _ _ h1).pan ?_
 refine Z1 ?_
 have H0 := H; clear H; obtain ⟨e1, h3, H⟩ := bind_some H0; clear H0; have hv_e1 := aDp h3; subst hv_e1
 cases H
 refine aG [0] (by decide) ?_
 exact aEM (aAC (u := .panicking [{ v := .iface 167 (.agg #[.int .i64 e1]), recovered := false }]) (by simp) rfl (jF rfl eG) rfl (sc rfl) (cb rfl) (aEC b2 0 e1) rfl rfl)
def mR (a0 : Scope_looker) (w0 : ScopeProg) (w1 : Scope_looker × Int → Option Int) : Nat → (List Int) → Int → Option (List Int)
| 0, _, _ => none
| k + 1, x4, x5 =>
 if x5 < (w0.Nodes.length : Int) then
  (w1 (a0, x5)).bind fun y1 =>
  (dN (x4 ++ [y1])).bind fun z1 =>
  (chk (x5 + 1)).bind fun z2 =>
  mR a0 w0 w1 k z1 z2
 else
  some x4
def yI (fuel : Nat) (a0 : Scope_looker) (w0 : ScopeProg) (w1 : Scope_looker × Int → Option Int) : Option (List Int) :=
 (mR a0 w0 w1 fuel [] 0).bind fun x1 =>
 some x1
theorem aHv (fuel : Nat)  (a0 : Scope_looker) (w0 : ScopeProg) (w1 : Scope_looker × Int → Option Int) (r : List Int) (H : yI fuel a0 w0 w1 = some r) : FnS Tryz.prog 113 [aF kL a0, aF dO w0, aF (tFn Tryz.prog (fun (x : Scope_looker × Int) => [aF kL x.1, aA .i64 x.2]) (fun (r : Int) => aA .i64 r)) w1] [] (fSl (aB .i64) r) (fun _ => []) := by
 unfold yI at H
 refine bD Tryz.func113 rfl Tryz.ntmps113 rfl (fun β => ?_)
 revert H; refine B6 fun o1 H Hr1 => ?_
 refine aW (ι := List Int × Value) (fun i => o1 = i.1) (fun i => [(5, fEq i.2)]) (fun i => [aE i.2 3 (aB .i64) i.1]) ?_ ?_
 refine Z7 ?_
 refine qL (aB .i64) 3 ?_
 refine Tl (ι := Nat × List Int × Int × Value) (fun i => mR a0 w0 w1 i.1 i.2.1 i.2.2.1 = _) (fun i => i.1) (fun i => [(0, aF kL a0), (2, aF (tFn Tryz.prog (fun (x : Scope_looker × Int) => [aF kL x.1, aA .i64 x.2]) (fun (r : Int) => aA .i64 r)) w1), (5, fEq i.2.2.2), (9, aA .i64 (w0.Nodes.length : Int)), (10, aA .i64 i.2.2.1)]) (fun i => [aE i.2.2.2 3 (aB .i64) i.2.1]) (fuel, [], 0, (.slice none 0 0)) H ?_
 clear H; rintro ⟨k1, x4, x5, v3⟩ H
 replace H : mR a0 w0 w1 k1 x4 x5 = _ := H
 try dsimp only
 obtain _ | k1 := k1
 rw [mR] at H; cases H
 rw [mR] at H
 refine aR 0 rfl (fun hc_v3 => ?_)
 refine Z3 ?_
 refine aH ?_
 revert H; refine is (fun c1 H => ?_) fun c1 H => ?_
 refine Z3 ?_
 refine aH ?_
 revert H; refine B10 fun y1 h1 H => ?_
 refine tH (a0, x5) trivial rfl rfl rfl (has rfl) (aK.cons (has rfl) (aK.cons (has rfl) aK.nil)) h1 ?_
 refine Tn (cM (t := (aB .i64)) (xs := [y1]) rfl (et rfl) (aS.cons rfl (has rfl) (aT (aD trivial)) aS.nil) rfl rfl rfl) fun b1 => ?_
 generalize (Value.slice (some ⟨b1, 0, none⟩) _ _) = v4
 refine aR 0 rfl (fun hc_v4 => ?_)
 revert H; refine bs fun z1 h2 H => ?_
 refine aBD trivial rfl rfl rfl (has rfl) (has rfl) (et rfl) rfl h2 (fun v5 => ?_)
 refine aR 0 rfl (fun hc_v5 => ?_)
 revert H; refine B5 fun z2 h3 H => ?_
 refine Z3 ?_
 exact Tm ((k1, z1, z2, v5)) ⟨H, ls⟩
 refine Z6 ?_
 exact Tm ((x4, v3)) (ij H)
 clear H; intro i hi; obtain ⟨x1, v1⟩ := i; subst o1; have H := Hr1; clear Hr1; try dsimp only at H
 try dsimp only
 refine aR 0 rfl (fun hc_v1 => ?_)
 refine Z5 ?_
 refine cR (φ := fSl (aB .i64) x1) (v := v1) [5, 21, 4] cO fz ?_
 refine cS ?_
 cases H
 exact To
def aAP (fuel : Nat) (a0 : ScopeProg) (a1 : Scope_looker × Int → Option Int) : Option ((List Int) × Int) :=
 (zC fuel (⟨a0.Free, a0.Nodes, a0.Defs, a0.Main⟩ : ScopeProg) (fun x => yI fuel x (⟨a0.Free, a0.Nodes, a0.Defs, a0.Main⟩ : ScopeProg) a1)).bind fun y1 =>
 some (y1.1, y1.2)
theorem aGw (fuel : Nat)  (a0 : ScopeProg) (a1 : Scope_looker × Int → Option Int) (r : (List Int) × Int) (H : aAP fuel a0 a1 = some r) : FnS Tryz.prog 97 [fSt dO a0, fFn Tryz.prog (fun (x : Scope_looker × Int) => [aF kL x.1, aA .i64 x.2]) (fun (r : Int) => aA .i64 r) a1] [] (dG [fSl (aB .i64) r.1, aA .i64 r.2]) (fun _ => []) := by
 unfold aAP at H
 refine bD Tryz.func97 rfl Tryz.ntmps97 rfl (fun β => ?_)
 refine Z1 ?_
 refine Tn (cF rfl (has rfl) bQ) fun b1 => ?_
 refine Tn (cF rfl (has rfl) (aT (aBM))) fun b2 => ?_
 refine Z5 ?_
 refine dH ?_
 refine cR (φ := aF dO (⟨a0.Free, a0.Nodes, a0.Defs, a0.Main⟩ : ScopeProg)) (v := ptr b1) [2] (iG aN.rfl) fz ?_
 refine cS ?_
 refine cR (φ := aF (tFn Tryz.prog (fun (x : Scope_looker × Int) => [aF kL x.1, aA .i64 x.2]) (fun (r : Int) => aA .i64 r)) a1) (v := ptr b2) [3] (iG aN.rfl) fz ?_
 refine cS ?_
 refine Yy (uZ rfl (aK.cons hh (aK.cons hh aK.nil))) ?_
 revert H; refine bs fun y1 h1 H => ?_
 refine gS trivial rfl rfl rfl (has rfl) (aK.cons (has rfl) (aK.cons (dA rfl (ent_fn (cb rfl) (fun x r hx => aHv fuel x (⟨a0.Free, a0.Nodes, a0.Defs, a0.Main⟩ : ScopeProg) a1 r hx))) aK.nil)) rfl (cb rfl) (aHO fuel (⟨a0.Free, a0.Nodes, a0.Defs, a0.Main⟩ : ScopeProg) (fun x => yI fuel x (⟨a0.Free, a0.Nodes, a0.Defs, a0.Main⟩ : ScopeProg) a1) y1 h1) rfl ?_
 refine Z6 ?_
 cases H
 exact gM rfl (bO rfl) (bO rfl) rfl
def sU (a0 : Scope_looker) (a1 : Int) : Option (Int) :=
 (idx a0.sizes a1).bind fun y1 =>
 some y1
theorem aG5  (a0 : Scope_looker) (a1 : Int) (r : Int) (H : sU a0 a1 = some r) : FnS Tryz.prog 98 [aF kL a0, aA .i64 a1] [] (aA .i64 r) (fun _ => []) := by
 unfold sU at H
 refine bD Tryz.func98 rfl Tryz.ntmps98 rfl (fun β => ?_)
 revert H; refine B9 fun y1 h1 H => ?_
 refine Z5 ?_
 cases H
 exact To
def uY (fuel : Nat) (a0 : ScopeProg) : Option ((List Int) × Int) :=
 (aAP fuel (⟨a0.Free, a0.Nodes, a0.Defs, a0.Main⟩ : ScopeProg) (fun x => sU x.1 x.2)).bind fun y1 =>
 some (y1.1, y1.2)
theorem aIr (fuel : Nat)  (a0 : ScopeProg) (r : (List Int) × Int) (H : uY fuel a0 = some r) : FnS Tryz.prog 78 [fSt dO a0] [] (dG [fSl (aB .i64) r.1, aA .i64 r.2]) (fun _ => []) := by
 unfold uY at H
 refine bD Tryz.func78 rfl Tryz.ntmps78 rfl (fun β => ?_)
 refine Z1 ?_
 refine Tn (cF rfl (has rfl) bQ) fun b1 => ?_
 revert H; refine B5 fun y1 h1 H => ?_
 refine gS trivial rfl rfl rfl (has rfl) (aK.cons (has rfl) (aK.cons (dA rfl (oI (cb rfl) (fun x r hx => aG5 x.1 x.2 r hx))) aK.nil)) rfl (cb rfl) (aGw fuel (⟨a0.Free, a0.Nodes, a0.Defs, a0.Main⟩ : ScopeProg) (fun x => sU x.1 x.2) y1 h1) rfl ?_
 refine Z6 ?_
 cases H
 refine aG [] (by decide) ?_
 exact gM rfl (bO rfl) (bO rfl) rfl
def qC {σ : Type} (Y : Int → σ → Option σ) (y1 : ScopeDef) : Nat → Int → σ → Option (σ)
| 0, _, _ => none
| k + 1, x3, x4 =>
 if x3 < (y1.Spots.length : Int) then
  (idx y1.Spots x3).bind fun y2 =>
  (Y y2.Node x4).bind fun y3 =>
  (chk (x3 + 1)).bind fun z1 =>
  qC Y y1 k z1 y3
 else
  some x4
def sE {σ : Type} (fuel : Nat) (Y : Int → σ → Option σ) (s0 : σ) (w0 : Usage_text) (w1 : Int) : Option (σ) :=
 (idx w0.ScopeProg.Defs w1).bind fun y1 =>
 qC Y y1 fuel 0 s0
theorem aC9 (fuel : Nat) {σ : Type} (J : σ → Tk) (Y : Int → σ → Option σ) (s0 : σ) (w0 : Usage_text) (w1 : Int) (r : σ) (H : sE fuel Y s0 w0 w1 = some r) : FnS Tryz.prog 101 [jU Tryz.prog (fun (x : Int) => [aA .i64 x]) Y J, aF (fN eE) w0, aF (aB .i64) w1] [J s0] (dG []) (fun _ => [J r]) := by
 unfold sE at H
 refine bD Tryz.func101 rfl Tryz.ntmps101 rfl (fun β => ?_)
 refine aH ?_
 revert H; refine bs fun y1 h1 H => ?_
 apply bH (ods := [_, _, _, _, _, _, _, _, _, _, _]) 11 0 1 bG rfl rfl rfl
 refine ND ?_
 refine M8 ?_
 intros
 refine M3 ?_
 intros
 refine Z3 ?_
 refine Tl (ι := Nat × Int × σ) (fun i => qC Y y1 i.1 i.2.1 i.2.2 = _) (fun i => i.1) (fun i => [(0, jU Tryz.prog (fun (x : Int) => [aA .i64 x]) Y J), (14, fSl bW y1.Spots), (15, aA .i64 (y1.Spots.length : Int)), (16, aA .i64 i.2.1)]) (fun i => [J i.2.2]) (fuel, 0, s0) H ?_
 clear H; rintro ⟨k1, x3, x4⟩ H
 replace H : qC Y y1 k1 x3 x4 = _ := H
 try dsimp only
 obtain _ | k1 := k1
 rw [qC] at H; cases H
 rw [qC] at H
 refine Z3 ?_
 refine aH ?_
 revert H; refine is (fun c1 H => ?_) fun c1 H => ?_
 refine Z3 ?_
 refine aH ?_
 revert H; refine B2 fun y2 h2 H => ?_
 refine Z2 ?_
 refine Tn (cK rfl aBB rfl) fun b1 => ?_
 refine dM (φs' := [aA .i64 y2.In, aA .i64 y2.Node]) trivial rfl rfl (has rfl) (has rfl) (aO (aD trivial) (aO (aD trivial) bX)) (sz rfl) rfl rfl rfl ?_
 refine Z5 ?_
 refine dH ?_
 revert H; refine bs fun y3 h3 H => ?_
 refine zO y2.Node trivial rfl rfl rfl (has rfl) (aK.cons (has rfl) aK.nil) h3 ?_
 revert H; refine B7 fun z1 h4 H => ?_
 refine Z3 ?_
 refine aG [0] (by decide) ?_
 exact Tm ((k1, z1, y3)) ⟨H, ls⟩
 refine Z5 ?_
 cases H
 exact fJ (.inr rfl) rfl rfl
 exact fk
 kernel_rfl
def qJ (a0 : Usage_text) (a1 : Int) : Option (Usage_text × Int) :=
 some (a0, a1)
theorem aBk  (a0 : Usage_text) (a1 : Int) (r : Usage_text × Int) (H : qJ a0 a1 = some r) : FnS Tryz.prog 83 [aF eE a0, aA .i64 a1] [] (cU 101 [aF (fN eE) r.1, aF (aB .i64) r.2]) (fun _ => []) := by
 unfold qJ at H
 refine bD Tryz.func83 rfl Tryz.ntmps83 rfl (fun β => ?_)
 refine Z1 ?_
 refine Tn (cF rfl (has rfl) (aT (tZ))) fun b1 => ?_
 refine Tn (cF rfl (has rfl) (aT (aD trivial))) fun b2 => ?_
 refine Z3 ?_
 refine dH ?_
 refine cR (φ := aF (fN eE) a0) (v := ptr b1) [2] (iG aN.rfl) fz ?_
 refine cS ?_
 refine cR (φ := aF (aB .i64) a1) (v := ptr b2) [3] (iG aN.rfl) fz ?_
 refine cS ?_
 refine Yy (uZ rfl (aK.cons hh (aK.cons hh aK.nil))) ?_
 refine Z3 ?_
 cases H
 exact To
def nN {σ : Type} (Y : Int → σ → Option σ) (y1 : ScopeNode) : Nat → Int → σ → Option (σ)
| 0, _, _ => none
| k + 1, x4, x5 =>
 if x4 < (y1.Kids.length : Int) then
  (idx y1.Kids x4).bind fun y2 =>
  (Y y2 x5).bind fun y3 =>
  (chk (x4 + 1)).bind fun z1 =>
  nN Y y1 k z1 y3
 else
  some x5
def uV {σ : Type} (Y : Int → σ → Option σ) (x6 : Int) (x8 : σ) : Option (σ) :=
 (Y x6 x8).bind fun y6 =>
 some y6
def qB {σ : Type} (Y : Int → σ → Option σ) (y7 : ScopeDef) : Nat → Int → σ → Option (σ)
| 0, _, _ => none
| k + 1, x12, x13 =>
 if x12 < (y7.Rules.length : Int) then
  (idx y7.Rules x12).bind fun y8 =>
  (Y y8.Node x13).bind fun y9 =>
  (chk (x12 + 1)).bind fun z2 =>
  qB Y y7 k z2 y9
 else
  some x13
def xE {σ : Type} (fuel : Nat) (Y : Int → σ → Option σ) (s0 : σ) (w0 : Usage_text) (w1 : Int) : Option (σ) :=
 (idx w0.ScopeProg.Nodes w1).bind fun y1 =>
 (nN Y y1 fuel 0 s0).bind fun x1 =>
 if y1.Op ≠ 4 then
  some x1
 else
  (qJ w0 y1.N).bind fun y4 =>
  (sE fuel (fun (x : Int) (t : σ) => uV Y x t) x1 y4.1 y4.2).bind fun y5 =>
  (idx w0.ScopeProg.Defs y1.N).bind fun y7 =>
  qB Y y7 fuel 0 y5
theorem aG8 (fuel : Nat) {σ : Type} (J : σ → Tk) (Y : Int → σ → Option σ) (s0 : σ) (w0 : Usage_text) (w1 : Int) (r : σ) (H : xE fuel Y s0 w0 w1 = some r) : FnS Tryz.prog 114 [jU Tryz.prog (fun (x : Int) => [aA .i64 x]) Y J, aF (fN eE) w0, aF (aB .i64) w1] [J s0] (dG []) (fun _ => [J r]) := by
 unfold xE at H
 refine tN Tryz.func114 rfl Tryz.ntmps114 rfl (fun β => ?_)
 refine Z1 ?_
 refine Tn (cF rfl (has rfl) (aT (aHH))) fun b1 => ?_
 refine Z1 ?_
 refine aH ?_
 revert H; refine bs fun y1 h1 H => ?_
 apply bH (ods := [_, _, _, _, _, _, _, _, _, _]) 10 1 3 bG rfl rfl rfl
 refine ND ?_
 refine M8 ?_
 intros
 refine Mn 2 (fun b2 => ptr b2) (fun b2 => aC b2 51 [aA .i64 0, aA .i64 0, fEq (.slice none 0 0), fEq (.slice none 0 0)]) rfl (cK rfl pN rfl) (fun b2 u1 => ?_)
 refine wF (od := od1 8 [2] true (fun b2 _ => fAny) (fun b2 _ => [aC b2 51 [aA .i64 y1.Op, aA .i64 y1.N, fSl bA y1.Args, fSl (aB .i64) y1.Kids]])) (p := 2) (φs' := [aA .i64 y1.Op, aA .i64 y1.N, fSl bA y1.Args, fSl (aB .i64) y1.Kids]) rfl (fun _ => rfl) (fun _ => rfl) trivial rfl rfl rfl (has rfl) (has rfl) (aO (aD trivial) (aO (aD trivial) (aO (aZ) (aO (aZ) bX)))) (sz rfl) rfl rfl rfl (fun _ => ?_)
 revert H; refine B2 fun o1 H Hr1 => ?_
 refine aW (ι := σ) (fun i => o1 = i) (fun i => [(1, aF (fN eE) w0), (3, fEq (ptr b1)), (4, fEq (ptr b2))]) (fun i => [aC b1 158 [jU Tryz.prog (fun (x : Int) => [aA .i64 x]) Y J], aC b2 51 [aA .i64 y1.Op, aA .i64 y1.N, fSl bA y1.Args, fSl (aB .i64) y1.Kids], J i]) ?_ ?_
 refine Z7 ?_
 refine aG [0, 2, 1] (by decide) ?_
 refine Tl (ι := Nat × Int × σ) (fun i => nN Y y1 i.1 i.2.1 i.2.2 = _) (fun i => i.1) (fun i => [(1, aF (fN eE) w0), (3, fEq (ptr b1)), (4, fEq (ptr b2)), (19, fSl (aB .i64) y1.Kids), (20, aA .i64 (y1.Kids.length : Int)), (21, aA .i64 i.2.1)]) (fun i => [aC b1 158 [jU Tryz.prog (fun (x : Int) => [aA .i64 x]) Y J], aC b2 51 [aA .i64 y1.Op, aA .i64 y1.N, fSl bA y1.Args, fSl (aB .i64) y1.Kids], J i.2.2]) (fuel, 0, s0) H ?_
 clear H; rintro ⟨k1, x4, x5⟩ H
 replace H : nN Y y1 k1 x4 x5 = _ := H
 try dsimp only
 obtain _ | k1 := k1
 rw [nN] at H; cases H
 rw [nN] at H
 refine Z3 ?_
 refine aH ?_
 revert H; refine is (fun c1 H => ?_) fun c1 H => ?_
 refine Z3 ?_
 refine aH ?_
 revert H; refine B2 fun y2 h2 H => ?_
 refine Z7 ?_
 refine eH ?_
 revert H; refine bs fun y3 h3 H => ?_
 refine zO y2 trivial rfl rfl rfl (has rfl) (aK.cons (has rfl) aK.nil) h3 ?_
 revert H; refine B7 fun z1 h4 H => ?_
 refine Z3 ?_
 refine aG [1, 2, 0] (by decide) ?_
 exact Tm ((k1, z1, y3)) ⟨H, ls⟩
 refine Z6 ?_
 exact Tm (x5) (ij H)
 clear H; intro x1 hi; subst o1; have H := Hr1; clear Hr1; try dsimp only at H
 try dsimp only
 refine aH ?_
 revert H; refine I5 (fun c2 H => ?_) fun c2 H => ?_
 refine Z2 ?_
 cases H
 refine aG [2] (by decide) ?_
 exact aC1 [] (.inl rfl) rfl rfl rfl
 refine Z3 ?_
 refine aH ?_
 revert H; refine B4 fun y4 h5 H => ?_
 refine Tc (aBk _ _ _ h5) ?_
 refine Z2 ?_
 refine T_sub [(1, aF (fN eE) w0), (3, fEq (ptr b1)), (4, fEq (ptr b2)), (30, fEq (ptr b2)), (31, aA .i64 y1.Op), (32, aI (decide (y1.Op ≠ 4))), (33, aF eE w0), (34, fEq (.pointer (some ⟨b2, 1, none⟩))), (35, aA .i64 y1.N), (36, cU 101 [aF (fN eE) y4.1, aF (aB .i64) y4.2])] (Sc (Sc (Sc (Sc (Sc (Sc (Sc (Sc (Sc (Sc fY.nil)))))))))) ?_
 revert H; refine bs fun y5 h6 H => ?_
 refine aA4 (s := x1) (s' := y5) (fun (x : Int) => [aA .i64 x]) (fun (x : Int) (t : σ) => uV Y x t) (fun (t : σ) => [aC b1 158 [jU Tryz.prog (fun (x : Int) => [aA .i64 x]) Y J], aC b2 51 [aA .i64 y1.Op, aA .i64 y1.N, fSl bA y1.Args, fSl (aB .i64) y1.Kids], J t]) (has rfl) (cb rfl) rfl (fun _ => rfl) rfl (fun J => aC9 fuel J (fun (x : Int) (t : σ) => uV Y x t) x1 y4.1 y4.2 y5 h6) (fun β' l rec x6 t t' hs hp hY => ?_) (fun rb => ?_)
 generalize t = x8 at *
 have H : uV Y x6 x8 = some t' := hY; clear hY; unfold uV at H; try dsimp only at H
 show T β' _ _ (sL [37] ((fun (x : Int) => [aA .i64 x]) x6) [(1, aF (fN eE) w0), (3, fEq (ptr b1)), (4, fEq (ptr b2)), (30, fEq (ptr b2)), (31, aA .i64 y1.Op), (32, aI (decide (y1.Op ≠ 4))), (33, aF eE w0), (34, fEq (.pointer (some ⟨b2, 1, none⟩))), (35, aA .i64 y1.N), (36, cU 101 [aF (fN eE) y4.1, aF (aB .i64) y4.2])]) (tObj l (.loop rec) :: [aC b1 158 [jU Tryz.prog (fun (x : Int) => [aA .i64 x]) Y J], aC b2 51 [aA .i64 y1.Op, aA .i64 y1.N, fSl bA y1.Args, fSl (aB .i64) y1.Kids], J x8]) _
 refine Z3 ?_
 refine zN hs ?_
 refine Z4 ?_
 refine eF ?_
 revert H; refine bs fun y6 h7 H => ?_
 refine zO x6 trivial rfl rfl rfl (has rfl) (aK.cons (has rfl) aK.nil) h7 ?_
 refine Z5 ?_
 refine aG [2, 3, 0, 1] (by decide) ?_
 cases H
 refine aG [3, 0, 1, 2] (by decide) ?_
 exact zJ hs hp rfl
 generalize rb = rb1
 show T β _ _ [(1, aF (fN eE) w0), (3, fEq (ptr b1)), (4, fEq (ptr b2)), (30, fEq (ptr b2)), (31, aA .i64 y1.Op), (32, aI (decide (y1.Op ≠ 4))), (33, aF eE w0), (34, fEq (.pointer (some ⟨b2, 1, none⟩))), (35, aA .i64 y1.N), (36, cU 101 [aF (fN eE) y4.1, aF (aB .i64) y4.2])] ([kO rb1] ++ [aC b1 158 [jU Tryz.prog (fun (x : Int) => [aA .i64 x]) Y J], aC b2 51 [aA .i64 y1.Op, aA .i64 y1.N, fSl bA y1.Args, fSl (aB .i64) y1.Kids], J y5]) _
 dsimp only [List.append, List.cons_append, List.nil_append]
 refine Z2 ?_
 refine aH ?_
 revert H; refine bs fun y7 h8 H => ?_
 apply bH (ods := [_, _, _, _, _, _, _, _, _, _, _, _]) 12 0 4 bG rfl rfl rfl
 refine ND ?_
 refine M8 ?_
 intros
 refine M4 ?_
 intros
 refine Z3 ?_
 refine aG [1, 2, 0, 3] (by decide) ?_
 refine Tl (ι := Nat × Int × σ) (fun i => qB Y y7 i.1 i.2.1 i.2.2 = _) (fun i => i.1) (fun i => [(3, fEq (ptr b1)), (51, fSl bK y7.Rules), (52, aA .i64 (y7.Rules.length : Int)), (53, aA .i64 i.2.1)]) (fun i => [aC b1 158 [jU Tryz.prog (fun (x : Int) => [aA .i64 x]) Y J], aC b2 51 [aA .i64 y1.Op, aA .i64 y1.N, fSl bA y1.Args, fSl (aB .i64) y1.Kids], kO rb1, J i.2.2]) (fuel, 0, y5) H ?_
 clear H; rintro ⟨k2, x12, x13⟩ H
 replace H : qB Y y7 k2 x12 x13 = _ := H
 try dsimp only
 obtain _ | k2 := k2
 rw [qB] at H; cases H
 rw [qB] at H
 refine Z3 ?_
 refine aH ?_
 revert H; refine is (fun c3 H => ?_) fun c3 H => ?_
 refine Z3 ?_
 refine aH ?_
 revert H; refine B2 fun y8 h9 H => ?_
 refine Z2 ?_
 refine Tn (cK rfl uD rfl) fun b3 => ?_
 refine dM (φs' := [aA .i64 y8.At, fSl (aB .i64) y8.Joins, aA .i64 y8.Node]) trivial rfl rfl (has rfl) (has rfl) (aO (aD trivial) (aO (aZ) (aO (aD trivial) bX))) (sz rfl) rfl rfl rfl ?_
 refine Z5 ?_
 refine bM ?_
 revert H; refine bs fun y9 h10 H => ?_
 refine zO y8.Node trivial rfl rfl rfl (has rfl) (aK.cons (has rfl) aK.nil) h10 ?_
 revert H; refine B7 fun z2 h11 H => ?_
 refine Z3 ?_
 refine aG [2, 3, 4, 0] (by decide) ?_
 exact Tm ((k2, z2, y9)) ⟨H, ls⟩
 refine Z5 ?_
 cases H
 refine aG [2, 3] (by decide) ?_
 exact aC1 [rb1] (.inr rfl) rfl rfl rfl
 exact fk
 kernel_rfl
 exact fk
 kernel_rfl
def aAJ (a0 : Usage_text) (a1 : Int) : Option (Usage_text × Int) :=
 some (a0, a1)
theorem aIt  (a0 : Usage_text) (a1 : Int) (r : Usage_text × Int) (H : aAJ a0 a1 = some r) : FnS Tryz.prog 99 [aF eE a0, aA .i64 a1] [] (cU 114 [aF (fN eE) r.1, aF (aB .i64) r.2]) (fun _ => []) := by
 unfold aAJ at H
 refine bD Tryz.func99 rfl Tryz.ntmps99 rfl (fun β => ?_)
 refine Z1 ?_
 refine Tn (cF rfl (has rfl) (aT (tZ))) fun b1 => ?_
 refine Tn (cF rfl (has rfl) (aT (aD trivial))) fun b2 => ?_
 refine Z3 ?_
 refine dH ?_
 refine cR (φ := aF (fN eE) a0) (v := ptr b1) [2] (iG aN.rfl) fz ?_
 refine cS ?_
 refine cR (φ := aF (aB .i64) a1) (v := ptr b2) [3] (iG aN.rfl) fz ?_
 refine cS ?_
 refine Yy (uZ rfl (aK.cons hh (aK.cons hh aK.nil))) ?_
 refine Z3 ?_
 cases H
 exact To
end Go.Proofs.YtmnbfgeljmhekaaGreat
set_option maxRecDepth 100000
set_option maxHeartbeats 2000000
namespace Go.Proofs.YtmnbfgeljmhekaaGreat
open Go.SX Go.SW Go.Dt
attribute [local irreducible] Code.wpIn wpListIn Exit.then Exit.inBlock
def lH (a0 : Usage_text) (a1 : Int) (y2 : ScopeNode) (y5 : ScopeDef) : Nat → Int → (aQ Int Usage_channel) → Option (aQ Int Usage_channel)
| 0, _, _ => none
| k + 1, x7, x8 =>
 if x7 < (y5.Chans.length : Int) then
  (idx a0.sizes a1).bind fun y6 =>
  (chk (y6 + x7)).bind fun z1 =>
  (chk (x7 + 1)).bind fun z2 =>
  lH a0 a1 y2 y5 k z2 (aQ.upd x8 z1 (⟨y2.N, x7⟩ : Usage_channel))
 else
  some x8
def rL (rec_usage_text_fill : Usage_text → Int → (aQ Int Usage_channel) → Option (List (aQ Int Usage_channel) × List Int)) (a0 : Usage_text) (x1 : aQ Int Usage_channel) (x9 : Int) (x12 : List (aQ Int Usage_channel)) (x13 : List Int) : Option (List (aQ Int Usage_channel) × List Int) :=
 (rec_usage_text_fill ({ a0 with denotes := x12, heads := x13 }) x9 x1).bind fun y9 =>
 some (y9.1, y9.2)
def kS : Nat → Usage_text → Int → (aQ Int Usage_channel) → Option (List (aQ Int Usage_channel) × List Int)
| 0, _, _, _ => none
| fuel + 1, a0, a1, a2 =>
 (idx a0.denotes a1).bind fun y1 =>
 (idx a0.ScopeProg.Nodes a1).bind fun y2 =>
 (if y2.Op = 4 then
  (idx a0.heads y2.N).bind fun y3 =>
  (some ()).bind fun _ =>
  ((idx a0.ScopeProg.Defs y2.N).bind fun y5 =>
  lH a0 a1 y2 y5 fuel 0 a2).bind fun x4 =>
  some (x4, a0.heads.set y2.N.toNat a1)
 else
  some (a2, a0.heads)).bind fun (x1, x2) =>
 (aAJ a0 a1).bind fun y7 =>
 (xE fuel (fun (x : Int) (t : List (aQ Int Usage_channel) × List Int) => rL (kS fuel) a0 x1 x t.1 t.2) (a0.denotes.set a1.toNat a2, x2) y7.1 y7.2).bind fun y8 => match y8 with
 | (x14, x15) =>
 some (x14, x15)
theorem aIh : ∀ (fuel : Nat), (∀ (h0_0 : Value) (h0_1 : Value) (a0 : Usage_text) (a1 : Int) (a2 : aQ Int Usage_channel) (r : List (aQ Int Usage_channel) × List Int) (H : kS fuel a0 a1 a2 = some r), FnS Tryz.prog 79 [aF fV (⟨a0.ScopeProg, h0_0, a0.sizes, h0_1⟩ : Usage_text_R), aA .i64 a1, fS cP (fun y => fSt dJ y) a2] [aE h0_0 123 (gL cP (fun y => fSt dJ y)) a0.denotes, aE h0_1 3 (aB .i64) a0.heads] (dG []) (fun _ => [aE h0_0 123 (gL cP (fun y => fSt dJ y)) r.1, aE h0_1 3 (aB .i64) r.2])) := by
 intro fuel
 induction fuel with
 | zero => exact fun h0_0 h0_1 a0 a1 a2 r H => (by rw [kS] at H; cases H)
 | succ fuel ih =>
 have ih_usage_text_fill := ih
 refine ?_
 intro h0_0 h0_1 a0 a1 a2 r H
 rw [kS] at H
 refine tN Tryz.func79 rfl Tryz.ntmps79 rfl (fun β => ?_)
 refine Z1 ?_
 refine Tn (cF rfl (has rfl) (aT (tZ))) fun b1 => ?_
 refine Tn (cF rfl (has rfl) (aT (aBK))) fun b2 => ?_
 refine Z1 ?_
 refine aH ?_
 revert H; refine bs fun y1 h1 H => ?_
 apply bH (ods := [_, _, _, _, _, _, _, _]) 8 0 4 bG rfl rfl rfl
 refine ND ?_
 refine M3 ?_
 intros
 refine My (aDU rfl hh (sc rfl) rfl gZ) fun _ => ?_
 refine M3 ?_
 intros
 refine jV (od := odC [2] true (fAny) [aE h0_0 123 (gL cP (fun y => fSt dJ y)) (a0.denotes.set a1.toNat a2)]) (p := 2) (z' := a2) rfl (fun _ => rfl) (fun _ => rfl) trivial rfl rfl rfl rfl (has rfl) (has rfl) (aBK) (sz rfl) (bB h1) rfl rfl (fun _ => ?_)
 revert H; refine B9 fun y2 h2 H => ?_
 refine Z2 ?_
 refine Tn (cK rfl pN rfl) fun b3 => ?_
 refine dM (φs' := [aA .i64 y2.Op, aA .i64 y2.N, fSl bA y2.Args, fSl (aB .i64) y2.Kids]) trivial rfl rfl (has rfl) (has rfl) (aO (aD trivial) (aO (aD trivial) (aO (aZ) (aO (aZ) bX)))) (sz rfl) rfl rfl rfl ?_
 revert H; refine B1 fun o1 H Hr1 => ?_
 refine aW (ι := aQ Int Usage_channel × List Int) (fun i => o1 = (i.1, i.2)) (fun i => [(0, aF fV (⟨a0.ScopeProg, h0_0, a0.sizes, h0_1⟩ : Usage_text_R)), (1, aA .i64 a1), (3, fEq (ptr b1)), (5, fEq (ptr b2))]) (fun i => [aC b2 123 [fS cP (fun y => fSt dJ y) i.1], aC b3 51 [aA .i64 y2.Op, aA .i64 y2.N, fSl bA y2.Args, fSl (aB .i64) y2.Kids], aC b1 64 [aF fV (⟨a0.ScopeProg, h0_0, a0.sizes, h0_1⟩ : Usage_text_R)], aE h0_0 123 (gL cP (fun y => fSt dJ y)) (a0.denotes.set a1.toNat a2), aE h0_1 3 (aB .i64) i.2]) ?_ ?_
 revert H; refine I5 (fun c1 H => ?_) fun c1 H => ?_
 refine Z1 ?_
 refine aH ?_
 revert H; refine bs fun y3 h3 H => ?_
 apply bH (ods := [_, _, _, _, _, _, _, _, _]) 9 0 5 bG rfl rfl rfl
 refine ND ?_
 refine M3 ?_
 intros
 refine My (aDU rfl hh (sc rfl) rfl gZ) fun _ => ?_
 refine M4 ?_
 intros
 refine jV (od := odC [4] true (fAny) [aE h0_1 3 (aB .i64) (a0.heads.set y2.N.toNat a1)]) (p := 4) (z' := a1) rfl (fun _ => rfl) (fun _ => rfl) trivial rfl rfl rfl rfl (has rfl) (has rfl) (aD trivial) (sz rfl) (bB h3) rfl rfl (fun _ => ?_)
 refine Z3 ?_
 refine Tn (zH (fun y => fSt dJ y) cP rfl) fun b4 => ?_
 revert H; refine B2 fun o2 H Hr2 => ?_
 refine aW (ι := Unit) (fun i => o2 = ()) (fun i => [(0, aF fV (⟨a0.ScopeProg, h0_0, a0.sizes, h0_1⟩ : Usage_text_R)), (1, aA .i64 a1), (3, fEq (ptr b1)), (5, fEq (ptr b2)), (6, fEq (ptr b3)), (7, fEq (.map (some b4)))]) (fun i => [aC b3 51 [aA .i64 y2.Op, aA .i64 y2.N, fSl bA y2.Args, fSl (aB .i64) y2.Kids], aC b2 123 [fS cP (fun y => fSt dJ y) a2], aC b1 64 [aF fV (⟨a0.ScopeProg, h0_0, a0.sizes, h0_1⟩ : Usage_text_R)], hZ cP (fun y => fSt dJ y) b4 a2, aE h0_0 123 (gL cP (fun y => fSt dJ y)) (a0.denotes.set a1.toNat a2), aE h0_1 3 (aB .i64) (a0.heads.set y2.N.toNat a1)]) ?_ ?_
 refine Z2 ?_
 refine Tn (n_range (kd := cP) (vf := (fun y => fSt dJ y)) (g := a2) rfl (has rfl) yQ) fun b5 => ?_
 refine Z2 ?_
 refine aG [2, 3, 4, 1, 5, 6, 0] (by decide) ?_
 refine Tl (ι := aQ Int Usage_channel) (fun _ => True) (fun i => a2.size - i.size) (fun i => [(0, aF fV (⟨a0.ScopeProg, h0_0, a0.sizes, h0_1⟩ : Usage_text_R)), (1, aA .i64 a1), (3, fEq (ptr b1)), (5, fEq (ptr b2)), (6, fEq (ptr b3)), (7, fEq (.map (some b4))), (40, fEq (ptr b5))]) (fun i => [aC b3 51 [aA .i64 y2.Op, aA .i64 y2.N, fSl bA y2.Args, fSl (aB .i64) y2.Kids], aC b2 123 [fS cP (fun y => fSt dJ y) a2], aC b1 64 [aF fV (⟨a0.ScopeProg, h0_0, a0.sizes, h0_1⟩ : Usage_text_R)], hZ cP (fun y => fSt dJ y) b4 i, aE h0_0 123 (gL cP (fun y => fSt dJ y)) (a0.denotes.set a1.toNat a2), aE h0_1 3 (aB .i64) (a0.heads.set y2.N.toNat a1), yU cP (fun y => fSt dJ y) b5 a2 i]) aQ.none trivial ?_
 intro g1 _
 try dsimp only
 refine Z1 ?_
 refine mU ?_
 refine T_next trivial rfl rfl rfl (has rfl) (fun hg => ?_) (fun x3 y4 h4 h5 h6 => ?_)
 subst hg
 refine Z2 ?_
 refine aH ?_
 refine Z6 ?_
 refine aG [1, 2, 3, 4, 5, 6] (by decide) ?_
 exact Tm (()) (ij H)
 refine Z2 ?_
 refine aH ?_
 refine Z5 ?_
 refine Yo 0 rfl (o_entry rfl hh) ?_
 refine Z2 ?_
 refine Tn (cK rfl aB4 rfl) fun b6 => ?_
 refine Z1 ?_
 refine dM (φs' := [aA .i64 y4.def_, aA .i64 y4.index]) trivial rfl rfl (has rfl) (has rfl) (aO (aD trivial) (aO (aD trivial) bX)) (sz rfl) rfl rfl rfl ?_
 refine Z5 ?_
 refine nG ?_
 refine jS (k := x3) (y := (⟨y4.def_, y4.index⟩ : Usage_channel)) trivial (.inl rfl) rfl (has rfl) (has rfl) rfl (has rfl) rfl yQ ?_
 refine Z3 ?_
 refine eH ?_
 refine T_iterC ?_
 refine aG [3, 4, 5, 1, 6, 7, 0] (by decide) ?_
 exact Tm (aQ.upd g1 x3 y4) ⟨trivial, upd_meas h5 h6⟩
 clear H; intro i hi; subst o2; have H := Hr2; clear Hr2; try dsimp only at H
 try dsimp only
 revert H; refine bs fun o3 H Hr3 => ?_
 refine aW (ι := aQ Int Usage_channel) (fun i => o3 = i) (fun i => [(0, aF fV (⟨a0.ScopeProg, h0_0, a0.sizes, h0_1⟩ : Usage_text_R)), (1, aA .i64 a1), (3, fEq (ptr b1)), (5, fEq (ptr b2)), (7, fEq (.map (some b4)))]) (fun i => [aC b3 51 [aA .i64 y2.Op, aA .i64 y2.N, fSl bA y2.Args, fSl (aB .i64) y2.Kids], aC b2 123 [fS cP (fun y => fSt dJ y) a2], aC b1 64 [aF fV (⟨a0.ScopeProg, h0_0, a0.sizes, h0_1⟩ : Usage_text_R)], hZ cP (fun y => fSt dJ y) b4 i, aE h0_0 123 (gL cP (fun y => fSt dJ y)) (a0.denotes.set a1.toNat a2), aE h0_1 3 (aB .i64) (a0.heads.set y2.N.toNat a1)]) ?_ ?_
 refine aH ?_
 revert H; refine bs fun y5 h7 H => ?_
 apply bH (ods := [_, _, _, _, _, _, _, _, _, _, _, _]) 12 0 6 bG rfl rfl rfl
 refine ND ?_
 refine M8 ?_
 intros
 refine M4 ?_
 intros
 refine Z3 ?_
 refine Tl (ι := Nat × Int × aQ Int Usage_channel) (fun i => lH a0 a1 y2 y5 i.1 i.2.1 i.2.2 = _) (fun i => i.1) (fun i => [(0, aF fV (⟨a0.ScopeProg, h0_0, a0.sizes, h0_1⟩ : Usage_text_R)), (1, aA .i64 a1), (3, fEq (ptr b1)), (5, fEq (ptr b2)), (6, fEq (ptr b3)), (7, fEq (.map (some b4))), (59, aA .i64 (y5.Chans.length : Int)), (60, aA .i64 i.2.1)]) (fun i => [aC b3 51 [aA .i64 y2.Op, aA .i64 y2.N, fSl bA y2.Args, fSl (aB .i64) y2.Kids], aC b2 123 [fS cP (fun y => fSt dJ y) a2], aC b1 64 [aF fV (⟨a0.ScopeProg, h0_0, a0.sizes, h0_1⟩ : Usage_text_R)], hZ cP (fun y => fSt dJ y) b4 i.2.2, aE h0_0 123 (gL cP (fun y => fSt dJ y)) (a0.denotes.set a1.toNat a2), aE h0_1 3 (aB .i64) (a0.heads.set y2.N.toNat a1)]) (fuel, 0, a2) H ?_
 clear H; rintro ⟨k1, x7, x8⟩ H
 replace H : lH a0 a1 y2 y5 k1 x7 x8 = _ := H
 try dsimp only
 obtain _ | k1 := k1
 rw [lH] at H; cases H
 rw [lH] at H
 refine Z3 ?_
 refine aH ?_
 revert H; refine is (fun c2 H => ?_) fun c2 H => ?_
 refine Z3 ?_
 refine aH ?_
 revert H; refine B5 fun y6 h8 H => ?_
 revert H; refine bs fun z1 h9 H => ?_
 apply bH (ods := [_, _, _, _, _, _, _, _, _, _, _, _, _, _]) 14 0 6 bG rfl rfl rfl
 refine ND ?_
 refine M8 ?_
 intros
 refine M5 ?_
 intros
 refine My (dV (ψs := [aA .i64 y2.N, aA .i64 x7]) rfl aIq rfl (aV.cons (has rfl) (aT (aD trivial)) (aV.cons (has rfl) (aT (aD trivial)) aV.nil)) rfl) fun _ => ?_
 refine Z1 ?_
 refine eF ?_
 refine jS (k := z1) (y := (⟨y2.N, x7⟩ : Usage_channel)) trivial (.inl rfl) rfl (has rfl) (has rfl) rfl (has rfl) rfl yQ ?_
 revert H; refine B4 fun z2 h10 H => ?_
 refine Z3 ?_
 refine aG [1, 2, 3, 0, 4, 5] (by decide) ?_
 exact Tm ((k1, z2, aQ.upd x8 z1 (⟨y2.N, x7⟩ : Usage_channel))) ⟨H, ls⟩
 exact fk
 kernel_rfl
 refine Z6 ?_
 exact Tm (x8) (ij H)
 exact fk
 kernel_rfl
 clear H; intro x4 hi; subst o3; have H := Hr3; clear Hr3; try dsimp only at H
 try dsimp only
 refine Z2 ?_
 refine dH ?_
 refine dC (φs' := [fEq (.map (some b4))]) trivial rfl rfl (has rfl) (has rfl) (aD trivial) (sz rfl) rfl rfl ?_
 refine Z1 ?_
 refine eF ?_
 refine cR (φ := fS cP (fun y => fSt dJ y) x4) (v := .map (some b4)) [7, 78] aCg fz ?_
 refine hC (φs' := [fS cP (fun y => fSt dJ y) x4]) (i := 0) rfl rfl ?_
 refine cS ?_
 exact Tm ((x4, a0.heads.set y2.N.toNat a1)) (ij H)
 exact fk
 kernel_rfl
 refine Z3 ?_
 refine aG [1, 0, 2, 3, 4] (by decide) ?_
 exact Tm ((a2, a0.heads)) (ij H)
 clear H; intro i hi; obtain ⟨x1, x2⟩ := i; subst o1; have H := Hr1; clear Hr1; try dsimp only at H
 try dsimp only
 revert H; refine B3 fun y7 h11 H => ?_
 refine gS trivial rfl rfl rfl (has rfl) (aK.cons (dA rfl (aIl)) (aK.cons (has rfl) aK.nil)) rfl (cb rfl) (aIt a0 a1 y7 h11) rfl ?_
 refine Z2 ?_
 refine T_sub [(0, aF fV (⟨a0.ScopeProg, h0_0, a0.sizes, h0_1⟩ : Usage_text_R)), (1, aA .i64 a1), (3, fEq (ptr b1)), (5, fEq (ptr b2)), (79, aF fV (⟨a0.ScopeProg, h0_0, a0.sizes, h0_1⟩ : Usage_text_R)), (80, aA .i64 a1), (81, cU 114 [aF (fN eE) y7.1, aF (aB .i64) y7.2])] (Sc (Sc (Sc (Sc (Sc (Sc (Sc fY.nil))))))) ?_
 revert H; refine bs fun y8 h12 H => ?_
 refine aA4 (s := (a0.denotes.set a1.toNat a2, x2)) (s' := y8) (fun (x : Int) => [aA .i64 x]) (fun (x : Int) (t : List (aQ Int Usage_channel) × List Int) => rL (kS fuel) a0 x1 x t.1 t.2) (fun (t : List (aQ Int Usage_channel) × List Int) => [aC b2 123 [fS cP (fun y => fSt dJ y) x1], aC b3 51 [aA .i64 y2.Op, aA .i64 y2.N, fSl bA y2.Args, fSl (aB .i64) y2.Kids], aC b1 64 [aF fV (⟨a0.ScopeProg, h0_0, a0.sizes, h0_1⟩ : Usage_text_R)], aE h0_0 123 (gL cP (fun y => fSt dJ y)) t.1, aE h0_1 3 (aB .i64) t.2]) (has rfl) (cb rfl) rfl (fun _ => rfl) rfl (fun J => aG8 fuel J (fun (x : Int) (t : List (aQ Int Usage_channel) × List Int) => rL (kS fuel) a0 x1 x t.1 t.2) (a0.denotes.set a1.toNat a2, x2) y7.1 y7.2 y8 h12) (fun β' l rec x9 t t' hs hp hY => ?_) (fun rb => ?_)
 obtain ⟨x12, x13⟩ := t
 have H : rL (kS fuel) a0 x1 x9 x12 x13 = some t' := hY; clear hY; unfold rL at H; try dsimp only at H
 show T β' _ _ (sL [82] ((fun (x : Int) => [aA .i64 x]) x9) [(0, aF fV (⟨a0.ScopeProg, h0_0, a0.sizes, h0_1⟩ : Usage_text_R)), (1, aA .i64 a1), (3, fEq (ptr b1)), (5, fEq (ptr b2)), (79, aF fV (⟨a0.ScopeProg, h0_0, a0.sizes, h0_1⟩ : Usage_text_R)), (80, aA .i64 a1), (81, cU 114 [aF (fN eE) y7.1, aF (aB .i64) y7.2])]) (tObj l (.loop rec) :: [aC b2 123 [fS cP (fun y => fSt dJ y) x1], aC b3 51 [aA .i64 y2.Op, aA .i64 y2.N, fSl bA y2.Args, fSl (aB .i64) y2.Kids], aC b1 64 [aF fV (⟨a0.ScopeProg, h0_0, a0.sizes, h0_1⟩ : Usage_text_R)], aE h0_0 123 (gL cP (fun y => fSt dJ y)) x12, aE h0_1 3 (aB .i64) x13]) _
 refine Z3 ?_
 refine zN hs ?_
 refine Z5 ?_
 refine nG ?_
 refine nG ?_
 revert H; refine bs fun y9 h13 H => ?_
 refine Tc (ih_usage_text_fill _ _ _ _ _ _ h13) ?_
 refine Z2 ?_
 refine aG [3, 4, 5, 0, 1, 2] (by decide) ?_
 cases H
 refine aG [5, 0, 1, 2, 3, 4] (by decide) ?_
 exact zJ hs hp rfl
 obtain ⟨x14, x15⟩ := y8; dsimp only at H
 generalize rb = rb1
 show T β _ _ [(0, aF fV (⟨a0.ScopeProg, h0_0, a0.sizes, h0_1⟩ : Usage_text_R)), (1, aA .i64 a1), (3, fEq (ptr b1)), (5, fEq (ptr b2)), (79, aF fV (⟨a0.ScopeProg, h0_0, a0.sizes, h0_1⟩ : Usage_text_R)), (80, aA .i64 a1), (81, cU 114 [aF (fN eE) y7.1, aF (aB .i64) y7.2])] ([kO rb1] ++ [aC b2 123 [fS cP (fun y => fSt dJ y) x1], aC b3 51 [aA .i64 y2.Op, aA .i64 y2.N, fSl bA y2.Args, fSl (aB .i64) y2.Kids], aC b1 64 [aF fV (⟨a0.ScopeProg, h0_0, a0.sizes, h0_1⟩ : Usage_text_R)], aE h0_0 123 (gL cP (fun y => fSt dJ y)) x14, aE h0_1 3 (aB .i64) x15]) _
 dsimp only [List.append, List.cons_append, List.nil_append]
 refine Z1 ?_
 cases H
 refine aG [0, 4, 5] (by decide) ?_
 exact aC1 [rb1] (.inr rfl) rfl rfl rfl
 exact fk
 kernel_rfl
def oF (fuel : Nat) (a0 : ScopeProg) : Option (Usage_text) :=
 (mk aQ.none (a0.Nodes.length : Int)).bind fun y1 =>
 (mk 0 (a0.Defs.length : Int)).bind fun y2 =>
 (uY fuel (⟨a0.Free, a0.Nodes, a0.Defs, a0.Main⟩ : ScopeProg)).bind fun y3 =>
 (kS fuel ({ (⟨(⟨a0.Free, a0.Nodes, a0.Defs, a0.Main⟩ : ScopeProg), y1, y3.1, y2⟩ : Usage_text) with denotes := y1, heads := y2 }) a0.Main (aQ.none : aQ Int Usage_channel)).bind fun y4 =>
 some (⟨(⟨((⟨(⟨a0.Free, a0.Nodes, a0.Defs, a0.Main⟩ : ScopeProg), y1, y3.1, y2⟩ : Usage_text).ScopeProg).Free, ((⟨(⟨a0.Free, a0.Nodes, a0.Defs, a0.Main⟩ : ScopeProg), y1, y3.1, y2⟩ : Usage_text).ScopeProg).Nodes, ((⟨(⟨a0.Free, a0.Nodes, a0.Defs, a0.Main⟩ : ScopeProg), y1, y3.1, y2⟩ : Usage_text).ScopeProg).Defs, ((⟨(⟨a0.Free, a0.Nodes, a0.Defs, a0.Main⟩ : ScopeProg), y1, y3.1, y2⟩ : Usage_text).ScopeProg).Main⟩ : ScopeProg), y4.1, (⟨(⟨a0.Free, a0.Nodes, a0.Defs, a0.Main⟩ : ScopeProg), y1, y3.1, y2⟩ : Usage_text).sizes, y4.2⟩ : Usage_text)
theorem aB5 (fuel : Nat)  (a0 : ScopeProg) (r : Usage_text) (H : oF fuel a0 = some r) : FnS Tryz.prog 36 [fSt dO a0] [] (aF bJ r) (fun _ => []) := by
 unfold oF at H
 refine bD Tryz.func36 rfl Tryz.ntmps36 rfl (fun β => ?_)
 refine Z1 ?_
 refine Tn (cF rfl (has rfl) bQ) fun b1 => ?_
 refine Z2 ?_
 refine aH ?_
 revert H; refine bs fun y1 h1 H => ?_
 revert H; refine bs fun y2 h2 H => ?_
 apply bH (ods := [_, _, _, _, _, _, _, _, _, _, _, _]) 12 3 4 bG rfl rfl rfl
 refine ND ?_
 refine M4 ?_
 intros
 refine Mn 1 (fun b2 => .slice (some ⟨b2, 0, none⟩) y1.length y1.length) (fun b2 => aE (.slice (some ⟨b2, 0, none⟩) y1.length y1.length) 123 (gL cP (fun y => fSt dJ y)) y1) rfl (n_makeE (t := (gL cP (fun y => fSt dJ y))) (z := aQ.none) rfl (has rfl) (et rfl) rfl aIz (aN.cons aHF aN.nil) h1) (fun b2 u1 => ?_)
 refine M3 ?_
 intros
 refine Mn 2 (fun b3 => .slice (some ⟨b3, 0, none⟩) y2.length y2.length) (fun b3 => aE (.slice (some ⟨b3, 0, none⟩) y2.length y2.length) 3 (aB .i64) y2) rfl (lZ (t := (aB .i64)) (z := 0) rfl (has rfl) (et rfl) rfl sO rfl h2) (fun b3 u2 => ?_)
 refine D2 4 8 b2 _ b3 _ (fun b2 _ b3 _ => eY [fSl aM a0.Free, fSl aL a0.Nodes, fSl aJ a0.Defs, aA .i64 a0.Main, fEq (.slice (some ⟨b2, 0, none⟩) y1.length y1.length), fEq (.slice none 0 0), fEq (.slice (some ⟨b3, 0, none⟩) y2.length y2.length)]) rfl rfl (dV (ψs := [fSl aM a0.Free, fSl aL a0.Nodes, fSl aJ a0.Defs, aA .i64 a0.Main, fEq (.slice (some ⟨b2, 0, none⟩) y1.length y1.length), fEq (.slice none 0 0), fEq (.slice (some ⟨b3, 0, none⟩) y2.length y2.length)]) rfl ty_bu_84 rfl (aV.cons (has rfl) bQ (aV.cons (has rfl) (aT (aD trivial)) (aV.cons (has rfl) (aT (aD trivial)) aV.nil))) rfl) (fun _ => ?_)
 refine N_new (od := odN2 4 8 [3] true (fun b2 _ b3 _ b4 _ => fEq (ptr b4)) (fun b2 _ b3 _ b4 _ => [aC b4 84 [fSl aM a0.Free, fSl aL a0.Nodes, fSl aJ a0.Defs, aA .i64 a0.Main, fEq (.slice (some ⟨b2, 0, none⟩) y1.length y1.length), fEq (.slice none 0 0), fEq (.slice (some ⟨b3, 0, none⟩) y2.length y2.length)]])) (p := 3) (f := fun b4 => ptr b4) (τ := fun b4 => aC b4 84 [fSl aM a0.Free, fSl aL a0.Nodes, fSl aJ a0.Defs, aA .i64 a0.Main, fEq (.slice (some ⟨b2, 0, none⟩) y1.length y1.length), fEq (.slice none 0 0), fEq (.slice (some ⟨b3, 0, none⟩) y2.length y2.length)]) rfl (fun _ => rfl) (fun _ => rfl) trivial rfl rfl (cF rfl (has rfl) bQ) (fun b4 u3 => ?_)
 refine D1 10 b4 _ (fun b4 _ => fEq (ptr b4)) rfl (aAY rfl hh) (fun _ => ?_)
 refine Z1 ?_
 generalize (Value.slice (some ⟨b2, 0, none⟩) _ _) = v1
 refine aR 1 rfl (fun hc_v1 => ?_)
 generalize (Value.slice (some ⟨b3, 0, none⟩) _ _) = v2
 refine aR 2 rfl (fun hc_v2 => ?_)
 revert H; refine B4 fun y3 h3 H => ?_
 refine Tc (aIr _ _ _ h3) ?_
 refine Z5 ?_
 refine eF ?_
 refine dC (φs' := [fSl aM a0.Free, fSl aL a0.Nodes, fSl aJ a0.Defs, aA .i64 a0.Main, fEq v1, fSl (aB .i64) y3.1, fEq v2]) trivial rfl rfl (has rfl) (has rfl) (aZ) (sz rfl) rfl rfl ?_
 refine Z5 ?_
 refine Tn (zH (fun y => fSt dJ y) cP rfl) fun b5 => ?_
 refine dH ?_
 refine cR (φ := aF fV (⟨(⟨a0.Free, a0.Nodes, a0.Defs, a0.Main⟩ : ScopeProg), v1, y3.1, v2⟩ : Usage_text_R)) (v := ptr b4) [14, 3, 16, 21, 23] (iG (aN.cons Ent.rfl (aN.cons Ent.rfl (aN.cons Ent.rfl (aN.cons Ent.rfl (aN.cons (aDB hc_v1) (aN.cons Ent.rfl (aN.cons (aDB hc_v2) aN.nil)))))))) fz ?_
 refine cS ?_
 refine cR (φ := fS cP (fun y => fSt dJ y) (aQ.none : aQ Int Usage_channel)) (v := .map (some b5)) [26] aCg fz ?_
 refine cS ?_
 refine eH ?_
 refine eH ?_
 revert H; refine bs fun y4 h4 H => ?_
 refine Tc (aIh _ _ _ _ _ _ _ h4) ?_
 refine Z6 ?_
 refine cR (φ := fSl (gL cP (fun y => fSt dJ y)) y4.1) (v := v1) [8] cO fz ?_
 refine aGb 2 (i := 4) (φs := [fSl aM (((⟨(⟨a0.Free, a0.Nodes, a0.Defs, a0.Main⟩ : ScopeProg), y1, y3.1, y2⟩ : Usage_text).ScopeProg).Free), fSl aL (((⟨(⟨a0.Free, a0.Nodes, a0.Defs, a0.Main⟩ : ScopeProg), y1, y3.1, y2⟩ : Usage_text).ScopeProg).Nodes), fSl aJ (((⟨(⟨a0.Free, a0.Nodes, a0.Defs, a0.Main⟩ : ScopeProg), y1, y3.1, y2⟩ : Usage_text).ScopeProg).Defs), aA .i64 (((⟨(⟨a0.Free, a0.Nodes, a0.Defs, a0.Main⟩ : ScopeProg), y1, y3.1, y2⟩ : Usage_text).ScopeProg).Main), eI v1, fSl (aB .i64) ((⟨(⟨a0.Free, a0.Nodes, a0.Defs, a0.Main⟩ : ScopeProg), y1, y3.1, y2⟩ : Usage_text).sizes), eI v2]) (φs' := [fSl aM (((⟨(⟨a0.Free, a0.Nodes, a0.Defs, a0.Main⟩ : ScopeProg), y1, y3.1, y2⟩ : Usage_text).ScopeProg).Free), fSl aL (((⟨(⟨a0.Free, a0.Nodes, a0.Defs, a0.Main⟩ : ScopeProg), y1, y3.1, y2⟩ : Usage_text).ScopeProg).Nodes), fSl aJ (((⟨(⟨a0.Free, a0.Nodes, a0.Defs, a0.Main⟩ : ScopeProg), y1, y3.1, y2⟩ : Usage_text).ScopeProg).Defs), aA .i64 (((⟨(⟨a0.Free, a0.Nodes, a0.Defs, a0.Main⟩ : ScopeProg), y1, y3.1, y2⟩ : Usage_text).ScopeProg).Main), fSl (gL cP (fun y => fSt dJ y)) y4.1, fSl (aB .i64) ((⟨(⟨a0.Free, a0.Nodes, a0.Defs, a0.Main⟩ : ScopeProg), y1, y3.1, y2⟩ : Usage_text).sizes), eI v2]) rfl rfl rfl ?_
 refine cS ?_
 refine cR (φ := fSl (aB .i64) y4.2) (v := v2) [12] cO fz ?_
 refine aGb 2 (i := 6) (φs := [fSl aM (((⟨(⟨a0.Free, a0.Nodes, a0.Defs, a0.Main⟩ : ScopeProg), y1, y3.1, y2⟩ : Usage_text).ScopeProg).Free), fSl aL (((⟨(⟨a0.Free, a0.Nodes, a0.Defs, a0.Main⟩ : ScopeProg), y1, y3.1, y2⟩ : Usage_text).ScopeProg).Nodes), fSl aJ (((⟨(⟨a0.Free, a0.Nodes, a0.Defs, a0.Main⟩ : ScopeProg), y1, y3.1, y2⟩ : Usage_text).ScopeProg).Defs), aA .i64 (((⟨(⟨a0.Free, a0.Nodes, a0.Defs, a0.Main⟩ : ScopeProg), y1, y3.1, y2⟩ : Usage_text).ScopeProg).Main), fSl (gL cP (fun y => fSt dJ y)) y4.1, fSl (aB .i64) ((⟨(⟨a0.Free, a0.Nodes, a0.Defs, a0.Main⟩ : ScopeProg), y1, y3.1, y2⟩ : Usage_text).sizes), eI v2]) (φs' := [fSl aM (((⟨(⟨a0.Free, a0.Nodes, a0.Defs, a0.Main⟩ : ScopeProg), y1, y3.1, y2⟩ : Usage_text).ScopeProg).Free), fSl aL (((⟨(⟨a0.Free, a0.Nodes, a0.Defs, a0.Main⟩ : ScopeProg), y1, y3.1, y2⟩ : Usage_text).ScopeProg).Nodes), fSl aJ (((⟨(⟨a0.Free, a0.Nodes, a0.Defs, a0.Main⟩ : ScopeProg), y1, y3.1, y2⟩ : Usage_text).ScopeProg).Defs), aA .i64 (((⟨(⟨a0.Free, a0.Nodes, a0.Defs, a0.Main⟩ : ScopeProg), y1, y3.1, y2⟩ : Usage_text).ScopeProg).Main), fSl (gL cP (fun y => fSt dJ y)) y4.1, fSl (aB .i64) ((⟨(⟨a0.Free, a0.Nodes, a0.Defs, a0.Main⟩ : ScopeProg), y1, y3.1, y2⟩ : Usage_text).sizes), fSl (aB .i64) y4.2]) rfl rfl rfl ?_
 refine cS ?_
 cases H
 refine aG [] (by decide) ?_
 exact To
 exact fk
 kernel_rfl
def aAc (fuel : Nat) (a0 : ScopeProg) (a1 : Int) (a2 : Int) : Option ((Option Usage_text) × Bool) :=
 (sJ fuel (⟨a0.Free, a0.Nodes, a0.Defs, a0.Main⟩ : ScopeProg)).bind fun y1 =>
 if y1 ≠ 0 then
  some (none, false)
 else
  if a1 < 0 then
   some (none, false)
  else
   if (a0.Nodes.length : Int) ≤ a1 then
    some (none, false)
   else
    (oF fuel (⟨a0.Free, a0.Nodes, a0.Defs, a0.Main⟩ : ScopeProg)).bind fun y2 =>
    (if 0 ≤ a2 then
     (idx y2.sizes a1).bind fun y3 =>
     some (decide (a2 < y3))
    else
     some false).bind fun x1 =>
    some (some y2, x1)
theorem aEN (fuel : Nat)  (a0 : ScopeProg) (a1 : Int) (a2 : Int) (r : (Option Usage_text) × Bool) (H : aAc fuel a0 a1 a2 = some r) : FnS Tryz.prog 25 [fSt dO a0, aA .i64 a1, aA .i64 a2] [] (dG [fOpt bJ r.1, aI r.2]) (fun _ => []) := by
 unfold aAc at H
 refine bD Tryz.func25 rfl Tryz.ntmps25 rfl (fun β => ?_)
 refine Z1 ?_
 refine Tn (cF rfl (has rfl) bQ) fun b1 => ?_
 refine Z3 ?_
 refine aH ?_
 revert H; refine B2 fun y1 h1 H => ?_
 refine Tc (aB7 _ _ _ h1) ?_
 revert H; refine I2 (fun c1 H => ?_) fun c1 H => ?_
 refine Z12 ?_
 refine Z5 ?_
 cases H
 refine aG [] (by decide) ?_
 exact gM rfl (jF rfl aCw) (bO rfl) rfl
 revert H; refine I4 (fun c2 H => ?_) fun c2 H => ?_
 refine Z12 ?_
 refine Z1 ?_
 cases H
 refine aG [] (by decide) ?_
 exact gM rfl (jF rfl aCw) (bO rfl) rfl
 revert H; refine I7 (fun c3 H => ?_) fun c3 H => ?_
 refine Z6 ?_
 cases H
 refine aG [] (by decide) ?_
 exact gM rfl (jF rfl aCw) (bO rfl) rfl
 revert H; refine B5 fun y2 h2 H => ?_
 refine Tc (aB5 _ _ _ h2) ?_
 revert H; refine B2 fun o1 H Hr1 => ?_
 refine aW (ι := Bool) (fun i => o1 = i) (fun i => [(6, aF bJ y2), (7, aI i)]) (fun i => [aC b1 26 [fSl aM a0.Free, fSl aL a0.Nodes, fSl aJ a0.Defs, aA .i64 a0.Main]]) ?_ ?_
 revert H; refine is (fun c4 H => ?_) fun c4 H => ?_
 revert H; refine bs fun y3 h3 H => ?_
 apply bH (ods := [_, _, _, _, _, _, _, _, _, _, _, _, _, _, _, _]) 16 0 1 bG rfl rfl rfl
 refine ND ?_
 refine M8 ?_
 intros
 refine M8 ?_
 intros
 refine Z2 ?_
 exact Tm (decide (a2 < y3)) (ij H)
 exact fk
 kernel_rfl
 apply bH (ods := [_, _, _, _, _, _, _, _, _, _, _, _, _, _, _, _]) 16 0 1 bG rfl rfl rfl
 refine ND ?_
 refine M8 ?_
 intros
 refine M8 ?_
 intros
 refine Z2 ?_
 exact Tm (false) (ij H)
 exact fk
 kernel_rfl
 clear H; intro x1 hi; subst o1; have H := Hr1; clear Hr1; try dsimp only at H
 try dsimp only
 refine Z1 ?_
 cases H
 refine aG [] (by decide) ?_
 exact gM rfl (jF rfl ent_optS) (bO rfl) rfl
def oH (a0 : List Int) (a1 : List Int) (a2 : Bool) (w0 : Int × Int × Bool → Option Bool) : Nat → Int → Option ((Unit) ⊕ (Bool))
| 0, _ => none
| k + 1, x2 =>
 if x2 < (a0.length : Int) then
  (idx a0 x2).bind fun y1 =>
  (idx a1 x2).bind fun y2 =>
  (w0 (y1, y2, a2)).bind fun y3 =>
  bif y3 then
   (chk (x2 + 1)).bind fun z1 =>
   oH a0 a1 a2 w0 k z1
  else
   (some false).bind fun r => some (Sum.inr r)
 else
  some (Sum.inl ())
def rT (fuel : Nat) (a0 : List Int) (a1 : List Int) (a2 : Bool) (w0 : Int × Int × Bool → Option Bool) : Option (Bool) :=
 (oH a0 a1 a2 w0 fuel 0).bind fun o => match o with
 | Sum.inr r => some r
 | Sum.inl _ =>
 some true
theorem zI (fuel : Nat)  (a0 : List Int) (a1 : List Int) (a2 : Bool) (w0 : Int × Int × Bool → Option Bool) (r : Bool) (H : rT fuel a0 a1 a2 w0 = some r) : FnS Tryz.prog 82 [fSl (aB .i64) a0, fSl (aB .i64) a1, aI a2, aF (tFn Tryz.prog (fun (x : Int × Int × Bool) => [aA .i64 x.1, aA .i64 x.2.1, aI x.2.2]) (fun (r : Bool) => aI r)) w0] [] (aI r) (fun _ => []) := by
 unfold rT at H
 refine bD Tryz.func82 rfl Tryz.ntmps82 rfl (fun β => ?_)
 revert H; refine B3 fun o1 H Hr1 => ?_
 refine aW (ι := Unit) (fun i => o1 = Sum.inl ()) (fun i => []) (fun i => []) ?_ ?_
 refine Z6 ?_
 refine Tl (ι := Nat × Int) (fun i => oH a0 a1 a2 w0 i.1 i.2 = _) (fun i => i.1) (fun i => [(0, fSl (aB .i64) a0), (1, fSl (aB .i64) a1), (2, aI a2), (3, aF (tFn Tryz.prog (fun (x : Int × Int × Bool) => [aA .i64 x.1, aA .i64 x.2.1, aI x.2.2]) (fun (r : Bool) => aI r)) w0), (10, aA .i64 (a0.length : Int)), (11, aA .i64 i.2)]) (fun i => []) (fuel, 0) H ?_
 clear H; rintro ⟨k1, x2⟩ H
 replace H : oH a0 a1 a2 w0 k1 x2 = _ := H
 try dsimp only
 obtain _ | k1 := k1
 rw [oH] at H; cases H
 rw [oH] at H
 refine Z3 ?_
 refine aH ?_
 revert H; refine is (fun c1 H => ?_) fun c1 H => ?_
 refine Z3 ?_
 refine aH ?_
 refine Z5 ?_
 refine aH ?_
 revert H; refine bs fun y1 h1 H => ?_
 revert H; refine bs fun y2 h2 H => ?_
 revert H; refine bs fun y3 h3 H => ?_
 apply bH (ods := [_, _, _, _, _, _, _, _, _, _, _, _]) 12 0 0 bG rfl rfl rfl
 refine ND ?_
 refine M8 ?_
 intros
 refine M2 ?_
 intros
 refine aEF (od := odC [] true (aI y3) []) (Φ := aI y3) (y1, y2, a2) rfl (fun _ => rfl) trivial rfl rfl (has rfl) (aK.cons (has rfl) (aK.cons (has rfl) (aK.cons (has rfl) aK.nil))) h3 rfl (fun _ => ?_)
 refine M1 ?_
 intros
 refine Z2 ?_
 revert H; refine cs (fun c2 H => ?_) fun c2 H => ?_
 revert H; refine B5 fun z1 h4 H => ?_
 refine Z3 ?_
 exact Tm ((k1, z1)) ⟨H, ls⟩
 revert H; refine B10 fun r1 H e1 => ?_
 cases e1; cases Hr1
 cases H
 exact To
 exact fk
 kernel_rfl
 refine Z6 ?_
 exact Tm (()) (ij H)
 clear H; intro i hi; subst o1; have H := Hr1; clear Hr1; try dsimp only at H
 try dsimp only
 refine Z4 ?_
 cases H
 exact To
def oC (fuel : Nat) (a0 : List UsageDef) (a1 : List UsageDef) (a2 : Int × Int × Bool → Option Bool) (x2 : Int) (y7 : UsageDef) : Nat → Int → Option ((Unit) ⊕ ((Unit) ⊕ (Bool)))
| 0, _ => none
| k + 1, x4 =>
 if x4 < (y7.Args.length : Int) then
  (idx a0 x2).bind fun y8 =>
  (idx y8.Args x4).bind fun y9 =>
  (idx a1 x2).bind fun y10 =>
  (idx y10.Args x4).bind fun y11 =>
  (rT fuel y9 y11 false a2).bind fun y12 =>
  bif y12 then
   (chk (x4 + 1)).bind fun z1 =>
   oC fuel a0 a1 a2 x2 y7 k z1
  else
   ((some false).bind fun r => some (Sum.inr r)).bind fun r => some (Sum.inr r)
 else
  some (Sum.inl ())
def mO (fuel : Nat) (a0 : List UsageDef) (a1 : List UsageDef) (a2 : Int × Int × Bool → Option Bool) : Nat → Int → Option ((Unit) ⊕ (Bool))
| 0, _ => none
| k + 1, x2 =>
 if x2 < (a0.length : Int) then
  ((idx a0 x2).bind fun y1 =>
  (idx a1 x2).bind fun y2 =>
  (rT fuel y1.Chans y2.Chans true a2).bind fun y3 =>
  bif !y3 then
   ((some false).bind fun r => some (Sum.inr r)).bind fun r => some (Sum.inr r)
  else
   (idx a0 x2).bind fun y4 =>
   (idx a1 x2).bind fun y5 =>
   (rT fuel y4.Rules y5.Rules false a2).bind fun y6 =>
   bif y6 then
    (idx a0 x2).bind fun y7 =>
    oC fuel a0 a1 a2 x2 y7 fuel 0
   else
    ((some false).bind fun r => some (Sum.inr r)).bind fun r => some (Sum.inr r)).bind fun o => match o with
  | Sum.inr r => some r
  | Sum.inl _ =>
  (chk (x2 + 1)).bind fun z2 =>
  mO fuel a0 a1 a2 k z2
 else
  some (Sum.inl ())
def pU (fuel : Nat) (a0 : List UsageDef) (a1 : List UsageDef) (a2 : Int × Int × Bool → Option Bool) : Option (Bool) :=
 (mO fuel a0 a1 a2 fuel 0).bind fun o => match o with
 | Sum.inr r => some r
 | Sum.inl _ =>
 some true
theorem aCN (fuel : Nat)  (a0 : List UsageDef) (a1 : List UsageDef) (a2 : Int × Int × Bool → Option Bool) (r : Bool) (H : pU fuel a0 a1 a2 = some r) : FnS Tryz.prog 39 [fSl bC a0, fSl bC a1, fFn Tryz.prog (fun (x : Int × Int × Bool) => [aA .i64 x.1, aA .i64 x.2.1, aI x.2.2]) (fun (r : Bool) => aI r) a2] [] (aI r) (fun _ => []) := by
 unfold pU at H
 refine bD Tryz.func39 rfl Tryz.ntmps39 rfl (fun β => ?_)
 refine Z1 ?_
 refine Tn (cF rfl (has rfl) (aT (aBM))) fun b1 => ?_
 refine Z3 ?_
 refine cR (φ := aF (tFn Tryz.prog (fun (x : Int × Int × Bool) => [aA .i64 x.1, aA .i64 x.2.1, aI x.2.2]) (fun (r : Bool) => aI r)) a2) (v := ptr b1) [5] (iG aN.rfl) fz ?_
 refine cS ?_
 refine Yy (uZ rfl (aK.cons hh aK.nil)) ?_
 revert H; refine B2 fun o1 H Hr1 => ?_
 refine aW (ι := Unit) (fun i => o1 = Sum.inl ()) (fun i => []) (fun i => []) ?_ ?_
 refine Z6 ?_
 refine Tl (ι := Nat × Int) (fun i => mO fuel a0 a1 a2 i.1 i.2 = _) (fun i => i.1) (fun i => [(0, fSl bC a0), (1, fSl bC a1), (7, cU 82 [aF (tFn Tryz.prog (fun (x : Int × Int × Bool) => [aA .i64 x.1, aA .i64 x.2.1, aI x.2.2]) (fun (r : Bool) => aI r)) a2]), (12, aA .i64 (a0.length : Int)), (13, aA .i64 i.2)]) (fun i => []) (fuel, 0) H ?_
 clear H; rintro ⟨k1, x2⟩ H
 replace H : mO fuel a0 a1 a2 k1 x2 = _ := H
 try dsimp only
 obtain _ | k1 := k1
 rw [mO] at H; cases H
 rw [mO] at H
 refine Z3 ?_
 refine aH ?_
 revert H; refine is (fun c1 H => ?_) fun c1 H => ?_
 refine cY (has rfl) c1 ?_
 revert H; refine B2 fun o2 H Hr2 => ?_
 refine aW (ι := Unit) (fun i => o2 = Sum.inl ()) (fun i => [(0, fSl bC a0), (1, fSl bC a1), (7, cU 82 [aF (tFn Tryz.prog (fun (x : Int × Int × Bool) => [aA .i64 x.1, aA .i64 x.2.1, aI x.2.2]) (fun (r : Bool) => aI r)) a2]), (12, aA .i64 (a0.length : Int)), (13, aA .i64 x2)]) (fun i => []) ?_ ?_
 refine Z5 ?_
 refine aH ?_
 refine aH ?_
 revert H; refine bs fun y1 h1 H => ?_
 revert H; refine bs fun y2 h2 H => ?_
 revert H; refine bs fun y3 h3 H => ?_
 revert H; refine cs (fun c2 H => ?_) fun c2 H => ?_
 apply bH (ods := [_, _, _, _, _, _, _, _, _, _, _, _, _, _, _, _, _, _, _, _, _, _, _, _, _, _, _, _]) 28 0 0 bG rfl rfl rfl
 refine ND ?_
 refine M3 ?_
 intros
 refine My (cC rfl hh hh (el rfl) h1) fun _ => ?_
 refine M4 ?_
 intros
 refine My (cC rfl hh hh (el rfl) h2) fun _ => ?_
 refine M2 ?_
 intros
 refine zT (od := odC [] true (aI y3) []) (Φ := aI y3) rfl (fun _ => rfl) trivial rfl rfl (has rfl) (aK.cons (has rfl) (aK.cons (has rfl) (aK.cons (has rfl) aK.nil))) rfl (cb rfl) (zI fuel y1.Chans y2.Chans true a2 y3 h3) (fun _ => ?_)
 refine M2 ?_
 intros
 refine Mt c2 fun _ => ?_
 refine Mt c2 fun _ => ?_
 refine Mt c2 fun _ => ?_
 refine Mt c2 fun _ => ?_
 refine Mt c2 fun _ => ?_
 refine Mt c2 fun _ => ?_
 refine Mt c2 fun _ => ?_
 refine Mt c2 fun _ => ?_
 refine Mt c2 fun _ => ?_
 refine Mt c2 fun _ => ?_
 refine Mt c2 fun _ => ?_
 refine Mt c2 fun _ => ?_
 refine Mt c2 fun _ => ?_
 refine My (dF rfl hh c2 hh) fun _ => ?_
 revert H; refine B9 fun r1 H e1 => ?_
 cases e1; cases Hr2
 revert H; refine B3 fun r2 H e2 => ?_
 cases e2; cases Hr1
 cases H
 exact To
 exact fk
 kernel_rfl
 revert H; refine bs fun y4 h4 H => ?_
 revert H; refine bs fun y5 h5 H => ?_
 revert H; refine bs fun y6 h6 H => ?_
 apply bH (ods := [_, _, _, _, _, _, _, _, _, _, _, _, _, _, _, _, _, _, _, _, _, _, _, _, _, _, _, _]) 28 0 0 bG rfl rfl rfl
 refine ND ?_
 refine M3 ?_
 intros
 refine My (cC rfl hh hh (el rfl) h1) fun _ => ?_
 refine M4 ?_
 intros
 refine My (cC rfl hh hh (el rfl) h2) fun _ => ?_
 refine M2 ?_
 intros
 refine zT (od := odC [] true (aI y3) []) (Φ := aI y3) rfl (fun _ => rfl) trivial rfl rfl (has rfl) (aK.cons (has rfl) (aK.cons (has rfl) (aK.cons (has rfl) aK.nil))) rfl (cb rfl) (zI fuel y1.Chans y2.Chans true a2 y3 h3) (fun _ => ?_)
 refine M2 ?_
 intros
 refine Mg c2 (bV rfl hh) fun _ => ?_
 refine Mg c2 (bV rfl hh) fun _ => ?_
 refine Mg c2 (bV rfl hh) fun _ => ?_
 refine Mg c2 (cC rfl hh hh (el rfl) h4) fun _ => ?_
 refine Mg c2 (fT (t' := (tSl (aB .i64))) (z := y4.Rules) rfl hh (fa rfl) rfl) fun _ => ?_
 refine Mg c2 (fP rfl hh (sc rfl) rfl) fun _ => ?_
 refine Mg c2 (bV rfl hh) fun _ => ?_
 refine Mg c2 (bV rfl hh) fun _ => ?_
 refine Mg c2 (cC rfl hh hh (el rfl) h5) fun _ => ?_
 refine Mg c2 (fT (t' := (tSl (aB .i64))) (z := y5.Rules) rfl hh (fa rfl) rfl) fun _ => ?_
 refine Mg c2 (fP rfl hh (sc rfl) rfl) fun _ => ?_
 refine zT (od := odC [] true (aI y6) []) (Φ := aI y6) rfl (fun _ => rfl) ⟨_, _, rfl, rfl, c2⟩ rfl rfl (has rfl) (aK.cons (has rfl) (aK.cons (has rfl) (aK.cons (has rfl) aK.nil))) rfl (cb rfl) (zI fuel y4.Rules y5.Rules false a2 y6 h6) (fun _ => ?_)
 refine Mg c2 (kT rfl hh) fun _ => ?_
 refine My (cI rfl hh c2 hh) fun _ => ?_
 refine Z2 ?_
 revert H; refine cs (fun c3 H => ?_) fun c3 H => ?_
 refine dD (has rfl) (oP c3) ?_
 revert H; refine B5 fun y7 h7 H => ?_
 refine Yy (cC rfl hh hh (el rfl) h7) ?_
 refine Z6 ?_
 refine Tl (ι := Nat × Int) (fun i => oC fuel a0 a1 a2 x2 y7 i.1 i.2 = _) (fun i => i.1) (fun i => [(0, fSl bC a0), (1, fSl bC a1), (7, cU 82 [aF (tFn Tryz.prog (fun (x : Int × Int × Bool) => [aA .i64 x.1, aA .i64 x.2.1, aI x.2.2]) (fun (r : Bool) => aI r)) a2]), (12, aA .i64 (a0.length : Int)), (13, aA .i64 x2), (8, aA .i64 x2), (49, aA .i64 (y7.Args.length : Int)), (50, aA .i64 i.2)]) (fun i => []) (fuel, 0) H ?_
 clear H; rintro ⟨k2, x4⟩ H
 replace H : oC fuel a0 a1 a2 x2 y7 k2 x4 = _ := H
 try dsimp only
 obtain _ | k2 := k2
 rw [oC] at H; cases H
 rw [oC] at H
 refine Z3 ?_
 refine aH ?_
 revert H; refine is (fun c4 H => ?_) fun c4 H => ?_
 refine cY (has rfl) c4 ?_
 refine Z2 ?_
 refine aH ?_
 refine Z5 ?_
 refine aH ?_
 revert H; refine bs fun y8 h8 H => ?_
 revert H; refine bs fun y9 h9 H => ?_
 revert H; refine bs fun y10 h10 H => ?_
 revert H; refine bs fun y11 h11 H => ?_
 revert H; refine bs fun y12 h12 H => ?_
 apply bH (ods := [_, _, _, _, _, _, _, _, _, _, _, _, _, _, _, _, _, _, _]) 19 0 0 bG rfl rfl rfl
 refine ND ?_
 refine M3 ?_
 intros
 refine My (cC rfl hh hh (el rfl) h8) fun _ => ?_
 refine M3 ?_
 intros
 refine My (cC rfl hh hh (el rfl) h9) fun _ => ?_
 refine M3 ?_
 intros
 refine My (cC rfl hh hh (el rfl) h10) fun _ => ?_
 refine M3 ?_
 intros
 refine My (cC rfl hh hh (el rfl) h11) fun _ => ?_
 refine M1 ?_
 intros
 refine zT (od := odC [] true (aI y12) []) (Φ := aI y12) rfl (fun _ => rfl) trivial rfl rfl (has rfl) (aK.cons (has rfl) (aK.cons (has rfl) (aK.cons (has rfl) aK.nil))) rfl (cb rfl) (zI fuel y9 y11 false a2 y12 h12) (fun _ => ?_)
 refine M1 ?_
 intros
 refine Z2 ?_
 revert H; refine cs (fun c5 H => ?_) fun c5 H => ?_
 refine dD (has rfl) (oP c5) ?_
 revert H; refine B4 fun z1 h13 H => ?_
 refine Yy (fI rfl hh hh h13) ?_
 refine Z2 ?_
 exact Tm ((k2, z1)) ⟨H, ls⟩
 refine cY (has rfl) (oZ c5) ?_
 revert H; refine B10 fun r3 H e3 => ?_
 cases e3; cases Hr2
 revert H; refine B3 fun r4 H e4 => ?_
 cases e4; cases Hr1
 cases H
 exact To
 exact fk
 kernel_rfl
 refine dD (has rfl) c4 ?_
 refine Z6 ?_
 exact Tm (()) (ij H)
 refine cY (has rfl) (oZ c3) ?_
 revert H; refine B6 fun r5 H e5 => ?_
 cases e5; cases Hr2
 revert H; refine B3 fun r6 H e6 => ?_
 cases e6; cases Hr1
 cases H
 exact To
 exact fk
 kernel_rfl
 clear H; intro i hi; subst o2; have H := Hr2; clear Hr2; try dsimp only at H
 try dsimp only
 revert H; refine B1 fun z2 h14 H => ?_
 refine Yy (fI rfl hh hh h14) ?_
 refine Z2 ?_
 exact Tm ((k1, z2)) ⟨H, ls⟩
 refine dD (has rfl) c1 ?_
 refine Z5 ?_
 exact Tm (()) (ij H)
 clear H; intro i hi; subst o1; have H := Hr1; clear Hr1; try dsimp only at H
 try dsimp only
 refine Z4 ?_
 cases H
 exact To
def vP (a0 : Int) (a1 : Int) (a2 : Bool) : Option (Bool) :=
 (if 1 ≤ a0 then
  if a0 ≤ 4 then
   bif a2 then
    some true
   else
    some (decide (a0 ≠ 2))
  else
   some false
 else
  some false).bind fun x1 =>
 some x1
theorem aG4  (a0 : Int) (a1 : Int) (a2 : Bool) (r : Bool) (H : vP a0 a1 a2 = some r) : FnS Tryz.prog 63 [aA .i64 a0, aA .i64 a1, aI a2] [] (aI r) (fun _ => []) := by
 unfold vP at H
 refine bD Tryz.func63 rfl Tryz.ntmps63 rfl (fun β => ?_)
 revert H; refine B3 fun o1 H Hr1 => ?_
 refine aW (ι := Bool) (fun i => o1 = i) (fun i => [(6, aI i)]) (fun i => []) ?_ ?_
 revert H; refine I4 (fun c1 H => ?_) fun c1 H => ?_
 revert H; refine I4 (fun c2 H => ?_) fun c2 H => ?_
 refine Z2 ?_
 revert H; refine cs (fun c3 H => ?_) fun c3 H => ?_
 refine Z6 ?_
 exact Tm (true) (ij H)
 refine Z6 ?_
 exact Tm (decide (a0 ≠ 2)) (ij H)
 refine Z2 ?_
 refine dS (⟨_, _, _, _, rfl, rfl, rfl, nu⟩) rfl rfl ?_
 refine dS (⟨_, _, _, _, rfl, rfl, rfl, nu⟩) rfl rfl ?_
 refine Z4 ?_
 exact Tm (false) (ij H)
 refine Z6 ?_
 refine dS (⟨_, _, _, _, rfl, rfl, rfl, nu⟩) rfl rfl ?_
 refine dS (⟨_, _, _, _, rfl, rfl, rfl, nu⟩) rfl rfl ?_
 refine Z4 ?_
 exact Tm (false) (ij H)
 clear H; intro x1 hi; subst o1; have H := Hr1; clear Hr1; try dsimp only at H
 try dsimp only
 refine Z1 ?_
 cases H
 exact To
end Go.Proofs.YtmnbfgeljmhekaaGreat
set_option maxRecDepth 100000
set_option maxHeartbeats 2000000
namespace Go.Proofs.YtmnbfgeljmhekaaGreat
open Go.SX Go.SW Go.Dt
attribute [local irreducible] Code.wpIn wpListIn Exit.then Exit.inBlock
def mH (y1 : ScopeDef) (y2 : UsageDef) : Nat → Int → Option ((Unit) ⊕ ((Unit) ⊕ (Bool)))
| 0, _ => none
| k + 1, x4 =>
 if x4 < (y2.Args.length : Int) then
  (idx y2.Args x4).bind fun y3 =>
  (idx y1.Chans x4).bind fun y4 =>
  if (y3.length : Int) ≠ y4.Many then
   ((some false).bind fun r => some (Sum.inr r)).bind fun r => some (Sum.inr r)
  else
   (chk (x4 + 1)).bind fun z1 =>
   mH y1 y2 k z1
 else
  some (Sum.inl ())
def nF (fuel : Nat) (a0 : Usage_text) (a1 : List UsageDef) : Nat → Int → Option ((Unit) ⊕ (Bool))
| 0, _ => none
| k + 1, x2 =>
 if x2 < (a0.ScopeProg.Defs.length : Int) then
  ((idx a0.ScopeProg.Defs x2).bind fun y1 =>
  (idx a1 x2).bind fun y2 =>
  if (y2.Chans.length : Int) ≠ (y1.Chans.length : Int) then
   ((some false).bind fun r => some (Sum.inr r)).bind fun r => some (Sum.inr r)
  else
   if (y2.Rules.length : Int) ≠ (y1.Rules.length : Int) then
    ((some false).bind fun r => some (Sum.inr r)).bind fun r => some (Sum.inr r)
   else
    if (y2.Args.length : Int) ≠ (y1.Chans.length : Int) then
     ((some false).bind fun r => some (Sum.inr r)).bind fun r => some (Sum.inr r)
    else
     mH y1 y2 fuel 0).bind fun o => match o with
  | Sum.inr r => some r
  | Sum.inl _ =>
  (chk (x2 + 1)).bind fun z2 =>
  nF fuel a0 a1 k z2
 else
  some (Sum.inl ())
def uH (fuel : Nat) (a0 : Usage_text) (a1 : List UsageDef) : Option (Bool) :=
 if (a1.length : Int) ≠ (a0.ScopeProg.Defs.length : Int) then
  some false
 else
  (nF fuel a0 a1 fuel 0).bind fun o => match o with
  | Sum.inr r => some r
  | Sum.inl _ =>
  (pU fuel a1 a1 (fun x => vP x.1 x.2.1 x.2.2)).bind fun y5 =>
  some y5
theorem aFn (fuel : Nat)  (a0 : Usage_text) (a1 : List UsageDef) (r : Bool) (H : uH fuel a0 a1 = some r) : FnS Tryz.prog 26 [aF bJ a0, fSl bC a1] [] (aI r) (fun _ => []) := by
 unfold uH at H
 refine bD Tryz.func26 rfl Tryz.ntmps26 rfl (fun β => ?_)
 refine Z3 ?_
 refine aH ?_
 revert H; refine I11 (fun c1 H => ?_) fun c1 H => ?_
 refine Z5 ?_
 cases H
 exact To
 revert H; refine B3 fun o1 H Hr1 => ?_
 refine aW (ι := Unit) (fun i => o1 = Sum.inl ()) (fun i => [(1, fSl bC a1)]) (fun i => []) ?_ ?_
 refine Z10 ?_
 refine Tl (ι := Nat × Int) (fun i => nF fuel a0 a1 i.1 i.2 = _) (fun i => i.1) (fun i => [(1, fSl bC a1), (23, fSl aJ a0.ScopeProg.Defs), (24, aA .i64 (a0.ScopeProg.Defs.length : Int)), (25, aA .i64 i.2)]) (fun i => []) (fuel, 0) H ?_
 clear H; rintro ⟨k1, x2⟩ H
 replace H : nF fuel a0 a1 k1 x2 = _ := H
 try dsimp only
 obtain _ | k1 := k1
 rw [nF] at H; cases H
 rw [nF] at H
 refine Z3 ?_
 refine aH ?_
 revert H; refine is (fun c2 H => ?_) fun c2 H => ?_
 revert H; refine B3 fun o2 H Hr2 => ?_
 refine aW (ι := Unit) (fun i => o2 = Sum.inl ()) (fun i => [(1, fSl bC a1), (23, fSl aJ a0.ScopeProg.Defs), (24, aA .i64 (a0.ScopeProg.Defs.length : Int)), (25, aA .i64 x2)]) (fun i => []) ?_ ?_
 revert H; refine B3 fun y1 h1 H => ?_
 refine Z2 ?_
 refine Tn (cK rfl tB rfl) fun b1 => ?_
 refine Z1 ?_
 refine dM (φs' := [fSl bF y1.Chans, fSl bW y1.Spots, fSl bK y1.Rules]) trivial rfl rfl (has rfl) (has rfl) (aO (aZ) (aO (aZ) (aO (aZ) bX))) (sz rfl) rfl rfl rfl ?_
 revert H; refine B4 fun y2 h2 H => ?_
 refine Z2 ?_
 refine Tn (cK rfl uO rfl) fun b2 => ?_
 refine dM (φs' := [fSl (aB .i64) y2.Chans, fSl (aB .i64) y2.Rules, fSl (tSl (aB .i64)) y2.Args]) trivial rfl rfl (has rfl) (has rfl) (aO (aZ) (aO (aZ) (aO (aZ) bX))) (sz rfl) rfl rfl rfl ?_
 refine Z1 ?_
 refine aH ?_
 revert H; refine I9 (fun c3 H => ?_) fun c3 H => ?_
 refine Z12 ?_
 refine Z12 ?_
 revert H; refine B1 fun r1 H e1 => ?_
 cases e1; cases Hr2
 revert H; refine B3 fun r2 H e2 => ?_
 cases e2; cases Hr1
 cases H
 refine aG [] (by decide) ?_
 exact To
 revert H; refine I9 (fun c4 H => ?_) fun c4 H => ?_
 refine Z12 ?_
 revert H; refine B4 fun r3 H e3 => ?_
 cases e3; cases Hr2
 revert H; refine B3 fun r4 H e4 => ?_
 cases e4; cases Hr1
 cases H
 refine aG [] (by decide) ?_
 exact To
 revert H; refine I9 (fun c5 H => ?_) fun c5 H => ?_
 revert H; refine B7 fun r5 H e5 => ?_
 cases e5; cases Hr2
 revert H; refine B3 fun r6 H e6 => ?_
 cases e6; cases Hr1
 cases H
 refine aG [] (by decide) ?_
 exact To
 refine Z10 ?_
 refine Tl (ι := Nat × Int) (fun i => mH y1 y2 i.1 i.2 = _) (fun i => i.1) (fun i => [(1, fSl bC a1), (23, fSl aJ a0.ScopeProg.Defs), (24, aA .i64 (a0.ScopeProg.Defs.length : Int)), (25, aA .i64 x2), (6, fEq (ptr b1)), (60, fSl (tSl (aB .i64)) y2.Args), (61, aA .i64 (y2.Args.length : Int)), (62, aA .i64 i.2)]) (fun i => [aC b2 61 [fSl (aB .i64) y2.Chans, fSl (aB .i64) y2.Rules, fSl (tSl (aB .i64)) y2.Args], aC b1 99 [fSl bF y1.Chans, fSl bW y1.Spots, fSl bK y1.Rules]]) (fuel, 0) H ?_
 clear H; rintro ⟨k2, x4⟩ H
 replace H : mH y1 y2 k2 x4 = _ := H
 try dsimp only
 obtain _ | k2 := k2
 rw [mH] at H; cases H
 rw [mH] at H
 refine Z3 ?_
 refine aH ?_
 revert H; refine is (fun c6 H => ?_) fun c6 H => ?_
 refine Z3 ?_
 refine aH ?_
 revert H; refine B3 fun y3 h3 H => ?_
 revert H; refine B11 fun y4 h4 H => ?_
 revert H; refine I5 (fun c7 H => ?_) fun c7 H => ?_
 revert H; refine B11 fun r7 H e7 => ?_
 cases e7; cases Hr2
 revert H; refine B3 fun r8 H e8 => ?_
 cases e8; cases Hr1
 cases H
 refine aG [] (by decide) ?_
 exact To
 revert H; refine B5 fun z1 h5 H => ?_
 refine Z3 ?_
 exact Tm ((k2, z1)) ⟨H, ls⟩
 refine Z7 ?_
 refine aG [] (by decide) ?_
 exact Tm (()) (ij H)
 clear H; intro i hi; subst o2; have H := Hr2; clear Hr2; try dsimp only at H
 try dsimp only
 revert H; refine B1 fun z2 h6 H => ?_
 refine Z3 ?_
 exact Tm ((k1, z2)) ⟨H, ls⟩
 refine Z6 ?_
 exact Tm (()) (ij H)
 clear H; intro i hi; subst o1; have H := Hr1; clear Hr1; try dsimp only at H
 try dsimp only
 revert H; refine B3 fun y5 h7 H => ?_
 refine gS trivial rfl rfl rfl (has rfl) (aK.cons (has rfl) (aK.cons (has rfl) (aK.cons (dA rfl (oI (cb rfl) (fun x r hx => aG4 x.1 x.2.1 x.2.2 r hx))) aK.nil))) rfl (cb rfl) (aCN fuel a1 a1 (fun x => vP x.1 x.2.1 x.2.2) y5 h7) rfl ?_
 refine Z3 ?_
 cases H
 exact To
def oL (a0 : Int) : Option (Int) :=
 if a0 = 1 then
  some 0
 else
  if a0 = 4 then
   some 2
  else
   some 1
theorem tW  (a0 : Int) (r : Int) (H : oL a0 = some r) : FnS Tryz.prog 46 [aA .i64 a0] [] (aA .i64 r) (fun _ => []) := by
 unfold oL at H
 refine bD Tryz.func46 rfl Tryz.ntmps46 rfl (fun β => ?_)
 refine Z3 ?_
 refine aH ?_
 revert H; refine I8 (fun c1 H => ?_) fun c1 H => ?_
 refine Z7 ?_
 cases H
 exact To
 revert H; refine I5 (fun c2 H => ?_) fun c2 H => ?_
 refine Z7 ?_
 cases H
 exact To
 refine Z8 ?_
 cases H
 exact To
def pW (a0 : Int) (a1 : Int) : Option (Int) :=
 (chk (a0 + a1)).bind fun z1 =>
 some (min z1 2)
theorem aAb  (a0 : Int) (a1 : Int) (r : Int) (H : pW a0 a1 = some r) : FnS Tryz.prog 66 [aA .i64 a0, aA .i64 a1] [] (aA .i64 r) (fun _ => []) := by
 unfold pW at H
 refine bD Tryz.func66 rfl Tryz.ntmps66 rfl (fun β => ?_)
 revert H; refine B6 fun z1 h1 H => ?_
 refine Z5 ?_
 cases H
 exact To
def rC (a0 : Usage_text) (a1 : Usage_channel) (a2 : Int) : Option (Bool) :=
 (idx a0.ScopeProg.Defs a1.def_).bind fun y1 =>
 (idx y1.Chans a1.index).bind fun y2 =>
 (idx a0.ScopeProg.Nodes a2).bind fun y3 =>
 some (decide (y2.Many = (y3.Args.length : Int)))
theorem aGf  (a0 : Usage_text) (a1 : Usage_channel) (a2 : Int) (r : Bool) (H : rC a0 a1 a2 = some r) : FnS Tryz.prog 75 [aF bJ a0, fSt dJ a1, aA .i64 a2] [] (aI r) (fun _ => []) := by
 unfold rC at H
 refine bD Tryz.func75 rfl Tryz.ntmps75 rfl (fun β => ?_)
 refine Z1 ?_
 refine Tn (cF rfl (has rfl) bQ) fun b1 => ?_
 refine Z2 ?_
 refine aH ?_
 revert H; refine bs fun y1 h1 H => ?_
 revert H; refine bs fun y2 h2 H => ?_
 revert H; refine bs fun y3 h3 H => ?_
 apply bH (ods := [_, _, _, _, _, _, _, _, _, _, _, _, _, _, _, _, _, _, _, _, _, _, _, _, _, _, _]) 27 0 1 bG rfl rfl rfl
 refine ND ?_
 refine M8 ?_
 intros
 refine M8 ?_
 intros
 refine M8 ?_
 intros
 refine M3 ?_
 intros
 refine Z3 ?_
 cases H
 refine aG [] (by decide) ?_
 exact To
 exact fk
 kernel_rfl
def mA (a1 : List UsageDef) (a3 : Int) (y1 : ScopeNode) (y2 : aQ Int Usage_channel) : Nat → Int → Int → Option (Int)
| 0, _, _ => none
| k + 1, x5, x6 =>
 if x6 < (y1.Args.length : Int) then
  ((idx y1.Args x6).bind fun y4 =>
  if y4.Op ≠ 2 then
   some x5
  else
   if y4.N ≠ a3 then
    some x5
   else
    bif (y2.get y1.N).isSome then
     (idx a1 (((y2.get y1.N).getD (⟨0, 0⟩ : Usage_channel)).def_)).bind fun y5 =>
     (idx y5.Args (((y2.get y1.N).getD (⟨0, 0⟩ : Usage_channel)).index)).bind fun y6 =>
     (idx y6 x6).bind fun y7 =>
     (oL y7).bind fun y8 =>
     (pW x5 y8).bind fun y9 =>
     some y9
    else
     some 2).bind fun x7 =>
  (chk (x6 + 1)).bind fun z1 =>
  mA a1 a3 y1 y2 k x7 z1
 else
  some x5
def wT (fuel : Nat) (a0 : Usage_text) (a1 : List UsageDef) (a2 : Int) (a3 : Int) : Option (Int) :=
 (idx a0.ScopeProg.Nodes a2).bind fun y1 =>
 (idx a0.denotes a2).bind fun y2 =>
 (bif (y2.get y1.N).isSome then
  (rC a0 (⟨((y2.get y1.N).getD (⟨0, 0⟩ : Usage_channel)).def_, ((y2.get y1.N).getD (⟨0, 0⟩ : Usage_channel)).index⟩ : Usage_channel) a2).bind fun y3 =>
  bif y3 then
   some (Sum.inl ())
  else
   (some 0).bind fun r => some (Sum.inr r)
 else
  some (Sum.inl ())).bind fun o => match o with
 | Sum.inr r => some r
 | Sum.inl _ =>
 (if y1.N = a3 then
  some 1
 else
  some 0).bind fun x1 =>
 (mA a1 a3 y1 y2 fuel x1 0).bind fun x2 =>
 some x2
theorem aGJ (fuel : Nat)  (a0 : Usage_text) (a1 : List UsageDef) (a2 : Int) (a3 : Int) (r : Int) (H : wT fuel a0 a1 a2 a3 = some r) : FnS Tryz.prog 64 [aF bJ a0, fSl bC a1, aA .i64 a2, aA .i64 a3] [] (aA .i64 r) (fun _ => []) := by
 unfold wT at H
 refine bD Tryz.func64 rfl Tryz.ntmps64 rfl (fun β => ?_)
 revert H; refine B10 fun y1 h1 H => ?_
 refine Z2 ?_
 refine Tn (cK rfl pN rfl) fun b1 => ?_
 refine dM (φs' := [aA .i64 y1.Op, aA .i64 y1.N, fSl bA y1.Args, fSl (aB .i64) y1.Kids]) trivial rfl rfl (has rfl) (has rfl) (aO (aD trivial) (aO (aD trivial) (aO (aZ) (aO (aZ) bX)))) (sz rfl) rfl rfl rfl ?_
 refine Z1 ?_
 refine aH ?_
 revert H; refine bs fun y2 h2 H => ?_
 apply bH (ods := [_, _, _, _, _, _, _, _, _, _, _, _, _, _, _, _]) 16 1 2 bG rfl rfl rfl
 refine ND ?_
 refine M8 ?_
 intros
 refine M1 ?_
 intros
 refine My (aEJ (zα := (⟨0, 0⟩ : Usage_channel)) (k := y1.N) rfl hh hh rfl yQ (sW [(.int .i64 0), (.int .i64 0)])) fun _ => ?_
 refine M3 ?_
 intros
 refine Mn 1 (fun b2 => ptr b2) (fun b2 => aC b2 121 [aA .i64 0, aA .i64 0]) rfl (cK rfl aB4 rfl) (fun b2 u1 => ?_)
 refine wF (od := od1 13 [1] true (fun b2 _ => fAny) (fun b2 _ => [aC b2 121 [aA .i64 (((y2.get y1.N).getD (⟨0, 0⟩ : Usage_channel)).def_), aA .i64 (((y2.get y1.N).getD (⟨0, 0⟩ : Usage_channel)).index)]])) (p := 1) (φs' := [aA .i64 (((y2.get y1.N).getD (⟨0, 0⟩ : Usage_channel)).def_), aA .i64 (((y2.get y1.N).getD (⟨0, 0⟩ : Usage_channel)).index)]) rfl (fun _ => rfl) (fun _ => rfl) trivial rfl rfl rfl (has rfl) (has rfl) (aO (aD trivial) (aO (aD trivial) bX)) (sz rfl) rfl rfl rfl (fun _ => ?_)
 refine M1 ?_
 intros
 revert H; refine B2 fun o1 H Hr1 => ?_
 refine aW (ι := Unit) (fun i => o1 = Sum.inl ()) (fun i => [(1, fSl bC a1), (3, aA .i64 a3), (9, fEq (ptr b1)), (10, fEq (ptr b2)), (11, aI ((y2.get y1.N).isSome))]) (fun i => [aC b1 51 [aA .i64 y1.Op, aA .i64 y1.N, fSl bA y1.Args, fSl (aB .i64) y1.Kids], aC b2 121 [aA .i64 (((y2.get y1.N).getD (⟨0, 0⟩ : Usage_channel)).def_), aA .i64 (((y2.get y1.N).getD (⟨0, 0⟩ : Usage_channel)).index)]]) ?_ ?_
 refine Z3 ?_
 revert H; refine cs (fun c1 H => ?_) fun c1 H => ?_
 revert H; refine B3 fun y3 h3 H => ?_
 refine Tc (aGf _ _ _ _ h3) ?_
 refine Z3 ?_
 revert H; refine cs (fun c2 H => ?_) fun c2 H => ?_
 refine Z3 ?_
 exact Tm (()) (ij H)
 revert H; refine B5 fun r1 H e1 => ?_
 cases e1; cases Hr1
 cases H
 refine aG [] (by decide) ?_
 exact To
 refine Z10 ?_
 exact Tm (()) (ij H)
 clear H; intro i hi; subst o1; have H := Hr1; clear Hr1; try dsimp only at H
 try dsimp only
 revert H; refine B3 fun o2 H Hr2 => ?_
 refine aW (ι := Int) (fun i => o2 = i) (fun i => [(1, fSl bC a1), (3, aA .i64 a3), (9, fEq (ptr b1)), (10, fEq (ptr b2)), (11, aI ((y2.get y1.N).isSome)), (12, aA .i64 i)]) (fun i => [aC b1 51 [aA .i64 y1.Op, aA .i64 y1.N, fSl bA y1.Args, fSl (aB .i64) y1.Kids], aC b2 121 [aA .i64 (((y2.get y1.N).getD (⟨0, 0⟩ : Usage_channel)).def_), aA .i64 (((y2.get y1.N).getD (⟨0, 0⟩ : Usage_channel)).index)]]) ?_ ?_
 revert H; refine I6 (fun c3 H => ?_) fun c3 H => ?_
 refine Z4 ?_
 exact Tm (1) (ij H)
 refine Z3 ?_
 exact Tm (0) (ij H)
 clear H; intro x1 hi; subst o2; have H := Hr2; clear Hr2; try dsimp only at H
 try dsimp only
 revert H; refine bs fun o3 H Hr3 => ?_
 refine aW (ι := Int) (fun i => o3 = i) (fun i => [(12, aA .i64 i)]) (fun i => [aC b1 51 [aA .i64 y1.Op, aA .i64 y1.N, fSl bA y1.Args, fSl (aB .i64) y1.Kids], aC b2 121 [aA .i64 (((y2.get y1.N).getD (⟨0, 0⟩ : Usage_channel)).def_), aA .i64 (((y2.get y1.N).getD (⟨0, 0⟩ : Usage_channel)).index)]]) ?_ ?_
 refine Z7 ?_
 refine Tl (ι := Nat × Int × Int) (fun i => mA a1 a3 y1 y2 i.1 i.2.1 i.2.2 = _) (fun i => i.1) (fun i => [(1, fSl bC a1), (3, aA .i64 a3), (10, fEq (ptr b2)), (11, aI ((y2.get y1.N).isSome)), (12, aA .i64 i.2.1), (49, fSl bA y1.Args), (50, aA .i64 (y1.Args.length : Int)), (51, aA .i64 i.2.2)]) (fun i => [aC b1 51 [aA .i64 y1.Op, aA .i64 y1.N, fSl bA y1.Args, fSl (aB .i64) y1.Kids], aC b2 121 [aA .i64 (((y2.get y1.N).getD (⟨0, 0⟩ : Usage_channel)).def_), aA .i64 (((y2.get y1.N).getD (⟨0, 0⟩ : Usage_channel)).index)]]) (fuel, x1, 0) H ?_
 clear H; rintro ⟨k1, x5, x6⟩ H
 replace H : mA a1 a3 y1 y2 k1 x5 x6 = _ := H
 try dsimp only
 obtain _ | k1 := k1
 rw [mA] at H; cases H
 rw [mA] at H
 refine Z3 ?_
 refine aH ?_
 revert H; refine is (fun c4 H => ?_) fun c4 H => ?_
 revert H; refine B3 fun o4 H Hr4 => ?_
 refine aW (ι := Int) (fun i => o4 = i) (fun i => [(1, fSl bC a1), (3, aA .i64 a3), (10, fEq (ptr b2)), (11, aI ((y2.get y1.N).isSome)), (12, aA .i64 i), (49, fSl bA y1.Args), (50, aA .i64 (y1.Args.length : Int)), (51, aA .i64 x6)]) (fun i => [aC b1 51 [aA .i64 y1.Op, aA .i64 y1.N, fSl bA y1.Args, fSl (aB .i64) y1.Kids], aC b2 121 [aA .i64 (((y2.get y1.N).getD (⟨0, 0⟩ : Usage_channel)).def_), aA .i64 (((y2.get y1.N).getD (⟨0, 0⟩ : Usage_channel)).index)]]) ?_ ?_
 revert H; refine B3 fun y4 h4 H => ?_
 refine Z2 ?_
 refine Tn (cK rfl aBy rfl) fun b3 => ?_
 refine Z1 ?_
 refine dM (φs' := [aA .i64 y4.Op, aA .i64 y4.N, gE y4.Kids]) trivial rfl rfl (has rfl) (has rfl) (aO (aD trivial) (aO (aD trivial) (aO (aA6) bX))) (sz rfl) rfl rfl rfl ?_
 revert H; refine I7 (fun c5 H => ?_) fun c5 H => ?_
 refine Z12 ?_
 refine aG [1, 2] (by decide) ?_
 exact Tm (x5) (ij H)
 revert H; refine I7 (fun c6 H => ?_) fun c6 H => ?_
 refine Z5 ?_
 refine aG [1, 2] (by decide) ?_
 exact Tm (x5) (ij H)
 refine Z5 ?_
 revert H; refine cs (fun c7 H => ?_) fun c7 H => ?_
 revert H; refine B1 fun y5 h5 H => ?_
 revert H; refine bs fun y6 h6 H => ?_
 revert H; refine bs fun y7 h7 H => ?_
 revert H; refine bs fun y8 h8 H => ?_
 revert H; refine bs fun y9 h9 H => ?_
 apply bH (ods := [_, _, _, _, _, _, _, _, _, _, _, _, _, _, _, _, _]) 17 0 3 bG rfl rfl rfl
 refine ND ?_
 refine M8 ?_
 intros
 refine M6 ?_
 intros
 refine Nc (tW _ _ h8) fun _ => ?_
 refine Nc (aAb _ _ _ h9) fun _ => ?_
 refine M1 ?_
 intros
 refine Z5 ?_
 refine aG [1, 2] (by decide) ?_
 exact Tm (y9) (ij H)
 exact fk
 kernel_rfl
 refine Z7 ?_
 refine aG [1, 2] (by decide) ?_
 exact Tm (2) (ij H)
 clear H; intro x7 hi; subst o4; have H := Hr4; clear Hr4; try dsimp only at H
 try dsimp only
 revert H; refine B1 fun z1 h10 H => ?_
 refine Z3 ?_
 exact Tm ((k1, x7, z1)) ⟨H, ls⟩
 refine Z6 ?_
 exact Tm (x5) (ij H)
 clear H; intro x2 hi; subst o3; have H := Hr3; clear Hr3; try dsimp only at H
 try dsimp only
 refine Z5 ?_
 cases H
 refine aG [] (by decide) ?_
 exact To
 exact fk
 kernel_rfl
def pZ (a0 : Int) (a1 : Int) : Option (Int) :=
 if a0 < a1 then
  some a1
 else
  some a0
theorem aEQ  (a0 : Int) (a1 : Int) (r : Int) (H : pZ a0 a1 = some r) : FnS Tryz.prog 67 [aA .i64 a0, aA .i64 a1] [] (aA .i64 r) (fun _ => []) := by
 unfold pZ at H
 refine bD Tryz.func67 rfl Tryz.ntmps67 rfl (fun β => ?_)
 refine Z3 ?_
 refine aH ?_
 revert H; refine I5 (fun c1 H => ?_) fun c1 H => ?_
 refine Z6 ?_
 cases H
 exact To
 refine Z8 ?_
 cases H
 exact To
def xC (a0 : Int) (a1 : Int) : Option (Int) :=
 (chk (a0 * a1)).bind fun z1 =>
 some (min z1 2)
theorem aI0  (a0 : Int) (a1 : Int) (r : Int) (H : xC a0 a1 = some r) : FnS Tryz.prog 93 [aA .i64 a0, aA .i64 a1] [] (aA .i64 r) (fun _ => []) := by
 unfold xC at H
 refine bD Tryz.func93 rfl Tryz.ntmps93 rfl (fun β => ?_)
 revert H; refine B6 fun z1 h1 H => ?_
 refine Z5 ?_
 cases H
 exact To
end Go.Proofs.YtmnbfgeljmhekaaGreat
set_option maxRecDepth 100000
set_option maxHeartbeats 2000000
namespace Go.Proofs.YtmnbfgeljmhekaaGreat
open Go.SX Go.SW Go.Dt
attribute [local irreducible] Code.wpIn wpListIn Exit.then Exit.inBlock
def sQ (rec_usage_text_sends : Usage_text → (List UsageDef) → Int → Int → Option (Int)) (a0 : Usage_text) (a1 : List UsageDef) (a3 : Int) (x1 : Int) (x3 : Int) : Option (Int) :=
 (rec_usage_text_sends a0 a1 x1 a3).bind fun y6 =>
 (pW x3 y6).bind fun y7 =>
 some y7
def pS (rec_usage_text_sends : Usage_text → (List UsageDef) → Int → Int → Option (Int)) (a0 : Usage_text) (a1 : List UsageDef) (a3 : Int) (y1 : ScopeNode) (y8 : ScopeDef) : Nat → Int → Int → Option (Int)
| 0, _, _ => none
| k + 1, x8, x9 =>
 if x8 < (y8.Rules.length : Int) then
  (idx y8.Rules x8).bind fun y9 =>
  (idx a1 y1.N).bind fun y10 =>
  (idx y10.Rules x8).bind fun y11 =>
  (oL y11).bind fun y12 =>
  (rec_usage_text_sends a0 a1 y9.Node a3).bind fun y13 =>
  (xC y12 y13).bind fun y14 =>
  (pW x9 y14).bind fun y15 =>
  (chk (x8 + 1)).bind fun z1 =>
  pS rec_usage_text_sends a0 a1 a3 y1 y8 k z1 y15
 else
  some x9
mutual
def fD : Nat → Usage_text → (List UsageDef) → Int → Int → Option (Int)
| 0, _, _, _, _ => none
| fuel + 1, a0, a1, a2, a3 =>
 (idx a0.ScopeProg.Nodes a2).bind fun y1 =>
 if y1.Op = 2 then
  (wT fuel a0 a1 a2 a3).bind fun y2 =>
  some y2
 else
  if y1.Op = 3 then
   ((rK fuel) a0 a1 a2 a3 (fun x => pW x.1 x.2)).bind fun y3 =>
   some y3
  else
   if y1.Op = 5 then
    ((rK fuel) a0 a1 a2 a3 (fun x => pZ x.1 x.2)).bind fun y4 =>
    some y4
   else
    (if y1.Op = 6 then
     some (decide (y1.Op = 6))
    else
     some (decide (y1.Op = 8))).bind fun x1 =>
    bif x1 then
     (idx a0.ScopeProg.Nodes a2).bind fun y5 =>
     (idx y5.Kids 0).bind fun y6 =>
     ((fD fuel) a0 a1 y6 a3).bind fun y7 =>
     some y7
    else
     if y1.Op = 4 then
      ((oX fuel) a0 a1 a2 a3).bind fun y8 =>
      some y8
     else
      some 0
def rK : Nat → Usage_text → (List UsageDef) → Int → Int → (Int × Int → Option Int) → Option (Int)
| 0, _, _, _, _, _ => none
| fuel + 1, a0, a1, a2, a3, a4 =>
 (idx a0.ScopeProg.Nodes a2).bind fun y1 =>
 (idx y1.Kids 0).bind fun y2 =>
 ((fD fuel) a0 a1 y2 a3).bind fun y3 =>
 (idx y1.Kids 1).bind fun y4 =>
 ((fD fuel) a0 a1 y4 a3).bind fun y5 =>
 (a4 (y3, y5)).bind fun y6 =>
 some y6
def oX : Nat → Usage_text → (List UsageDef) → Int → Int → Option (Int)
| 0, _, _, _, _ => none
| fuel + 1, a0, a1, a2, a3 =>
 (idx a0.ScopeProg.Nodes a2).bind fun y1 =>
 (idx y1.Kids 0).bind fun y2 =>
 ((fD fuel) a0 a1 y2 a3).bind fun y3 =>
 (qJ a0 y1.N).bind fun y4 =>
 (sE fuel (fun (x : Int) (t : Int) => sQ (fD fuel) a0 a1 a3 x t) y3 y4.1 y4.2).bind fun y5 =>
 ((idx a0.ScopeProg.Defs y1.N).bind fun y8 =>
 pS (fD fuel) a0 a1 a3 y1 y8 fuel 0 y5).bind fun x5 =>
 some x5
end
theorem aDq : ∀ (fuel : Nat), (∀  (a0 : Usage_text) (a1 : List UsageDef) (a2 : Int) (a3 : Int) (r : Int) (H : fD fuel a0 a1 a2 a3 = some r), FnS Tryz.prog 27 [aF bJ a0, fSl bC a1, aA .i64 a2, aA .i64 a3] [] (aA .i64 r) (fun _ => [])) ∧ (∀  (a0 : Usage_text) (a1 : List UsageDef) (a2 : Int) (a3 : Int) (a4 : Int × Int → Option Int) (r : Int) (H : rK fuel a0 a1 a2 a3 a4 = some r), FnS Tryz.prog 65 [aF bJ a0, fSl bC a1, aA .i64 a2, aA .i64 a3, fFn Tryz.prog (fun (x : Int × Int) => [aA .i64 x.1, aA .i64 x.2]) (fun (r : Int) => aA .i64 r) a4] [] (aA .i64 r) (fun _ => [])) ∧ (∀  (a0 : Usage_text) (a1 : List UsageDef) (a2 : Int) (a3 : Int) (r : Int) (H : oX fuel a0 a1 a2 a3 = some r), FnS Tryz.prog 68 [aF bJ a0, fSl bC a1, aA .i64 a2, aA .i64 a3] [] (aA .i64 r) (fun _ => [])) := by
 intro fuel
 induction fuel with
 | zero => exact ⟨fun a0 a1 a2 a3 r H => (by rw [fD] at H; cases H), fun a0 a1 a2 a3 a4 r H => (by rw [rK] at H; cases H), fun a0 a1 a2 a3 r H => (by rw [oX] at H; cases H)⟩
 | succ fuel ih =>
 obtain ⟨ih_usage_text_sends, ih_usage_text_both, ih_usage_text_inner⟩ := ih
 refine ⟨?_, ?_, ?_⟩
 intro a0 a1 a2 a3 r H
 rw [fD] at H
 refine bD Tryz.func27 rfl Tryz.ntmps27 rfl (fun β => ?_)
 refine Z3 ?_
 refine aH ?_
 revert H; refine B7 fun y1 h1 H => ?_
 revert H; refine I9 (fun c1 H => ?_) fun c1 H => ?_
 revert H; refine B6 fun y2 h2 H => ?_
 refine Tc (aGJ _ _ _ _ _ _ h2) ?_
 refine Z5 ?_
 cases H
 exact To
 revert H; refine I5 (fun c2 H => ?_) fun c2 H => ?_
 revert H; refine B6 fun y3 h3 H => ?_
 refine gS trivial rfl rfl rfl (has rfl) (aK.cons (has rfl) (aK.cons (has rfl) (aK.cons (has rfl) (aK.cons (has rfl) (aK.cons (dA rfl (oI (cb rfl) (fun x r hx => aAb x.1 x.2 r hx))) aK.nil))))) rfl (cb rfl) (ih_usage_text_both a0 a1 a2 a3 (fun x => pW x.1 x.2) y3 h3) rfl ?_
 refine Z5 ?_
 cases H
 exact To
 revert H; refine I5 (fun c3 H => ?_) fun c3 H => ?_
 revert H; refine B6 fun y4 h4 H => ?_
 refine gS trivial rfl rfl rfl (has rfl) (aK.cons (has rfl) (aK.cons (has rfl) (aK.cons (has rfl) (aK.cons (has rfl) (aK.cons (dA rfl (oI (cb rfl) (fun x r hx => aEQ x.1 x.2 r hx))) aK.nil))))) rfl (cb rfl) (ih_usage_text_both a0 a1 a2 a3 (fun x => pZ x.1 x.2) y4 h4) rfl ?_
 refine Z5 ?_
 cases H
 exact To
 revert H; refine B1 fun o1 H Hr1 => ?_
 refine aW (ι := Bool) (fun i => o1 = i) (fun i => [(0, aF bJ a0), (1, fSl bC a1), (2, aA .i64 a2), (3, aA .i64 a3), (17, aA .i64 y1.Op), (39, aI i)]) (fun i => []) ?_ ?_
 revert H; refine I4 (fun c4 H => ?_) fun c4 H => ?_
 refine Z3 ?_
 exact Tm (decide (y1.Op = 6)) (ij H)
 refine Z5 ?_
 exact Tm (decide (y1.Op = 8)) (ij H)
 clear H; intro x1 hi; subst o1; have H := Hr1; clear Hr1; try dsimp only at H
 try dsimp only
 revert H; refine cs (fun c5 H => ?_) fun c5 H => ?_
 revert H; refine B10 fun y5 h5 H => ?_
 revert H; refine B3 fun y6 h6 H => ?_
 revert H; refine B3 fun y7 h7 H => ?_
 refine Tc (ih_usage_text_sends _ _ _ _ _ h7) ?_
 refine Z5 ?_
 cases H
 exact To
 revert H; refine I5 (fun c6 H => ?_) fun c6 H => ?_
 revert H; refine B6 fun y8 h8 H => ?_
 refine Tc (ih_usage_text_inner _ _ _ _ _ h8) ?_
 refine Z5 ?_
 cases H
 exact To
 refine Z8 ?_
 cases H
 exact To
 intro a0 a1 a2 a3 a4 r H
 rw [rK] at H
 refine bD Tryz.func65 rfl Tryz.ntmps65 rfl (fun β => ?_)
 revert H; refine B10 fun y1 h1 H => ?_
 refine Z5 ?_
 refine aH ?_
 revert H; refine bs fun y2 h2 H => ?_
 revert H; refine bs fun y3 h3 H => ?_
 revert H; refine bs fun y4 h4 H => ?_
 revert H; refine bs fun y5 h5 H => ?_
 revert H; refine bs fun y6 h6 H => ?_
 apply bH (ods := [_, _, _, _, _, _, _, _, _, _, _, _, _, _, _, _, _]) 17 0 0 bG rfl rfl rfl
 refine ND ?_
 refine M7 ?_
 intros
 refine Nc (ih_usage_text_sends _ _ _ _ _ h3) fun _ => ?_
 refine M6 ?_
 intros
 refine Nc (ih_usage_text_sends _ _ _ _ _ h5) fun _ => ?_
 refine aEF (od := odC [] true (aA .i64 y6) []) (Φ := aA .i64 y6) (y3, y5) rfl (fun _ => rfl) trivial rfl rfl (has rfl) (aK.cons (has rfl) (aK.cons (has rfl) aK.nil)) h6 rfl (fun _ => ?_)
 refine M1 ?_
 intros
 refine Z3 ?_
 cases H
 exact To
 exact fk
 kernel_rfl
 intro a0 a1 a2 a3 r H
 rw [oX] at H
 refine tN Tryz.func68 rfl Tryz.ntmps68 rfl (fun β => ?_)
 refine Z1 ?_
 refine Tn (cF rfl (has rfl) (aT (tZ))) fun b1 => ?_
 refine Tn (cF rfl (has rfl) (aT (aZ))) fun b2 => ?_
 refine Tn (cF rfl (has rfl) (aT (aD trivial))) fun b3 => ?_
 revert H; refine B9 fun y1 h1 H => ?_
 refine Z2 ?_
 refine Tn (cK rfl pN rfl) fun b4 => ?_
 refine dM (φs' := [aA .i64 y1.Op, aA .i64 y1.N, fSl bA y1.Args, fSl (aB .i64) y1.Kids]) trivial rfl rfl (has rfl) (has rfl) (aO (aD trivial) (aO (aD trivial) (aO (aZ) (aO (aZ) bX)))) (sz rfl) rfl rfl rfl ?_
 refine Z1 ?_
 refine aH ?_
 revert H; refine bs fun y2 h2 H => ?_
 revert H; refine bs fun y3 h3 H => ?_
 apply bH (ods := [_, _, _, _, _, _, _, _, _, _]) 10 1 5 bG rfl rfl rfl
 refine ND ?_
 refine M7 ?_
 intros
 refine Nc (ih_usage_text_sends _ _ _ _ _ h3) fun _ => ?_
 refine Mn 4 (fun b5 => ptr b5) (fun b5 => aC b5 67 [aA .i64 0]) rfl (cK rfl aFb rfl) (fun b5 u1 => ?_)
 refine kP (od := od1 8 [4] true (fun b5 _ => fAny) (fun b5 _ => [aC b5 67 [aA .i64 y3]])) (p := 4) (φs' := [aA .i64 y3]) rfl (fun _ => rfl) (fun _ => rfl) trivial rfl rfl rfl (has rfl) (has rfl) (aD trivial) (sz rfl) rfl rfl (fun _ => ?_)
 refine Z2 ?_
 refine aH ?_
 revert H; refine B4 fun y4 h4 H => ?_
 refine gS trivial rfl rfl rfl (has rfl) (aK.cons (dA rfl aE7) (aK.cons (has rfl) aK.nil)) rfl (cb rfl) (aBk a0 y1.N y4 h4) rfl ?_
 refine Z2 ?_
 refine T_sub [(0, aF bJ a0), (1, fSl bC a1), (2, aA .i64 a2), (3, aA .i64 a3), (4, fEq (ptr b1)), (5, fEq (ptr b2)), (7, fEq (ptr b3)), (8, aA .i64 0), (14, aF bJ a0), (15, aF bJ a0), (16, aF dO a0.ScopeProg), (17, aF (tSl aL) a0.ScopeProg.Nodes), (18, fSl aL a0.ScopeProg.Nodes), (19, aA .i64 a2), (20, aF aL y1), (21, fSt aL y1), (9, fEq (ptr b4)), (22, aF bJ a0), (23, fSl bC a1), (24, fEq (.pointer (some ⟨b4, 3, none⟩))), (25, fSl (aB .i64) y1.Kids), (26, aF (aB .i64) y2), (27, aA .i64 y2), (28, aA .i64 a3), (29, aA .i64 y3), (10, fEq (ptr b5)), (30, aF bJ a0), (31, fEq (.pointer (some ⟨b4, 1, none⟩))), (32, aA .i64 y1.N), (33, cU 101 [aF (fN eE) y4.1, aF (aB .i64) y4.2])] (Sc (Sc (Sc (Sc (Sc (Sc (Sc (Sc (Sc (Sc (Sc (Sc (Sc (Sc (Sc (Sc (Sc (Sc (Sc (Sc (Sc (Sc (Sc (Sc (Sc (Sc (Sc (Sc (Sc (Sc fY.nil)))))))))))))))))))))))))))))) ?_
 revert H; refine bs fun y5 h5 H => ?_
 refine aA4 (s := y3) (s' := y5) (fun (x : Int) => [aA .i64 x]) (fun (x : Int) (t : Int) => sQ (fD fuel) a0 a1 a3 x t) (fun (t : Int) => [aC b4 51 [aA .i64 y1.Op, aA .i64 y1.N, fSl bA y1.Args, fSl (aB .i64) y1.Kids], aC b3 3 [aA .i64 a3], aC b2 27 [fSl bC a1], aC b1 64 [aF bJ a0], aC b5 67 [aA .i64 t]]) (has rfl) (cb rfl) rfl (fun _ => rfl) rfl (fun J => aC9 fuel J (fun (x : Int) (t : Int) => sQ (fD fuel) a0 a1 a3 x t) y3 y4.1 y4.2 y5 h5) (fun β' l rec x1 t t' hs hp hY => ?_) (fun rb => ?_)
 generalize t = x3 at *
 have H : sQ (fD fuel) a0 a1 a3 x1 x3 = some t' := hY; clear hY; unfold sQ at H; try dsimp only at H
 show T β' _ _ (sL [34] ((fun (x : Int) => [aA .i64 x]) x1) [(0, aF bJ a0), (1, fSl bC a1), (2, aA .i64 a2), (3, aA .i64 a3), (4, fEq (ptr b1)), (5, fEq (ptr b2)), (7, fEq (ptr b3)), (8, aA .i64 0), (14, aF bJ a0), (15, aF bJ a0), (16, aF dO a0.ScopeProg), (17, aF (tSl aL) a0.ScopeProg.Nodes), (18, fSl aL a0.ScopeProg.Nodes), (19, aA .i64 a2), (20, aF aL y1), (21, fSt aL y1), (9, fEq (ptr b4)), (22, aF bJ a0), (23, fSl bC a1), (24, fEq (.pointer (some ⟨b4, 3, none⟩))), (25, fSl (aB .i64) y1.Kids), (26, aF (aB .i64) y2), (27, aA .i64 y2), (28, aA .i64 a3), (29, aA .i64 y3), (10, fEq (ptr b5)), (30, aF bJ a0), (31, fEq (.pointer (some ⟨b4, 1, none⟩))), (32, aA .i64 y1.N), (33, cU 101 [aF (fN eE) y4.1, aF (aB .i64) y4.2])]) (tObj l (.loop rec) :: [aC b4 51 [aA .i64 y1.Op, aA .i64 y1.N, fSl bA y1.Args, fSl (aB .i64) y1.Kids], aC b3 3 [aA .i64 a3], aC b2 27 [fSl bC a1], aC b1 64 [aF bJ a0], aC b5 67 [aA .i64 x3]]) _
 refine Z3 ?_
 refine zN hs ?_
 revert H; refine B1 fun y6 h6 H => ?_
 revert H; refine bs fun y7 h7 H => ?_
 apply bH (ods := [_, _, _, _, _, _, _, _]) 8 0 6 bG rfl rfl rfl
 refine ND ?_
 refine M5 ?_
 intros
 refine Nc (ih_usage_text_sends _ _ _ _ _ h6) fun _ => ?_
 refine Nc (aAb _ _ _ h7) fun _ => ?_
 refine kP (od := odC [5] true (fAny) [aC b5 67 [aA .i64 y7]]) (p := 5) (φs' := [aA .i64 y7]) rfl (fun _ => rfl) (fun _ => rfl) trivial rfl rfl rfl (has rfl) (has rfl) (aD trivial) (sz rfl) rfl rfl (fun _ => ?_)
 refine Z3 ?_
 refine aG [1, 2, 3, 4, 5, 0] (by decide) ?_
 cases H
 refine aG [5, 0, 1, 2, 3, 4] (by decide) ?_
 exact zJ hs hp rfl
 exact fk
 kernel_rfl
 generalize rb = rb1
 show T β _ _ [(0, aF bJ a0), (1, fSl bC a1), (2, aA .i64 a2), (3, aA .i64 a3), (4, fEq (ptr b1)), (5, fEq (ptr b2)), (7, fEq (ptr b3)), (8, aA .i64 0), (14, aF bJ a0), (15, aF bJ a0), (16, aF dO a0.ScopeProg), (17, aF (tSl aL) a0.ScopeProg.Nodes), (18, fSl aL a0.ScopeProg.Nodes), (19, aA .i64 a2), (20, aF aL y1), (21, fSt aL y1), (9, fEq (ptr b4)), (22, aF bJ a0), (23, fSl bC a1), (24, fEq (.pointer (some ⟨b4, 3, none⟩))), (25, fSl (aB .i64) y1.Kids), (26, aF (aB .i64) y2), (27, aA .i64 y2), (28, aA .i64 a3), (29, aA .i64 y3), (10, fEq (ptr b5)), (30, aF bJ a0), (31, fEq (.pointer (some ⟨b4, 1, none⟩))), (32, aA .i64 y1.N), (33, cU 101 [aF (fN eE) y4.1, aF (aB .i64) y4.2])] ([kO rb1] ++ [aC b4 51 [aA .i64 y1.Op, aA .i64 y1.N, fSl bA y1.Args, fSl (aB .i64) y1.Kids], aC b3 3 [aA .i64 a3], aC b2 27 [fSl bC a1], aC b1 64 [aF bJ a0], aC b5 67 [aA .i64 y5]]) _
 dsimp only [List.append, List.cons_append, List.nil_append]
 revert H; refine B2 fun o1 H Hr1 => ?_
 refine aW (ι := Int) (fun i => o1 = i) (fun i => [(10, fEq (ptr b5))]) (fun i => [aC b4 51 [aA .i64 y1.Op, aA .i64 y1.N, fSl bA y1.Args, fSl (aB .i64) y1.Kids], aC b3 3 [aA .i64 a3], aC b2 27 [fSl bC a1], aC b1 64 [aF bJ a0], aC b5 67 [aA .i64 i], kO rb1]) ?_ ?_
 refine aH ?_
 revert H; refine bs fun y8 h8 H => ?_
 apply bH (ods := [_, _, _, _, _, _, _, _, _, _, _, _]) 12 0 6 bG rfl rfl rfl
 refine ND ?_
 refine M8 ?_
 intros
 refine M4 ?_
 intros
 refine Z3 ?_
 refine aG [1, 2, 3, 4, 5, 0] (by decide) ?_
 refine Tl (ι := Nat × Int × Int) (fun i => pS (fD fuel) a0 a1 a3 y1 y8 i.1 i.2.1 i.2.2 = _) (fun i => i.1) (fun i => [(4, fEq (ptr b1)), (5, fEq (ptr b2)), (7, fEq (ptr b3)), (9, fEq (ptr b4)), (10, fEq (ptr b5)), (51, fSl bK y8.Rules), (52, aA .i64 (y8.Rules.length : Int)), (53, aA .i64 i.2.1)]) (fun i => [aC b4 51 [aA .i64 y1.Op, aA .i64 y1.N, fSl bA y1.Args, fSl (aB .i64) y1.Kids], aC b3 3 [aA .i64 a3], aC b2 27 [fSl bC a1], aC b1 64 [aF bJ a0], aC b5 67 [aA .i64 i.2.2], kO rb1]) (fuel, 0, y5) H ?_
 clear H; rintro ⟨k1, x8, x9⟩ H
 replace H : pS (fD fuel) a0 a1 a3 y1 y8 k1 x8 x9 = _ := H
 try dsimp only
 obtain _ | k1 := k1
 rw [pS] at H; cases H
 rw [pS] at H
 refine Z3 ?_
 refine aH ?_
 revert H; refine is (fun c1 H => ?_) fun c1 H => ?_
 refine Z3 ?_
 refine aH ?_
 revert H; refine B3 fun y9 h9 H => ?_
 refine Z2 ?_
 refine Tn (cK rfl uD rfl) fun b6 => ?_
 refine Z1 ?_
 refine dM (φs' := [aA .i64 y9.At, fSl (aB .i64) y9.Joins, aA .i64 y9.Node]) trivial rfl rfl (has rfl) (has rfl) (aO (aD trivial) (aO (aZ) (aO (aD trivial) bX))) (sz rfl) rfl rfl rfl ?_
 revert H; refine B1 fun y10 h10 H => ?_
 revert H; refine bs fun y11 h11 H => ?_
 revert H; refine bs fun y12 h12 H => ?_
 revert H; refine bs fun y13 h13 H => ?_
 revert H; refine bs fun y14 h14 H => ?_
 revert H; refine bs fun y15 h15 H => ?_
 apply bH (ods := [_, _, _, _, _, _, _, _, _, _, _, _, _, _, _, _, _, _, _, _]) 20 0 7 bG rfl rfl rfl
 refine ND ?_
 refine M8 ?_
 intros
 refine M2 ?_
 intros
 refine Nc (tW _ _ h12) fun _ => ?_
 refine M5 ?_
 intros
 refine Nc (ih_usage_text_sends _ _ _ _ _ h13) fun _ => ?_
 refine Nc (aI0 _ _ _ h14) fun _ => ?_
 refine Nc (aAb _ _ _ h15) fun _ => ?_
 refine kP (od := odC [5] true (fAny) [aC b5 67 [aA .i64 y15]]) (p := 5) (φs' := [aA .i64 y15]) rfl (fun _ => rfl) (fun _ => rfl) trivial rfl rfl rfl (has rfl) (has rfl) (aD trivial) (sz rfl) rfl rfl (fun _ => ?_)
 revert H; refine B5 fun z1 h16 H => ?_
 refine Z3 ?_
 refine aG [1, 2, 3, 4, 5, 6] (by decide) ?_
 exact Tm ((k1, z1, y15)) ⟨H, ls⟩
 exact fk
 kernel_rfl
 refine Z6 ?_
 exact Tm (x9) (ij H)
 exact fk
 kernel_rfl
 clear H; intro x5 hi; subst o1; have H := Hr1; clear Hr1; try dsimp only at H
 try dsimp only
 refine Z5 ?_
 cases H
 refine aG [5] (by decide) ?_
 exact aDt [rb1] rfl (bO rfl) rfl rfl
 exact fk
 kernel_rfl
theorem aET (fuel : Nat)  (a0 : Usage_text) (a1 : List UsageDef) (a2 : Int) (a3 : Int) (r : Int) (H : fD fuel a0 a1 a2 a3 = some r) : FnS Tryz.prog 27 [aF bJ a0, fSl bC a1, aA .i64 a2, aA .i64 a3] [] (aA .i64 r) (fun _ => []) := (aDq fuel).1 a0 a1 a2 a3 r H
theorem aHm (fuel : Nat)  (a0 : Usage_text) (a1 : List UsageDef) (a2 : Int) (a3 : Int) (r : Int) (H : oX fuel a0 a1 a2 a3 = some r) : FnS Tryz.prog 68 [aF bJ a0, fSl bC a1, aA .i64 a2, aA .i64 a3] [] (aA .i64 r) (fun _ => []) := (aDq fuel).2.2 a0 a1 a2 a3 r H
def qG (a0 : Int) : Option (Int) :=
 if a0 = 0 then
  some 1
 else
  if a0 = 1 then
   some 3
  else
   some 4
theorem zZ  (a0 : Int) (r : Int) (H : qG a0 = some r) : FnS Tryz.prog 28 [aA .i64 a0] [] (aA .i64 r) (fun _ => []) := by
 unfold qG at H
 refine bD Tryz.func28 rfl Tryz.ntmps28 rfl (fun β => ?_)
 refine Z3 ?_
 refine aH ?_
 revert H; refine I8 (fun c1 H => ?_) fun c1 H => ?_
 refine Z7 ?_
 cases H
 exact To
 revert H; refine I5 (fun c2 H => ?_) fun c2 H => ?_
 refine Z7 ?_
 cases H
 exact To
 refine Z8 ?_
 cases H
 exact To
def aB3 (fuel : Nat) (a0 : ScopeProg) (a1 : List UsageDef) (a2 : Int) (a3 : Int) : Option (Int × Int) :=
 (aAc fuel (⟨a0.Free, a0.Nodes, a0.Defs, a0.Main⟩ : ScopeProg) a2 a3).bind fun y1 =>
 bif !y1.2 then
  some (0, 2)
 else
  (y1.1).bind fun y2 =>
  (uH fuel y2 a1).bind fun y3 =>
  bif y3 then
   (fD fuel y2 a1 a2 a3).bind fun y4 =>
   (qG y4).bind fun y5 =>
   some (y5, 0)
  else
   some (0, 2)
theorem aIA (fuel : Nat)  (a0 : ScopeProg) (a1 : List UsageDef) (a2 : Int) (a3 : Int) (r : Int × Int) (H : aB3 fuel a0 a1 a2 a3 = some r) : FnS Tryz.prog 10 [fSt dO a0, fSl bC a1, aA .i64 a2, aA .i64 a3] [] (dG [aA .i64 r.1, aA .i64 r.2]) (fun _ => []) := by
 unfold aB3 at H
 refine bD Tryz.func10 rfl Tryz.ntmps10 rfl (fun β => ?_)
 refine Z1 ?_
 refine Tn (cF rfl (has rfl) bQ) fun b1 => ?_
 revert H; refine B7 fun y1 h1 H => ?_
 refine Tc (aEN _ _ _ _ _ h1) ?_
 refine Z6 ?_
 refine aH ?_
 refine Z4 ?_
 revert H; refine cs (fun c1 H => ?_) fun c1 H => ?_
 refine Z12 ?_
 cases H
 refine aG [] (by decide) ?_
 exact gM rfl (bO rfl) (bO rfl) rfl
 revert H; refine B2 fun y2 h2 H => ?_
 refine mG 17 rfl (uA h2) ?_
 refine mG 10 rfl (uA h2) ?_
 refine mG 22 rfl (uA h2) ?_
 revert H; refine bs fun y3 h3 H => ?_
 refine Tc (aFn _ _ _ _ h3) ?_
 refine Z3 ?_
 revert H; refine cs (fun c2 H => ?_) fun c2 H => ?_
 revert H; refine B8 fun y4 h4 H => ?_
 refine Tc (aET _ _ _ _ _ _ h4) ?_
 revert H; refine bs fun y5 h5 H => ?_
 refine Tc (zZ _ _ h5) ?_
 refine Z4 ?_
 cases H
 refine aG [] (by decide) ?_
 exact gM rfl (bO rfl) (bO rfl) rfl
 refine Z6 ?_
 cases H
 refine aG [] (by decide) ?_
 exact gM rfl (bO rfl) (bO rfl) rfl
def sH (rec_usage_text_sure : Usage_text → Int → Int → Option (Int)) (a0 : Usage_text) (a2 : Int) (x1 : Int) (x3 : Int) : Option (Int) :=
 (rec_usage_text_sure a0 x1 a2).bind fun y6 =>
 (chk (x3 + y6)).bind fun z1 =>
 some z1
mutual
def gV : Nat → Usage_text → Int → Int → Option (Int)
| 0, _, _, _ => none
| fuel + 1, a0, a1, a2 =>
 (idx a0.ScopeProg.Nodes a1).bind fun y1 =>
 (if y1.Op = 2 then
  (idx a0.denotes a1).bind fun y2 =>
  bif (y2.get a2).isSome then
   if y1.N = a2 then
    (rC a0 (⟨((y2.get a2).getD (⟨0, 0⟩ : Usage_channel)).def_, ((y2.get a2).getD (⟨0, 0⟩ : Usage_channel)).index⟩ : Usage_channel) a1).bind fun y3 =>
    bif y3 then
     (some 1).bind fun r => some (Sum.inr r)
    else
     some (Sum.inl ())
   else
    some (Sum.inl ())
  else
   some (Sum.inl ())
 else
  if y1.Op = 3 then
   (idx y1.Kids 0).bind fun y4 =>
   ((gV fuel) a0 y4 a2).bind fun y5 =>
   (idx y1.Kids 1).bind fun y6 =>
   ((gV fuel) a0 y6 a2).bind fun y7 =>
   (chk (y5 + y7)).bind fun z1 =>
   (some z1).bind fun r => some (Sum.inr r)
  else
   if y1.Op = 5 then
    (idx y1.Kids 0).bind fun y8 =>
    ((gV fuel) a0 y8 a2).bind fun y9 =>
    (idx y1.Kids 1).bind fun y10 =>
    ((gV fuel) a0 y10 a2).bind fun y11 =>
    (some (min y9 y11)).bind fun r => some (Sum.inr r)
   else
    if y1.Op = 4 then
     ((lM fuel) a0 a1 a2).bind fun y12 =>
     (some y12).bind fun r => some (Sum.inr r)
    else
     some (Sum.inl ())).bind fun o => match o with
 | Sum.inr r => some r
 | Sum.inl _ =>
 some 0
def lM : Nat → Usage_text → Int → Int → Option (Int)
| 0, _, _, _ => none
| fuel + 1, a0, a1, a2 =>
 (idx a0.ScopeProg.Nodes a1).bind fun y1 =>
 (idx y1.Kids 0).bind fun y2 =>
 ((gV fuel) a0 y2 a2).bind fun y3 =>
 (qJ a0 y1.N).bind fun y4 =>
 (sE fuel (fun (x : Int) (t : Int) => sH (gV fuel) a0 a2 x t) y3 y4.1 y4.2).bind fun y5 =>
 some y5
end
theorem aDf : ∀ (fuel : Nat), (∀  (a0 : Usage_text) (a1 : Int) (a2 : Int) (r : Int) (H : gV fuel a0 a1 a2 = some r), FnS Tryz.prog 33 [aF bJ a0, aA .i64 a1, aA .i64 a2] [] (aA .i64 r) (fun _ => [])) ∧ (∀  (a0 : Usage_text) (a1 : Int) (a2 : Int) (r : Int) (H : lM fuel a0 a1 a2 = some r), FnS Tryz.prog 41 [aF bJ a0, aA .i64 a1, aA .i64 a2] [] (aA .i64 r) (fun _ => [])) := by
 intro fuel
 induction fuel with
 | zero => exact ⟨fun a0 a1 a2 r H => (by rw [gV] at H; cases H), fun a0 a1 a2 r H => (by rw [lM] at H; cases H)⟩
 | succ fuel ih =>
 obtain ⟨ih_usage_text_sure, ih_usage_text_begun⟩ := ih
 refine ⟨?_, ?_⟩
 intro a0 a1 a2 r H
 rw [gV] at H
 refine bD Tryz.func33 rfl Tryz.ntmps33 rfl (fun β => ?_)
 revert H; refine B10 fun y1 h1 H => ?_
 refine Z2 ?_
 refine Tn (cK rfl pN rfl) fun b1 => ?_
 refine dM (φs' := [aA .i64 y1.Op, aA .i64 y1.N, fSl bA y1.Args, fSl (aB .i64) y1.Kids]) trivial rfl rfl (has rfl) (has rfl) (aO (aD trivial) (aO (aD trivial) (aO (aZ) (aO (aZ) bX)))) (sz rfl) rfl rfl rfl ?_
 revert H; refine B1 fun o1 H Hr1 => ?_
 refine aW (ι := Unit) (fun i => o1 = Sum.inl ()) (fun i => []) (fun i => [aC b1 51 [aA .i64 y1.Op, aA .i64 y1.N, fSl bA y1.Args, fSl (aB .i64) y1.Kids]]) ?_ ?_
 revert H; refine I9 (fun c1 H => ?_) fun c1 H => ?_
 revert H; refine B7 fun y2 h2 H => ?_
 refine Z3 ?_
 refine Yy (aEJ (zα := (⟨0, 0⟩ : Usage_channel)) (k := a2) rfl hh hh rfl yQ (sW [(.int .i64 0), (.int .i64 0)])) ?_
 refine Z3 ?_
 refine Tn (cK rfl aB4 rfl) fun b2 => ?_
 refine dM (φs' := [aA .i64 (((y2.get a2).getD (⟨0, 0⟩ : Usage_channel)).def_), aA .i64 (((y2.get a2).getD (⟨0, 0⟩ : Usage_channel)).index)]) trivial rfl rfl (has rfl) (has rfl) (aO (aD trivial) (aO (aD trivial) bX)) (sz rfl) rfl rfl rfl ?_
 refine Z5 ?_
 revert H; refine cs (fun c2 H => ?_) fun c2 H => ?_
 revert H; refine I6 (fun c3 H => ?_) fun c3 H => ?_
 revert H; refine B3 fun y3 h3 H => ?_
 refine Tc (aGf _ _ _ _ h3) ?_
 refine Z2 ?_
 revert H; refine cs (fun c4 H => ?_) fun c4 H => ?_
 revert H; refine B7 fun r1 H e1 => ?_
 cases e1; cases Hr1
 cases H
 refine aG [] (by decide) ?_
 exact To
 refine Z4 ?_
 refine aG [1] (by decide) ?_
 exact Tm (()) (ij H)
 refine Z10 ?_
 refine aG [1] (by decide) ?_
 exact Tm (()) (ij H)
 refine Z12 ?_
 refine Z4 ?_
 refine aG [1] (by decide) ?_
 exact Tm (()) (ij H)
 revert H; refine I5 (fun c5 H => ?_) fun c5 H => ?_
 refine Z1 ?_
 refine aH ?_
 revert H; refine bs fun y4 h4 H => ?_
 revert H; refine bs fun y5 h5 H => ?_
 revert H; refine bs fun y6 h6 H => ?_
 revert H; refine bs fun y7 h7 H => ?_
 revert H; refine bs fun z1 h8 H => ?_
 apply bH (ods := [_, _, _, _, _, _, _, _, _, _, _, _, _, _, _, _]) 16 0 1 bG rfl rfl rfl
 refine ND ?_
 refine M6 ?_
 intros
 refine Nc (ih_usage_text_sure _ _ _ _ h5) fun _ => ?_
 refine M6 ?_
 intros
 refine Nc (ih_usage_text_sure _ _ _ _ h7) fun _ => ?_
 refine M2 ?_
 intros
 revert H; refine B5 fun r2 H e2 => ?_
 cases e2; cases Hr1
 cases H
 refine aG [] (by decide) ?_
 exact To
 exact fk
 kernel_rfl
 revert H; refine I5 (fun c6 H => ?_) fun c6 H => ?_
 refine Z1 ?_
 refine aH ?_
 revert H; refine bs fun y8 h9 H => ?_
 revert H; refine bs fun y9 h10 H => ?_
 revert H; refine bs fun y10 h11 H => ?_
 revert H; refine bs fun y11 h12 H => ?_
 apply bH (ods := [_, _, _, _, _, _, _, _, _, _, _, _, _, _, _, _]) 16 0 1 bG rfl rfl rfl
 refine ND ?_
 refine M6 ?_
 intros
 refine Nc (ih_usage_text_sure _ _ _ _ h10) fun _ => ?_
 refine M6 ?_
 intros
 refine Nc (ih_usage_text_sure _ _ _ _ h12) fun _ => ?_
 refine M2 ?_
 intros
 revert H; refine B5 fun r3 H e3 => ?_
 cases e3; cases Hr1
 cases H
 refine aG [] (by decide) ?_
 exact To
 exact fk
 kernel_rfl
 revert H; refine I5 (fun c7 H => ?_) fun c7 H => ?_
 revert H; refine B5 fun y12 h13 H => ?_
 refine Tc (ih_usage_text_begun _ _ _ _ h13) ?_
 revert H; refine B5 fun r4 H e4 => ?_
 cases e4; cases Hr1
 cases H
 refine aG [] (by decide) ?_
 exact To
 refine Z4 ?_
 exact Tm (()) (ij H)
 clear H; intro i hi; subst o1; have H := Hr1; clear Hr1; try dsimp only at H
 try dsimp only
 refine Z4 ?_
 cases H
 refine aG [] (by decide) ?_
 exact To
 intro a0 a1 a2 r H
 rw [lM] at H
 refine tN Tryz.func41 rfl Tryz.ntmps41 rfl (fun β => ?_)
 refine Z1 ?_
 refine Tn (cF rfl (has rfl) (aT (tZ))) fun b1 => ?_
 refine Tn (cF rfl (has rfl) (aT (aD trivial))) fun b2 => ?_
 revert H; refine B9 fun y1 h1 H => ?_
 refine Z2 ?_
 refine Tn (cK rfl pN rfl) fun b3 => ?_
 refine dM (φs' := [aA .i64 y1.Op, aA .i64 y1.N, fSl bA y1.Args, fSl (aB .i64) y1.Kids]) trivial rfl rfl (has rfl) (has rfl) (aO (aD trivial) (aO (aD trivial) (aO (aZ) (aO (aZ) bX)))) (sz rfl) rfl rfl rfl ?_
 refine Z1 ?_
 refine aH ?_
 revert H; refine bs fun y2 h2 H => ?_
 revert H; refine bs fun y3 h3 H => ?_
 apply bH (ods := [_, _, _, _, _, _, _, _, _]) 9 1 4 bG rfl rfl rfl
 refine ND ?_
 refine M6 ?_
 intros
 refine Nc (ih_usage_text_sure _ _ _ _ h3) fun _ => ?_
 refine Mn 3 (fun b4 => ptr b4) (fun b4 => aC b4 3 [aA .i64 0]) rfl (cK rfl sO rfl) (fun b4 u1 => ?_)
 refine kP (od := od1 7 [3] true (fun b4 _ => fAny) (fun b4 _ => [aC b4 3 [aA .i64 y3]])) (p := 3) (φs' := [aA .i64 y3]) rfl (fun _ => rfl) (fun _ => rfl) trivial rfl rfl rfl (has rfl) (has rfl) (aD trivial) (sz rfl) rfl rfl (fun _ => ?_)
 refine Z2 ?_
 refine aH ?_
 revert H; refine B4 fun y4 h4 H => ?_
 refine gS trivial rfl rfl rfl (has rfl) (aK.cons (dA rfl aE7) (aK.cons (has rfl) aK.nil)) rfl (cb rfl) (aBk a0 y1.N y4 h4) rfl ?_
 refine Z2 ?_
 refine T_sub [(0, aF bJ a0), (1, aA .i64 a1), (2, aA .i64 a2), (3, fEq (ptr b1)), (5, fEq (ptr b2)), (6, aA .i64 0), (10, aF bJ a0), (11, aF bJ a0), (12, aF dO a0.ScopeProg), (13, aF (tSl aL) a0.ScopeProg.Nodes), (14, fSl aL a0.ScopeProg.Nodes), (15, aA .i64 a1), (16, aF aL y1), (17, fSt aL y1), (7, fEq (ptr b3)), (18, aF bJ a0), (19, fEq (.pointer (some ⟨b3, 3, none⟩))), (20, fSl (aB .i64) y1.Kids), (21, aF (aB .i64) y2), (22, aA .i64 y2), (23, aA .i64 a2), (24, aA .i64 y3), (8, fEq (ptr b4)), (25, aF bJ a0), (26, fEq (.pointer (some ⟨b3, 1, none⟩))), (27, aA .i64 y1.N), (28, cU 101 [aF (fN eE) y4.1, aF (aB .i64) y4.2])] (Sc (Sc (Sc (Sc (Sc (Sc (Sc (Sc (Sc (Sc (Sc (Sc (Sc (Sc (Sc (Sc (Sc (Sc (Sc (Sc (Sc (Sc (Sc (Sc (Sc (Sc (Sc fY.nil))))))))))))))))))))))))))) ?_
 revert H; refine bs fun y5 h5 H => ?_
 refine aA4 (s := y3) (s' := y5) (fun (x : Int) => [aA .i64 x]) (fun (x : Int) (t : Int) => sH (gV fuel) a0 a2 x t) (fun (t : Int) => [aC b3 51 [aA .i64 y1.Op, aA .i64 y1.N, fSl bA y1.Args, fSl (aB .i64) y1.Kids], aC b2 3 [aA .i64 a2], aC b1 64 [aF bJ a0], aC b4 3 [aA .i64 t]]) (has rfl) (cb rfl) rfl (fun _ => rfl) rfl (fun J => aC9 fuel J (fun (x : Int) (t : Int) => sH (gV fuel) a0 a2 x t) y3 y4.1 y4.2 y5 h5) (fun β' l rec x1 t t' hs hp hY => ?_) (fun rb => ?_)
 generalize t = x3 at *
 have H : sH (gV fuel) a0 a2 x1 x3 = some t' := hY; clear hY; unfold sH at H; try dsimp only at H
 show T β' _ _ (sL [29] ((fun (x : Int) => [aA .i64 x]) x1) [(0, aF bJ a0), (1, aA .i64 a1), (2, aA .i64 a2), (3, fEq (ptr b1)), (5, fEq (ptr b2)), (6, aA .i64 0), (10, aF bJ a0), (11, aF bJ a0), (12, aF dO a0.ScopeProg), (13, aF (tSl aL) a0.ScopeProg.Nodes), (14, fSl aL a0.ScopeProg.Nodes), (15, aA .i64 a1), (16, aF aL y1), (17, fSt aL y1), (7, fEq (ptr b3)), (18, aF bJ a0), (19, fEq (.pointer (some ⟨b3, 3, none⟩))), (20, fSl (aB .i64) y1.Kids), (21, aF (aB .i64) y2), (22, aA .i64 y2), (23, aA .i64 a2), (24, aA .i64 y3), (8, fEq (ptr b4)), (25, aF bJ a0), (26, fEq (.pointer (some ⟨b3, 1, none⟩))), (27, aA .i64 y1.N), (28, cU 101 [aF (fN eE) y4.1, aF (aB .i64) y4.2])]) (tObj l (.loop rec) :: [aC b3 51 [aA .i64 y1.Op, aA .i64 y1.N, fSl bA y1.Args, fSl (aB .i64) y1.Kids], aC b2 3 [aA .i64 a2], aC b1 64 [aF bJ a0], aC b4 3 [aA .i64 x3]]) _
 refine Z3 ?_
 refine zN hs ?_
 revert H; refine B1 fun y6 h6 H => ?_
 revert H; refine bs fun z1 h7 H => ?_
 apply bH (ods := [_, _, _, _, _, _, _]) 7 0 5 bG rfl rfl rfl
 refine ND ?_
 refine M4 ?_
 intros
 refine Nc (ih_usage_text_sure _ _ _ _ h6) fun _ => ?_
 refine M1 ?_
 intros
 refine kP (od := odC [4] true (fAny) [aC b4 3 [aA .i64 z1]]) (p := 4) (φs' := [aA .i64 z1]) rfl (fun _ => rfl) (fun _ => rfl) trivial rfl rfl rfl (has rfl) (has rfl) (aD trivial) (sz rfl) rfl rfl (fun _ => ?_)
 refine Z3 ?_
 refine aG [1, 2, 3, 4, 0] (by decide) ?_
 cases H
 refine aG [4, 0, 1, 2, 3] (by decide) ?_
 exact zJ hs hp rfl
 exact fk
 kernel_rfl
 generalize rb = rb1
 show T β _ _ [(0, aF bJ a0), (1, aA .i64 a1), (2, aA .i64 a2), (3, fEq (ptr b1)), (5, fEq (ptr b2)), (6, aA .i64 0), (10, aF bJ a0), (11, aF bJ a0), (12, aF dO a0.ScopeProg), (13, aF (tSl aL) a0.ScopeProg.Nodes), (14, fSl aL a0.ScopeProg.Nodes), (15, aA .i64 a1), (16, aF aL y1), (17, fSt aL y1), (7, fEq (ptr b3)), (18, aF bJ a0), (19, fEq (.pointer (some ⟨b3, 3, none⟩))), (20, fSl (aB .i64) y1.Kids), (21, aF (aB .i64) y2), (22, aA .i64 y2), (23, aA .i64 a2), (24, aA .i64 y3), (8, fEq (ptr b4)), (25, aF bJ a0), (26, fEq (.pointer (some ⟨b3, 1, none⟩))), (27, aA .i64 y1.N), (28, cU 101 [aF (fN eE) y4.1, aF (aB .i64) y4.2])] ([kO rb1] ++ [aC b3 51 [aA .i64 y1.Op, aA .i64 y1.N, fSl bA y1.Args, fSl (aB .i64) y1.Kids], aC b2 3 [aA .i64 a2], aC b1 64 [aF bJ a0], aC b4 3 [aA .i64 y5]]) _
 dsimp only [List.append, List.cons_append, List.nil_append]
 refine Z7 ?_
 cases H
 refine aG [0] (by decide) ?_
 exact aDt [rb1] rfl (bO rfl) rfl rfl
 exact fk
 kernel_rfl
theorem aG0 (fuel : Nat)  (a0 : Usage_text) (a1 : Int) (a2 : Int) (r : Int) (H : gV fuel a0 a1 a2 = some r) : FnS Tryz.prog 33 [aF bJ a0, aA .i64 a1, aA .i64 a2] [] (aA .i64 r) (fun _ => []) := (aDf fuel).1 a0 a1 a2 r H
theorem aD3 (fuel : Nat)  (a0 : Usage_text) (a1 : Int) (a2 : Int) (r : Int) (H : lM fuel a0 a1 a2 = some r) : FnS Tryz.prog 41 [aF bJ a0, aA .i64 a1, aA .i64 a2] [] (aA .i64 r) (fun _ => []) := (aDf fuel).2 a0 a1 a2 r H
def aB0 (fuel : Nat) (a0 : ScopeProg) (a1 : Int) (a2 : Int) : Option (Int × Int) :=
 (aAc fuel (⟨a0.Free, a0.Nodes, a0.Defs, a0.Main⟩ : ScopeProg) a1 a2).bind fun y1 =>
 bif y1.2 then
  (y1.1).bind fun y2 =>
  (gV fuel y2 a1 a2).bind fun y3 =>
  some (y3, 0)
 else
  some (0, 2)
theorem aHe (fuel : Nat)  (a0 : ScopeProg) (a1 : Int) (a2 : Int) (r : Int × Int) (H : aB0 fuel a0 a1 a2 = some r) : FnS Tryz.prog 12 [fSt dO a0, aA .i64 a1, aA .i64 a2] [] (dG [aA .i64 r.1, aA .i64 r.2]) (fun _ => []) := by
 unfold aB0 at H
 refine bD Tryz.func12 rfl Tryz.ntmps12 rfl (fun β => ?_)
 refine Z1 ?_
 refine Tn (cF rfl (has rfl) bQ) fun b1 => ?_
 revert H; refine B7 fun y1 h1 H => ?_
 refine Tc (aEN _ _ _ _ _ h1) ?_
 refine Z6 ?_
 refine aH ?_
 refine Z4 ?_
 revert H; refine cs (fun c1 H => ?_) fun c1 H => ?_
 revert H; refine B7 fun y2 h2 H => ?_
 refine mG 15 rfl (uA h2) ?_
 refine mG 8 rfl (uA h2) ?_
 refine mG 19 rfl (uA h2) ?_
 revert H; refine bs fun y3 h3 H => ?_
 refine Tc (aG0 _ _ _ _ _ h3) ?_
 refine Z4 ?_
 cases H
 refine aG [] (by decide) ?_
 exact gM rfl (bO rfl) (bO rfl) rfl
 refine Z6 ?_
 cases H
 refine aG [] (by decide) ?_
 exact gM rfl (bO rfl) (bO rfl) rfl
def aBN (a0 : Int) (a1 : Int) : Option (Int × Int) :=
 (shrI .u64 a0 32).bind fun z1 =>
 (shrI .u64 a1 32).bind fun z2 =>
 (shrI .u64 (IntKind.wrap .u64 ((andI .u64 a0 4294967295) * (andI .u64 a1 4294967295))) 32).bind fun z3 =>
 (shrI .u64 (IntKind.wrap .u64 ((IntKind.wrap .u64 (z1 * (andI .u64 a1 4294967295))) + z3)) 32).bind fun z4 =>
 (shrI .u64 (IntKind.wrap .u64 ((andI .u64 (IntKind.wrap .u64 ((IntKind.wrap .u64 (z1 * (andI .u64 a1 4294967295))) + z3)) 4294967295) + (IntKind.wrap .u64 ((andI .u64 a0 4294967295) * z2)))) 32).bind fun z5 =>
 some (IntKind.wrap .u64 ((IntKind.wrap .u64 ((IntKind.wrap .u64 (z1 * z2)) + z4)) + z5), IntKind.wrap .u64 (a0 * a1))
theorem aI4  (a0 : Int) (a1 : Int) (r : Int × Int) (H : aBN a0 a1 = some r) : FnS Tryz.prog 116 [aA .u64 a0, aA .u64 a1] [] (dG [aA .u64 r.1, aA .u64 r.2]) (fun _ => []) := by
 unfold aBN at H
 refine bD Tryz.func116 rfl Tryz.ntmps116 rfl (fun β => ?_)
 revert H; refine B11 fun z1 h1 H => ?_
 revert H; refine B10 fun z2 h2 H => ?_
 refine Z12 ?_
 revert H; refine B2 fun z3 h3 H => ?_
 revert H; refine B11 fun z4 h4 H => ?_
 refine Z12 ?_
 revert H; refine B6 fun z5 h5 H => ?_
 refine Z11 ?_
 cases H
 exact gM rfl (bO rfl) (bO rfl) rfl
def aCX (a0 : Int) (a1 : Int) : Option (Int × Int) :=
 (aBN a0 a1).bind fun y1 =>
 some (y1.1, y1.2)
theorem aG7  (a0 : Int) (a1 : Int) (r : Int × Int) (H : aCX a0 a1 = some r) : FnS Tryz.prog 100 [aA .u64 a0, aA .u64 a1] [] (dG [aA .u64 r.1, aA .u64 r.2]) (fun _ => []) := by
 unfold aCX at H
 refine bD Tryz.func100 rfl Tryz.ntmps100 rfl (fun β => ?_)
 refine Z4 ?_
 refine aH ?_
 revert H; refine B6 fun y1 h1 H => ?_
 refine Tc (aI4 _ _ _ h1) ?_
 refine Z12 ?_
 refine Z1 ?_
 cases H
 exact gM rfl (bO rfl) (bO rfl) rfl
end Go.Proofs.YtmnbfgeljmhekaaGreat
set_option maxRecDepth 100000
set_option maxHeartbeats 2000000
namespace Go.Proofs.YtmnbfgeljmhekaaGreat
open Go.SX Go.SW Go.Dt
attribute [local irreducible] Code.wpIn wpListIn Exit.then Exit.inBlock
def tU  : Nat → (List Int) → Int → Option (List Int)
| 0, _, _ => none
| k + 1, x4, x5 =>
 if x5 < (x4.length : Int) then
  (slc x4 x5 (x4.length : Int)).bind fun y3 =>
  (slc x4 0 x5).bind fun y4 =>
  (chk (x5 + ((min (Int.toNat x5 - Int.toNat 0) (Int.toNat (x4.length : Int) - Int.toNat x5) : Nat) : Int))).bind fun z1 =>
  tU k (cpy x4 (List.drop (Int.toNat 0) x4) (Int.toNat x5) (min (Int.toNat x5 - Int.toNat 0) (Int.toNat (x4.length : Int) - Int.toNat x5))) z1
 else
  some x4
def sA (fuel : Nat) (a0 : List Int) (a1 : Int) : Option (List Int) :=
 if a1 < 0 then
  none
 else
  (aCX (IntKind.wrap .u64 (a0.length : Int)) (IntKind.wrap .u64 a1)).bind fun y1 =>
  if 0 < y1.1 then
   none
  else
   if 9223372036854775807 < y1.2 then
    none
   else
    (mk 0 (IntKind.wrap .i64 y1.2)).bind fun y2 =>
    (tU fuel (cpy y2 a0 0 (min a0.length y2.length)) ((min a0.length y2.length : Nat) : Int)).bind fun x1 =>
    some x1
theorem aCG (fuel : Nat)  (a0 : List Int) (a1 : Int) (r : List Int) (H : sA fuel a0 a1 = some r) : FnS Tryz.prog 80 [fSl (aB .i64) a0, aA .i64 a1] [] fAny (fun v => [(fun v => aE v 30 (aB .i64) r) v]) := by
 unfold sA at H
 refine bD Tryz.func80 rfl Tryz.ntmps80 rfl (fun β => ?_)
 refine Z3 ?_
 refine aH ?_
 revert H; refine I4 (fun c1 H => ?_) fun c1 H => ?_
 refine Z2 ?_
 refine Yy (nD rfl hh aCk) ?_
 cases H
 refine Z6 ?_
 refine Yy (aA9 rfl hh aA1 aBR) ?_
 refine Z1 ?_
 refine Yy (aA9 rfl hh aA1 aBR) ?_
 revert H; refine bs fun y1 h1 H => ?_
 refine Tc (aG7 _ _ _ h1) ?_
 refine Z6 ?_
 refine aH ?_
 revert H; refine I4 (fun c2 H => ?_) fun c2 H => ?_
 refine Z6 ?_
 refine Yy (nD rfl hh aCk) ?_
 cases H
 revert H; refine I4 (fun c3 H => ?_) fun c3 H => ?_
 refine Z2 ?_
 refine Yy (nD rfl hh aCk) ?_
 cases H
 refine Z5 ?_
 refine Yy (aA9 rfl hh aBR aA1) ?_
 revert H; refine bs fun y2 h2 H => ?_
 refine Tn (lZ (t := (aB .i64)) (z := 0) rfl (has rfl) (et rfl) rfl ty_ze_30 rfl h2) fun b1 => ?_
 generalize (Value.slice (some ⟨b1, 0, none⟩) _ _) = v1
 refine aR 0 rfl (fun hc_v1 => ?_)
 refine Z5 ?_
 refine T_copyF (ys := a0) trivial rfl rfl rfl (has rfl) (has rfl) (et rfl) ?_
 revert H; refine B2 fun o1 H Hr1 => ?_
 refine aW (ι := List Int) (fun i => o1 = i) (fun i => [(7, fEq v1)]) (fun i => [aE v1 30 (aB .i64) i]) ?_ ?_
 refine Z1 ?_
 refine Tl (ι := Nat × List Int × Int) (fun i => tU i.1 i.2.1 i.2.2 = _) (fun i => i.1) (fun i => [(7, fEq v1), (8, aA .i64 i.2.2)]) (fun i => [aE v1 30 (aB .i64) i.2.1]) (fuel, cpy y2 a0 0 (min a0.length y2.length), ((min a0.length y2.length : Nat) : Int)) H ?_
 clear H; rintro ⟨k1, x4, x5⟩ H
 replace H : tU k1 x4 x5 = _ := H
 try dsimp only
 obtain _ | k1 := k1
 rw [tU] at H; cases H
 rw [tU] at H
 refine aH ?_
 revert H; refine I6 (fun c4 H => ?_) fun c4 H => ?_
 revert H; refine B4 fun y3 h3 H => ?_
 revert H; refine bs fun y4 h4 H => ?_
 revert H; refine bs fun z1 h5 H => ?_
 apply bH (ods := [_, _, _, _, _, _, _, _, _, _]) 10 0 1 bG rfl rfl rfl
 refine ND ?_
 refine M3 ?_
 intros
 refine Mo 0 rfl (aDQ (l := x5) (h := (x4.length : Int)) rfl hh (aAG hh) zS (el rfl) h3) fun _ => ?_
 refine M2 ?_
 intros
 refine Mo 0 rfl (aDQ (l := 0) (h := x5) rfl hh zS (aAG hh) (el rfl) h4) fun _ => ?_
 refine N_copyR (od := odC [0] true (aA .i64 ((min (Int.toNat x5 - Int.toNat 0) (Int.toNat (x4.length : Int) - Int.toNat x5) : Nat) : Int)) [aE v1 30 (aB .i64) (cpy x4 (List.drop (Int.toNat 0) x4) (Int.toNat x5) (min (Int.toNat x5 - Int.toNat 0) (Int.toNat (x4.length : Int) - Int.toNat x5)))]) (p := 0) rfl (fun _ => rfl) (fun _ => rfl) trivial rfl rfl rfl rfl (has rfl) (has rfl) (et rfl) ⟨(aAU h3).1, (aAU h3).2, (aAU h4).1, (aAU h4).2⟩ (fun _ => ?_)
 refine M2 ?_
 intros
 refine Z4 ?_
 exact Tm ((k1, cpy x4 (List.drop (Int.toNat 0) x4) (Int.toNat x5) (min (Int.toNat x5 - Int.toNat 0) (Int.toNat (x4.length : Int) - Int.toNat x5)), z1)) ⟨H, ls⟩
 exact fk
 kernel_rfl
 refine Z6 ?_
 exact Tm (x4) (ij H)
 clear H; intro x1 hi; subst o1; have H := Hr1; clear Hr1; try dsimp only at H
 try dsimp only
 refine Z5 ?_
 cases H
 exact nM rfl (bO rfl) (fun _ _ _ => trivial) rfl
def nX (fuel : Nat) (y1 : ScopeDef) : Nat → Int → (List (List Int)) → Option (List (List Int))
| 0, _, _ => none
| k + 1, x10, x11 =>
 if x10 < (y1.Chans.length : Int) then
  (idx y1.Chans x10).bind fun y4 =>
  (sA fuel [1] y4.Many).bind fun y5 =>
  (dN (x11 ++ ([y5] : List (List Int)))).bind fun z1 =>
  (chk (x10 + 1)).bind fun z2 =>
  nX fuel y1 k z2 z1
 else
  some x11
def mI (fuel : Nat) (a0 : Usage_text) : Nat → (List UsageDef) → Int → Option (List UsageDef)
| 0, _, _ => none
| k + 1, x4, x5 =>
 if x5 < (a0.ScopeProg.Defs.length : Int) then
  ((idx a0.ScopeProg.Defs x5).bind fun y1 =>
  (sA fuel [1] (y1.Chans.length : Int)).bind fun y2 =>
  (sA fuel [1] (y1.Rules.length : Int)).bind fun y3 =>
  (nX fuel y1 fuel 0 []).bind fun x7 =>
  (dN (x4 ++ ([(⟨y2, y3, x7⟩ : UsageDef)] : List UsageDef))).bind fun z3 =>
  some z3).bind fun x6 =>
  (chk (x5 + 1)).bind fun z4 =>
  mI fuel a0 k x6 z4
 else
  some x4
def uS (fuel : Nat) (a0 : Usage_text) : Option (List UsageDef) :=
 (mI fuel a0 fuel [] 0).bind fun x1 =>
 some x1
theorem aIU (fuel : Nat)  (a0 : Usage_text) (r : List UsageDef) (H : uS fuel a0 = some r) : FnS Tryz.prog 37 [aF bJ a0] [] fAny (fun v => [(fun v => bL v 61 dI r) v]) := by
 unfold uS at H
 refine bD Tryz.func37 rfl Tryz.ntmps37 rfl (fun β => ?_)
 revert H; refine B6 fun o1 H Hr1 => ?_
 refine aW (ι := List UsageDef × Value) (fun i => o1 = i.1) (fun i => [(3, fEq i.2)]) (fun i => [bL i.2 61 dI i.1]) ?_ ?_
 refine Z10 ?_
 refine yK dI 61 ?_
 refine Tl (ι := Nat × List UsageDef × Int × Value) (fun i => mI fuel a0 i.1 i.2.1 i.2.2.1 = _) (fun i => i.1) (fun i => [(3, fEq i.2.2.2), (13, fSl aJ a0.ScopeProg.Defs), (14, aA .i64 (a0.ScopeProg.Defs.length : Int)), (15, aA .i64 i.2.2.1)]) (fun i => [bL i.2.2.2 61 dI i.2.1]) (fuel, [], 0, (.slice none 0 0)) H ?_
 clear H; rintro ⟨k1, x4, x5, v3⟩ H
 replace H : mI fuel a0 k1 x4 x5 = _ := H
 try dsimp only
 obtain _ | k1 := k1
 rw [mI] at H; cases H
 rw [mI] at H
 refine eB 0 rfl (fun hc_v3 => ?_)
 refine Z3 ?_
 refine aH ?_
 revert H; refine is (fun c1 H => ?_) fun c1 H => ?_
 revert H; refine B3 fun o2 H Hr2 => ?_
 refine aW (ι := List UsageDef × Value) (fun i => o2 = i.1) (fun i => [(13, fSl aJ a0.ScopeProg.Defs), (14, aA .i64 (a0.ScopeProg.Defs.length : Int)), (15, aA .i64 x5), (3, fEq i.2)]) (fun i => [bL i.2 61 dI i.1]) ?_ ?_
 revert H; refine B2 fun y1 h1 H => ?_
 refine Z2 ?_
 refine Tn (cK rfl tB rfl) fun b1 => ?_
 refine dM (φs' := [fSl bF y1.Chans, fSl bW y1.Spots, fSl bK y1.Rules]) trivial rfl rfl (has rfl) (has rfl) (aO (aZ) (aO (aZ) (aO (aZ) bX))) (sz rfl) rfl rfl rfl ?_
 refine Z1 ?_
 refine aH ?_
 revert H; refine bs fun y2 h2 H => ?_
 revert H; refine bs fun y3 h3 H => ?_
 apply bH (ods := [_, _, _, _, _, _, _, _, _, _, _, _, _]) 13 3 5 bG rfl rfl rfl
 refine ND ?_
 refine Mf (φ := fSl (aB .i64) [1]) (cM (t := (aB .i64)) (xs := [1]) rfl (et rfl) (aS.cons rfl (has rfl) (aT (aD trivial)) aS.nil) rfl rfl rfl) (fun b => cO) fun _ => ?_
 refine M3 ?_
 intros
 refine aCf (od := odN [2] true (fun _ v6 => eI v6) (fun _ v6 => [aE v6 30 (aB .i64) y2])) (p := 2) (τ := fun v => aE v 30 (aB .i64) y2) rfl (fun _ => rfl) (fun _ => rfl) trivial rfl rfl rfl (has rfl) (aK.cons (has rfl) (aK.cons (has rfl) aK.nil)) rfl (cb rfl) (aCG fuel [1] (y1.Chans.length : Int) y2 h2) (fun _ => dK) (fun u1 v6 => ?_)
 refine Mf (φ := fSl (aB .i64) [1]) (cM (t := (aB .i64)) (xs := [1]) rfl (et rfl) (aS.cons rfl (has rfl) (aT (aD trivial)) aS.nil) rfl rfl rfl) (fun b => cO) fun _ => ?_
 refine M3 ?_
 intros
 refine aCf (od := odN [3] true (fun _ v8 => eI v8) (fun _ v8 => [aE v8 30 (aB .i64) y3])) (p := 3) (τ := fun v => aE v 30 (aB .i64) y3) rfl (fun _ => rfl) (fun _ => rfl) trivial rfl rfl rfl (has rfl) (aK.cons (has rfl) (aK.cons (has rfl) aK.nil)) rfl (cb rfl) (aCG fuel [1] (y1.Rules.length : Int) y3 h3) (fun _ => dK) (fun u2 v8 => ?_)
 refine D2 4 9 _ v6 _ v8 (fun _ v6 _ v8 => eY [eI v6, eI v8, fEq (.slice none 0 0)]) rfl rfl (dV (ψs := [eI v6, eI v8, fEq (.slice none 0 0)]) rfl aCV rfl (aV.cons (has rfl) (aT (kB)) (aV.cons (has rfl) (aT (kB)) aV.nil)) rfl) (fun _ => ?_)
 refine Mn 4 (fun b4 => ptr b4) (fun b4 => aC b4 61 [fEq (.slice none 0 0), fEq (.slice none 0 0), fEq (.slice none 0 0)]) rfl (cK rfl uO rfl) (fun b4 u3 => ?_)
 refine wF (od := od3 4 9 11 [4] true (fun _ v6 _ v8 b4 _ => fAny) (fun _ v6 _ v8 b4 _ => [aC b4 61 [eI v6, eI v8, fEq (.slice none 0 0)]])) (p := 4) (φs' := [eI v6, eI v8, fEq (.slice none 0 0)]) rfl (fun _ => rfl) (fun _ => rfl) trivial rfl rfl rfl (has rfl) (has rfl) (aO (kB) (aO (kB) (aO (aD trivial) bX))) (sz rfl) rfl rfl rfl (fun _ => ?_)
 refine Z1 ?_
 refine mG 23 rfl gZ ?_
 refine mG 28 rfl gZ ?_
 refine mG 29 rfl (hE (aN.cons gZ (aN.cons gZ (aN.cons Ent.rfl aN.nil)))) ?_
 refine aR 2 rfl (fun hc_v6 => ?_)
 refine aR 3 rfl (fun hc_v8 => ?_)
 refine bM ?_
 refine T_blkE (aN.cons gZ (aN.cons gZ (aN.cons Ent.rfl aN.nil))) ?_
 revert H; refine B1 fun o3 H Hr3 => ?_
 refine aW (ι := List (List Int) × Value) (fun i => o3 = i.1) (fun i => [(3, fEq v3), (13, fSl aJ a0.ScopeProg.Defs), (14, aA .i64 (a0.ScopeProg.Defs.length : Int)), (15, aA .i64 x5), (6, fEq (ptr b4))]) (fun i => [aC b4 61 [fEq v6, fEq v8, fEq i.2], aC b1 99 [fSl bF y1.Chans, fSl bW y1.Spots, fSl bK y1.Rules], bL v3 61 dI x4, aE v6 30 (aB .i64) y2, aE v8 30 (aB .i64) y3, bL i.2 58 (cL 30 (aB .i64)) i.1]) ?_ ?_
 refine Z7 ?_
 refine yK (cL 30 (aB .i64)) 58 ?_
 refine aG [1, 2, 3, 4, 5, 0] (by decide) ?_
 refine Tl (ι := Nat × Int × List (List Int) × Value) (fun i => nX fuel y1 i.1 i.2.1 i.2.2.1 = _) (fun i => i.1) (fun i => [(3, fEq v3), (13, fSl aJ a0.ScopeProg.Defs), (14, aA .i64 (a0.ScopeProg.Defs.length : Int)), (15, aA .i64 x5), (6, fEq (ptr b4)), (31, fSl bF y1.Chans), (32, aA .i64 (y1.Chans.length : Int)), (33, aA .i64 i.2.1)]) (fun i => [aC b4 61 [fEq v6, fEq v8, fEq i.2.2.2], aC b1 99 [fSl bF y1.Chans, fSl bW y1.Spots, fSl bK y1.Rules], bL v3 61 dI x4, aE v6 30 (aB .i64) y2, aE v8 30 (aB .i64) y3, bL i.2.2.2 58 (cL 30 (aB .i64)) i.2.2.1]) (fuel, 0, [], (.slice none 0 0)) H ?_
 clear H; rintro ⟨k2, x10, x11, v11⟩ H
 replace H : nX fuel y1 k2 x10 x11 = _ := H
 try dsimp only
 obtain _ | k2 := k2
 rw [nX] at H; cases H
 rw [nX] at H
 refine eB 5 rfl (fun hc_v11 => ?_)
 refine Z3 ?_
 refine aH ?_
 revert H; refine is (fun c2 H => ?_) fun c2 H => ?_
 refine Z3 ?_
 refine aH ?_
 revert H; refine B2 fun y4 h4 H => ?_
 refine Z2 ?_
 refine Tn (cK rfl aBq rfl) fun b5 => ?_
 refine dM (φs' := [aA .i64 y4.At, aA .i64 y4.Many]) trivial rfl rfl (has rfl) (has rfl) (aO (aD trivial) (aO (aD trivial) bX)) (sz rfl) rfl rfl rfl ?_
 revert H; refine B1 fun y5 h5 H => ?_
 apply bH (ods := [_, _, _, _, _, _, _]) 7 2 9 bG rfl rfl rfl
 refine ND ?_
 refine M2 ?_
 intros
 refine Mf (φ := fSl (aB .i64) [1]) (cM (t := (aB .i64)) (xs := [1]) rfl (et rfl) (aS.cons rfl (has rfl) (aT (aD trivial)) aS.nil) rfl rfl rfl) (fun b => cO) fun _ => ?_
 refine M2 ?_
 intros
 refine aCf (od := odN [7] true (fun _ v13 => eI v13) (fun _ v13 => [aE v13 30 (aB .i64) y5])) (p := 7) (τ := fun v => aE v 30 (aB .i64) y5) rfl (fun _ => rfl) (fun _ => rfl) trivial rfl rfl rfl (has rfl) (aK.cons (has rfl) (aK.cons (has rfl) aK.nil)) rfl (cb rfl) (aCG fuel [1] y4.Many y5 h5) (fun _ => dK) (fun u4 v13 => ?_)
 refine N_new (od := odN1 5 [8] true (fun _ v13 b7 _ => fEq (.slice (some ⟨b7, 0, none⟩) 1 1)) (fun _ v13 b7 _ => [aE (.slice (some ⟨b7, 0, none⟩) 1 1) 58 (tF 1) [[⟨eI v13, kB⟩]]])) (p := 8) (f := fun b7 => .slice (some ⟨b7, 0, none⟩) 1 1) (τ := fun b7 => aE (.slice (some ⟨b7, 0, none⟩) 1 1) 58 (tF 1) [[⟨eI v13, kB⟩]]) rfl (fun _ => rfl) (fun _ => rfl) trivial rfl rfl (cM (t := tF 1) (xs := [[⟨eI v13, kB⟩]]) rfl (et rfl) (aS.cons rfl (has rfl) (aT (kB)) aS.nil) rfl rfl rfl) (fun b7 u5 => ?_)
 refine Z1 ?_
 refine mG 42 rfl gZ ?_
 refine aR 7 rfl (fun hc_v13 => ?_)
 generalize (Value.slice (some ⟨b7, 0, none⟩) 1 1) = v14
 refine T_fr8 ?_
 refine rD ?_
 refine T_fr8 ?_
 refine gR (p := 0) (f := (fun v => aE v 30 (aB .i64) y5)) (hf := (fun _ => dK)) rfl gZ ?_
 refine pQ (o := (cL 30 (aB .i64))) (xs := ([y5] : List (List Int))) rfl rfl rfl ?_
 refine eB 0 rfl (fun hc_v14 => ?_)
 revert H; refine bs fun z1 h6 H => ?_
 refine T_fr7 ?_
 refine dH ?_
 refine zD (q := (cL 30 (aB .i64))) trivial rfl rfl rfl (has rfl) (has rfl) (et rfl) rfl h6 (fun v15 => ?_)
 refine eB 0 rfl (fun hc_v15 => ?_)
 refine Z1 ?_
 refine eH ?_
 refine dC (φs' := [fEq v6, fEq v8, fEq v15]) trivial rfl rfl (has rfl) (has rfl) (aD hc_v15) (sz rfl) rfl rfl ?_
 revert H; refine B4 fun z2 h7 H => ?_
 refine Z3 ?_
 refine aG [0, 3, 4, 5, 6, 1] (by decide) ?_
 exact Tm ((k2, z2, z1, v15)) ⟨H, ls⟩
 exact fk
 kernel_rfl
 refine Z6 ?_
 exact Tm ((x11, v11)) (ij H)
 clear H; intro i hi; obtain ⟨x7, v9⟩ := i; subst o3; have H := Hr3; clear Hr3; try dsimp only at H
 try dsimp only
 refine eB 5 rfl (fun hc_v9 => ?_)
 refine Z3 ?_
 refine Tn (cM (t := tF 3) (xs := [[⟨fEq v6, aD hc_v6⟩, ⟨fEq v8, aD hc_v8⟩, ⟨fEq v9, aD hc_v9⟩]]) rfl (et rfl) (aS.cons rfl (has rfl) bQ aS.nil) rfl rfl rfl) fun b8 => ?_
 generalize (Value.slice (some ⟨b8, 0, none⟩) _ _) = v16
 refine rD ?_
 refine bM ?_
 refine gR (p := 0) (f := (fun v => aE v 30 (aB .i64) y2)) (hf := (fun _ => dK)) rfl Ent.rfl ?_
 refine bM ?_
 refine gR (p := 1) (f := (fun v => aE v 30 (aB .i64) y3)) (hf := (fun _ => dK)) rfl Ent.rfl ?_
 refine bM ?_
 refine gR (p := 2) (f := (fun v => bL v 58 (cL 30 (aB .i64)) x7)) (hf := (fun _ => jG)) rfl Ent.rfl ?_
 refine pQ (o := dI) (xs := ([(⟨y2, y3, x7⟩ : UsageDef)] : List UsageDef)) rfl rfl rfl ?_
 refine eB 0 rfl (fun hc_v16 => ?_)
 revert H; refine bs fun z3 h8 H => ?_
 refine eF ?_
 refine dH ?_
 refine zD (q := dI) trivial rfl rfl rfl (has rfl) (has rfl) (et rfl) rfl h8 (fun v17 => ?_)
 refine eB 0 rfl (fun hc_v17 => ?_)
 refine Z4 ?_
 refine aG [0] (by decide) ?_
 exact Tm ((z3, v17)) (ij H)
 exact fk
 kernel_rfl
 clear H; intro i hi; obtain ⟨x6, v4⟩ := i; subst o2; have H := Hr2; clear Hr2; try dsimp only at H
 try dsimp only
 refine eB 0 rfl (fun hc_v4 => ?_)
 revert H; refine B1 fun z4 h9 H => ?_
 refine Z3 ?_
 exact Tm ((k1, x6, z4, v4)) ⟨H, ls⟩
 refine Z6 ?_
 exact Tm ((x4, v3)) (ij H)
 clear H; intro i hi; obtain ⟨x1, v1⟩ := i; subst o1; have H := Hr1; clear Hr1; try dsimp only at H
 try dsimp only
 refine eB 0 rfl (fun hc_v1 => ?_)
 refine Z5 ?_
 cases H
 exact nM rfl (bO rfl) (fun _ _ _ => trivial) rfl
def qU (a0 : Usage_text) (a1 : Int) (a2 : Int) : Option (Int) :=
 (idx a0.heads a1).bind fun y1 =>
 (idx a0.sizes y1).bind fun y2 =>
 (chk (y2 + a2)).bind fun z1 =>
 some z1
theorem aAq  (a0 : Usage_text) (a1 : Int) (a2 : Int) (r : Int) (H : qU a0 a1 a2 = some r) : FnS Tryz.prog 42 [aF bJ a0, aA .i64 a1, aA .i64 a2] [] (aA .i64 r) (fun _ => []) := by
 unfold qU at H
 refine bD Tryz.func42 rfl Tryz.ntmps42 rfl (fun β => ?_)
 refine Z3 ?_
 refine aH ?_
 revert H; refine bs fun y1 h1 H => ?_
 revert H; refine bs fun y2 h2 H => ?_
 revert H; refine bs fun z1 h3 H => ?_
 apply bH (ods := [_, _, _, _, _, _, _, _, _, _, _, _, _, _, _, _]) 16 0 0 bG rfl rfl rfl
 refine ND ?_
 refine M8 ?_
 intros
 refine M8 ?_
 intros
 refine Z3 ?_
 cases H
 exact To
 exact fk
 kernel_rfl
def nU (fuel : Nat) (a0 : Usage_text) (a1 : List UsageDef) (a2 : Int) (y1 : ScopeDef) : Nat → (List (List Int)) → Int → (List Int) → Option (List (List Int) × List Int)
| 0, _, _, _ => none
| k + 1, x6, x7, x8 =>
 if x7 < (y1.Chans.length : Int) then
  (idx y1.Chans x7).bind fun y3 =>
  (idx a0.heads a2).bind fun y4 =>
  (qU a0 a2 x7).bind fun y5 =>
  (oX fuel a0 a1 y4 y5).bind fun y6 =>
  (qG y6).bind fun y7 =>
  (dN (x8 ++ [y7])).bind fun z1 =>
  (mk 0 y3.Many).bind fun y8 =>
  (idx x6 x7).bind fun y9 =>
  (chk (x7 + 1)).bind fun z2 =>
  nU fuel a0 a1 a2 y1 k (x6.set x7.toNat y8) z2 z1
 else
  some (x6, x8)
def nK (a1 : List UsageDef) (a2 : Int) (y10 : ScopeRule) : Nat → Int → Int → Option (Int)
| 0, _, _ => none
| k + 1, x22, x23 =>
 if x23 < (y10.Joins.length : Int) then
  (idx y10.Joins x23).bind fun y11 =>
  (idx a1 a2).bind fun y12 =>
  (idx y12.Chans y11).bind fun y13 =>
  (oL y13).bind fun y14 =>
  (chk (x23 + 1)).bind fun z3 =>
  nK a1 a2 y10 k (min x22 y14) z3
 else
  some x22
def oK (fuel : Nat) (a0 : Usage_text) (a1 : List UsageDef) (y10 : ScopeRule) (x27 : List (List Int)) (y20 : Int) (y21 : List Int) : Nat → Int → Int → (List Int) → Option (List (List Int) × Int)
| 0, _, _, _ => none
| k + 1, x35, x36, x37 =>
 if x36 < (y21.length : Int) then
  (idx x27 y20).bind fun y22 =>
  (idx x27 y20).bind fun y23 =>
  (idx x37 x36).bind fun y24 =>
  (fD fuel a0 a1 y10.Node x35).bind fun y25 =>
  (pZ y24 y25).bind fun y26 =>
  (idx x37 x36).bind fun y27 =>
  (chk (x35 + 1)).bind fun z6 =>
  (chk (x36 + 1)).bind fun z7 =>
  oK fuel a0 a1 y10 x27 y20 y21 k z6 z7 (x37.set x36.toNat y26)
 else
  some (x27.set y20.toNat x37, x35)
def nW (fuel : Nat) (a0 : Usage_text) (a1 : List UsageDef) (y10 : ScopeRule) (z4 : List Int) : Nat → (List (List Int)) → Int → Int → Option (List (List Int) × List Int)
| 0, _, _, _ => none
| k + 1, x27, x28, x29 =>
 if x29 < (y10.Joins.length : Int) then
  ((idx y10.Joins x29).bind fun y20 =>
  (idx x27 y20).bind fun y21 =>
  oK fuel a0 a1 y10 x27 y20 y21 fuel x28 0 y21).bind fun (x30, x31) =>
  (chk (x29 + 1)).bind fun z8 =>
  nW fuel a0 a1 y10 z4 k x30 x31 z8
 else
  some (x27, z4)
def lS (fuel : Nat) (a0 : Usage_text) (a1 : List UsageDef) (a2 : Int) (y1 : ScopeDef) : Nat → (List (List Int)) → Int → (List Int) → Option (List (List Int) × List Int)
| 0, _, _, _ => none
| k + 1, x14, x15, x16 =>
 if x15 < (y1.Rules.length : Int) then
  ((idx y1.Rules x15).bind fun y10 =>
  (nK a1 a2 y10 fuel 2 0).bind fun x19 =>
  (qG x19).bind fun y15 =>
  (dN (x16 ++ [y15])).bind fun z4 =>
  (idx a1 a2).bind fun y16 =>
  (idx y16.Rules x15).bind fun y17 =>
  (oL y17).bind fun y18 =>
  if y18 = 0 then
   some (x14, z4)
  else
   (qU a0 a2 (y1.Chans.length : Int)).bind fun y19 =>
   (chk (y19 + (y1.Spots.length : Int))).bind fun z5 =>
   nW fuel a0 a1 y10 z4 fuel x14 z5 0).bind fun (x17, x18) =>
  (chk (x15 + 1)).bind fun z9 =>
  lS fuel a0 a1 a2 y1 k x17 z9 x18
 else
  some (x14, x16)
def nS (y28 : List Int) : Nat → (List Int) → Int → Option (List Int)
| 0, _, _ => none
| k + 1, x50, x51 =>
 if x51 < (y28.length : Int) then
  (idx y28 x51).bind fun y29 =>
  (qG y29).bind fun y30 =>
  (dN (x50 ++ [y30])).bind fun z10 =>
  (chk (x51 + 1)).bind fun z11 =>
  nS y28 k z10 z11
 else
  some x50
def mX (fuel : Nat) (x9 : List (List Int)) : Nat → (List (List Int)) → Int → (List (List Int)) → Option (List (List Int))
| 0, _, _, _ => none
| k + 1, x42, x43, x44 =>
 if x43 < (x9.length : Int) then
  ((idx x42 x43).bind fun y28 =>
  (nS y28 fuel [] 0).bind fun x47 =>
  (dN (x44 ++ ([x47] : List (List Int)))).bind fun z12 =>
  some (x42.set x43.toNat y28, z12)).bind fun (x45, x46) =>
  (chk (x43 + 1)).bind fun z13 =>
  mX fuel x9 k x45 z13 x46
 else
  some x44
def vX (fuel : Nat) (a0 : Usage_text) (a1 : List UsageDef) (a2 : Int) : Option (UsageDef) :=
 (idx a0.ScopeProg.Defs a2).bind fun y1 =>
 (mk ([] : List Int) (y1.Chans.length : Int)).bind fun y2 =>
 (nU fuel a0 a1 a2 y1 fuel y2 0 []).bind fun (x1, x2) =>
 (lS fuel a0 a1 a2 y1 fuel x1 0 []).bind fun (x9, x10) =>
 (mX fuel x9 fuel x9 0 []).bind fun x38 =>
 some (⟨x2, x10, x38⟩ : UsageDef)
theorem aII (fuel : Nat)  (a0 : Usage_text) (a1 : List UsageDef) (a2 : Int) (r : UsageDef) (H : vX fuel a0 a1 a2 = some r) : FnS Tryz.prog 81 [aF bJ a0, fSl bC a1, aA .i64 a2] [] fAny (fun v => [rX .agg [.own (fun v => aE v 30 (aB .i64) r.Chans) (fun _ => dK), .own (fun v => aE v 30 (aB .i64) r.Rules) (fun _ => dK), .own (fun v => bL v 58 (cL 30 (aB .i64)) r.Args) (fun _ => jG)] v]) := by
 unfold vX at H
 refine bD Tryz.func81 rfl Tryz.ntmps81 rfl (fun β => ?_)
 refine Z1 ?_
 refine Tn (cK rfl uO rfl) fun b1 => ?_
 revert H; refine B8 fun y1 h1 H => ?_
 refine Z2 ?_
 refine Tn (cK rfl tB rfl) fun b2 => ?_
 refine dM (φs' := [fSl bF y1.Chans, fSl bW y1.Spots, fSl bK y1.Rules]) trivial rfl rfl (has rfl) (has rfl) (aO (aZ) (aO (aZ) (aO (aZ) bX))) (sz rfl) rfl rfl rfl ?_
 refine Z2 ?_
 refine Tn (cK rfl uO rfl) fun b3 => ?_
 revert H; refine B5 fun y2 h2 H => ?_
 obtain ⟨h3, h4⟩ := mk_rep (z' := ([⟨fEq (.slice none 0 0), aD trivial⟩] : List LF)) h2
 refine Tn (lZ (t := tF 1) (z := [⟨fEq (.slice none 0 0), aD trivial⟩]) rfl (has rfl) (et rfl) rfl aGM rfl h4) fun b4 => ?_
 generalize (Value.slice (some ⟨b4, 0, none⟩) _ _) = v1
 refine T_nilsD2 (o := (cL 67 (aB .i64))) (ys := y2) h3 rfl nil_tk ?_
 refine eB 0 rfl (fun hc_v1 => ?_)
 revert H; refine B2 fun o1 H Hr1 => ?_
 refine aW (ι := List (List Int) × List Int × Value) (fun i => o1 = (i.1, i.2.1)) (fun i => [(0, aF bJ a0), (1, fSl bC a1), (2, aA .i64 a2), (6, fEq (ptr b1)), (7, fEq (ptr b2)), (8, fEq (ptr b3)), (9, fEq v1)]) (fun i => [aC b3 61 [fEq i.2.2, fEq (.slice none 0 0), fEq (.slice none 0 0)], aC b2 99 [fSl bF y1.Chans, fSl bW y1.Spots, fSl bK y1.Rules], aC b1 61 [fEq (.slice none 0 0), fEq (.slice none 0 0), fEq (.slice none 0 0)], bL v1 157 (cL 67 (aB .i64)) i.1, aE i.2.2 30 (aB .i64) i.2.1]) ?_ ?_
 refine Z7 ?_
 refine qL (aB .i64) 30 ?_
 refine aG [2, 3, 4, 1, 0] (by decide) ?_
 refine Tl (ι := Nat × List (List Int) × Int × List Int × Value) (fun i => nU fuel a0 a1 a2 y1 i.1 i.2.1 i.2.2.1 i.2.2.2.1 = _) (fun i => i.1) (fun i => [(0, aF bJ a0), (1, fSl bC a1), (2, aA .i64 a2), (6, fEq (ptr b1)), (7, fEq (ptr b2)), (8, fEq (ptr b3)), (9, fEq v1), (39, fSl bF y1.Chans), (40, aA .i64 (y1.Chans.length : Int)), (41, aA .i64 i.2.2.1)]) (fun i => [aC b3 61 [fEq i.2.2.2.2, fEq (.slice none 0 0), fEq (.slice none 0 0)], aC b2 99 [fSl bF y1.Chans, fSl bW y1.Spots, fSl bK y1.Rules], aC b1 61 [fEq (.slice none 0 0), fEq (.slice none 0 0), fEq (.slice none 0 0)], bL v1 157 (cL 67 (aB .i64)) i.2.1, aE i.2.2.2.2 30 (aB .i64) i.2.2.2.1]) (fuel, y2, 0, [], (.slice none 0 0)) H ?_
 clear H; rintro ⟨k1, x6, x7, x8, v4⟩ H
 replace H : nU fuel a0 a1 a2 y1 k1 x6 x7 x8 = _ := H
 try dsimp only
 obtain _ | k1 := k1
 rw [nU] at H; cases H
 rw [nU] at H
 refine aR 4 rfl (fun hc_v4 => ?_)
 refine Z3 ?_
 refine aH ?_
 revert H; refine is (fun c1 H => ?_) fun c1 H => ?_
 refine Z3 ?_
 refine aH ?_
 revert H; refine B3 fun y3 h5 H => ?_
 refine Z2 ?_
 refine Tn (cK rfl aBq rfl) fun b5 => ?_
 refine Z1 ?_
 refine dM (φs' := [aA .i64 y3.At, aA .i64 y3.Many]) trivial rfl rfl (has rfl) (has rfl) (aO (aD trivial) (aO (aD trivial) bX)) (sz rfl) rfl rfl rfl ?_
 refine Z1 ?_
 refine aH ?_
 revert H; refine bs fun y4 h6 H => ?_
 revert H; refine bs fun y5 h7 H => ?_
 revert H; refine bs fun y6 h8 H => ?_
 revert H; refine bs fun y7 h9 H => ?_
 apply bH (ods := [_, _, _, _, _, _, _, _, _, _, _, _, _, _, _, _, _, _]) 18 0 6 bG rfl rfl rfl
 refine ND ?_
 refine M8 ?_
 intros
 refine M6 ?_
 intros
 refine Nc (aAq _ _ _ _ h7) fun _ => ?_
 refine Nc (aHm _ _ _ _ _ _ h8) fun _ => ?_
 refine Nc (zZ _ _ h9) fun _ => ?_
 refine Mf (φ := fSl (aB .i64) [y7]) (cM (t := (aB .i64)) (xs := [y7]) rfl (et rfl) (aS.cons rfl (has rfl) (aT (aD trivial)) aS.nil) rfl rfl rfl) (fun b => cO) fun _ => ?_
 revert H; refine B1 fun z1 h10 H => ?_
 refine nG ?_
 refine rP (ys := [y7]) trivial rfl rfl rfl (has rfl) (has rfl) (et rfl) rfl h10 (fun v6 => ?_)
 refine aR 0 rfl (fun hc_v6 => ?_)
 refine Z1 ?_
 refine eH ?_
 refine dC (φs' := [fEq v6, fEq (.slice none 0 0), fEq (.slice none 0 0)]) trivial rfl rfl (has rfl) (has rfl) (aD hc_v6) (sz rfl) rfl rfl ?_
 revert H; refine B6 fun y8 h11 H => ?_
 refine Tn (lZ (t := (aB .i64)) (z := 0) rfl (has rfl) (et rfl) rfl aFb rfl h11) fun b7 => ?_
 generalize (Value.slice (some ⟨b7, 0, none⟩) _ _) = v7
 refine aR 0 rfl (fun hc_v7 => ?_)
 revert H; refine bs fun y9 h12 H => ?_
 refine Yo 6 rfl (iY rfl hh hh (el rfl) h12) ?_
 refine mU ?_
 refine dH ?_
 refine aFN (z' := y8) (f := (fun v => aE v 67 (aB .i64) y8)) (hf := (fun _ => dK)) trivial rfl rfl rfl (has rfl) (has rfl) hc_v7 (sz rfl) (bB h12) rfl rfl ?_
 revert H; refine B4 fun z2 h13 H => ?_
 refine Z3 ?_
 refine aG [1, 4, 5, 0, 2] (by decide) ?_
 exact Tm ((k1, x6.set x7.toNat y8, z2, z1, v6)) ⟨H, ls⟩
 exact fk
 kernel_rfl
 refine Z6 ?_
 exact Tm ((x6, x8, v4)) (ij H)
 clear H; intro i hi; obtain ⟨x1, x2, v2⟩ := i; subst o1; have H := Hr1; clear Hr1; try dsimp only at H
 try dsimp only
 refine aR 4 rfl (fun hc_v2 => ?_)
 revert H; refine bs fun o2 H Hr2 => ?_
 refine aW (ι := List (List Int) × List Int × Value) (fun i => o2 = (i.1, i.2.1)) (fun i => [(6, fEq (ptr b1)), (8, fEq (ptr b3)), (9, fEq v1)]) (fun i => [aC b3 61 [fEq v2, fEq i.2.2, fEq (.slice none 0 0)], aC b2 99 [fSl bF y1.Chans, fSl bW y1.Spots, fSl bK y1.Rules], aC b1 61 [fEq (.slice none 0 0), fEq (.slice none 0 0), fEq (.slice none 0 0)], bL v1 157 (cL 67 (aB .i64)) i.1, aE v2 30 (aB .i64) x2, aE i.2.2 30 (aB .i64) i.2.1]) ?_ ?_
 refine Z7 ?_
 refine qL (aB .i64) 30 ?_
 refine aG [1, 2, 3, 4, 5, 0] (by decide) ?_
 refine Tl (ι := Nat × List (List Int) × Int × List Int × Value) (fun i => lS fuel a0 a1 a2 y1 i.1 i.2.1 i.2.2.1 i.2.2.2.1 = _) (fun i => i.1) (fun i => [(0, aF bJ a0), (1, fSl bC a1), (2, aA .i64 a2), (6, fEq (ptr b1)), (7, fEq (ptr b2)), (8, fEq (ptr b3)), (9, fEq v1), (74, fSl bK y1.Rules), (75, aA .i64 (y1.Rules.length : Int)), (76, aA .i64 i.2.2.1)]) (fun i => [aC b3 61 [fEq v2, fEq i.2.2.2.2, fEq (.slice none 0 0)], aC b2 99 [fSl bF y1.Chans, fSl bW y1.Spots, fSl bK y1.Rules], aC b1 61 [fEq (.slice none 0 0), fEq (.slice none 0 0), fEq (.slice none 0 0)], bL v1 157 (cL 67 (aB .i64)) i.2.1, aE v2 30 (aB .i64) x2, aE i.2.2.2.2 30 (aB .i64) i.2.2.2.1]) (fuel, x1, 0, [], (.slice none 0 0)) H ?_
 clear H; rintro ⟨k2, x14, x15, x16, v10⟩ H
 replace H : lS fuel a0 a1 a2 y1 k2 x14 x15 x16 = _ := H
 try dsimp only
 obtain _ | k2 := k2
 rw [lS] at H; cases H
 rw [lS] at H
 refine aR 5 rfl (fun hc_v10 => ?_)
 refine Z3 ?_
 refine aH ?_
 revert H; refine is (fun c2 H => ?_) fun c2 H => ?_
 revert H; refine B3 fun o3 H Hr3 => ?_
 refine aW (ι := List (List Int) × List Int × Value) (fun i => o3 = (i.1, i.2.1)) (fun i => [(0, aF bJ a0), (1, fSl bC a1), (2, aA .i64 a2), (6, fEq (ptr b1)), (7, fEq (ptr b2)), (8, fEq (ptr b3)), (9, fEq v1), (74, fSl bK y1.Rules), (75, aA .i64 (y1.Rules.length : Int)), (76, aA .i64 x15)]) (fun i => [aC b3 61 [fEq v2, fEq i.2.2, fEq (.slice none 0 0)], aC b2 99 [fSl bF y1.Chans, fSl bW y1.Spots, fSl bK y1.Rules], aC b1 61 [fEq (.slice none 0 0), fEq (.slice none 0 0), fEq (.slice none 0 0)], bL v1 157 (cL 67 (aB .i64)) i.1, aE v2 30 (aB .i64) x2, aE i.2.2 30 (aB .i64) i.2.1]) ?_ ?_
 revert H; refine B3 fun y10 h14 H => ?_
 refine Z2 ?_
 refine Tn (cK rfl uD rfl) fun b8 => ?_
 refine Z1 ?_
 refine dM (φs' := [aA .i64 y10.At, fSl (aB .i64) y10.Joins, aA .i64 y10.Node]) trivial rfl rfl (has rfl) (has rfl) (aO (aD trivial) (aO (aZ) (aO (aD trivial) bX))) (sz rfl) rfl rfl rfl ?_
 revert H; refine B4 fun o4 H Hr4 => ?_
 refine aW (ι := Int) (fun i => o4 = i) (fun i => [(0, aF bJ a0), (1, fSl bC a1), (2, aA .i64 a2), (6, fEq (ptr b1)), (7, fEq (ptr b2)), (8, fEq (ptr b3)), (9, fEq v1), (74, fSl bK y1.Rules), (75, aA .i64 (y1.Rules.length : Int)), (76, aA .i64 x15), (13, fEq (ptr b8)), (12, aA .i64 x15), (14, aA .i64 i)]) (fun i => [aC b8 105 [aA .i64 y10.At, fSl (aB .i64) y10.Joins, aA .i64 y10.Node], aC b3 61 [fEq v2, fEq v10, fEq (.slice none 0 0)], aC b2 99 [fSl bF y1.Chans, fSl bW y1.Spots, fSl bK y1.Rules], aC b1 61 [fEq (.slice none 0 0), fEq (.slice none 0 0), fEq (.slice none 0 0)], bL v1 157 (cL 67 (aB .i64)) x14, aE v2 30 (aB .i64) x2, aE v10 30 (aB .i64) x16]) ?_ ?_
 refine Z7 ?_
 refine Tl (ι := Nat × Int × Int) (fun i => nK a1 a2 y10 i.1 i.2.1 i.2.2 = _) (fun i => i.1) (fun i => [(0, aF bJ a0), (1, fSl bC a1), (2, aA .i64 a2), (6, fEq (ptr b1)), (7, fEq (ptr b2)), (8, fEq (ptr b3)), (9, fEq v1), (74, fSl bK y1.Rules), (75, aA .i64 (y1.Rules.length : Int)), (76, aA .i64 x15), (13, fEq (ptr b8)), (12, aA .i64 x15), (14, aA .i64 i.2.1), (82, fSl (aB .i64) y10.Joins), (83, aA .i64 (y10.Joins.length : Int)), (84, aA .i64 i.2.2)]) (fun i => [aC b8 105 [aA .i64 y10.At, fSl (aB .i64) y10.Joins, aA .i64 y10.Node], aC b3 61 [fEq v2, fEq v10, fEq (.slice none 0 0)], aC b2 99 [fSl bF y1.Chans, fSl bW y1.Spots, fSl bK y1.Rules], aC b1 61 [fEq (.slice none 0 0), fEq (.slice none 0 0), fEq (.slice none 0 0)], bL v1 157 (cL 67 (aB .i64)) x14, aE v2 30 (aB .i64) x2, aE v10 30 (aB .i64) x16]) (fuel, 2, 0) H ?_
 clear H; rintro ⟨k3, x22, x23⟩ H
 replace H : nK a1 a2 y10 k3 x22 x23 = _ := H
 try dsimp only
 obtain _ | k3 := k3
 rw [nK] at H; cases H
 rw [nK] at H
 refine Z3 ?_
 refine aH ?_
 revert H; refine is (fun c3 H => ?_) fun c3 H => ?_
 refine Z3 ?_
 refine aH ?_
 revert H; refine B2 fun y11 h15 H => ?_
 revert H; refine B8 fun y12 h16 H => ?_
 revert H; refine B4 fun y13 h17 H => ?_
 revert H; refine B2 fun y14 h18 H => ?_
 refine Tc (tW _ _ h18) ?_
 revert H; refine B6 fun z3 h19 H => ?_
 refine Z3 ?_
 exact Tm ((k3, min x22 y14, z3)) ⟨H, ls⟩
 refine Z6 ?_
 exact Tm (x22) (ij H)
 clear H; intro x19 hi; subst o4; have H := Hr4; clear Hr4; try dsimp only at H
 try dsimp only
 refine aH ?_
 revert H; refine bs fun y15 h20 H => ?_
 apply bH (ods := [_, _, _, _, _]) 5 0 7 bG rfl rfl rfl
 refine ND ?_
 refine M3 ?_
 intros
 refine Nc (zZ _ _ h20) fun _ => ?_
 refine Mf (φ := fSl (aB .i64) [y15]) (cM (t := (aB .i64)) (xs := [y15]) rfl (et rfl) (aS.cons rfl (has rfl) (aT (aD trivial)) aS.nil) rfl rfl rfl) (fun b => cO) fun _ => ?_
 revert H; refine B1 fun z4 h21 H => ?_
 refine mU ?_
 refine rP (ys := [y15]) trivial rfl rfl rfl (has rfl) (has rfl) (et rfl) rfl h21 (fun v13 => ?_)
 refine aR 0 rfl (fun hc_v13 => ?_)
 refine Z1 ?_
 refine eH ?_
 refine dC (φs' := [fEq v2, fEq v13, fEq (.slice none 0 0)]) trivial rfl rfl (has rfl) (has rfl) (aD hc_v13) (sz rfl) rfl rfl ?_
 refine Z1 ?_
 refine aH ?_
 revert H; refine B3 fun y16 h22 H => ?_
 revert H; refine B4 fun y17 h23 H => ?_
 revert H; refine B2 fun y18 h24 H => ?_
 refine Tc (tW _ _ h24) ?_
 revert H; refine I2 (fun c4 H => ?_) fun c4 H => ?_
 refine Z5 ?_
 refine aG [0, 3, 4, 5, 6, 1] (by decide) ?_
 exact Tm ((x14, z4, v13)) (ij H)
 refine Z3 ?_
 refine aH ?_
 revert H; refine bs fun y19 h25 H => ?_
 revert H; refine bs fun z5 h26 H => ?_
 apply bH (ods := [_, _, _, _, _, _, _, _, _, _, _]) 11 0 7 bG rfl rfl rfl
 refine ND ?_
 refine M5 ?_
 intros
 refine Nc (aAq _ _ _ _ h25) fun _ => ?_
 refine M5 ?_
 intros
 refine Z9 ?_
 refine aG [0, 2, 3, 4, 5, 6, 1] (by decide) ?_
 refine Tl (ι := Nat × List (List Int) × Int × Int) (fun i => nW fuel a0 a1 y10 z4 i.1 i.2.1 i.2.2.1 i.2.2.2 = _) (fun i => i.1) (fun i => [(0, aF bJ a0), (1, fSl bC a1), (2, aA .i64 a2), (6, fEq (ptr b1)), (7, fEq (ptr b2)), (8, fEq (ptr b3)), (9, fEq v1), (74, fSl bK y1.Rules), (75, aA .i64 (y1.Rules.length : Int)), (76, aA .i64 x15), (13, fEq (ptr b8)), (17, aA .i64 i.2.2.1), (128, fSl (aB .i64) y10.Joins), (129, aA .i64 (y10.Joins.length : Int)), (130, aA .i64 i.2.2.2)]) (fun i => [aC b3 61 [fEq v2, fEq v13, fEq (.slice none 0 0)], aC b8 105 [aA .i64 y10.At, fSl (aB .i64) y10.Joins, aA .i64 y10.Node], aC b2 99 [fSl bF y1.Chans, fSl bW y1.Spots, fSl bK y1.Rules], aC b1 61 [fEq (.slice none 0 0), fEq (.slice none 0 0), fEq (.slice none 0 0)], bL v1 157 (cL 67 (aB .i64)) i.2.1, aE v2 30 (aB .i64) x2, aE v13 30 (aB .i64) z4]) (fuel, x14, z5, 0) H ?_
 clear H; rintro ⟨k4, x27, x28, x29⟩ H
 replace H : nW fuel a0 a1 y10 z4 k4 x27 x28 x29 = _ := H
 try dsimp only
 obtain _ | k4 := k4
 rw [nW] at H; cases H
 rw [nW] at H
 refine Z3 ?_
 refine aH ?_
 revert H; refine is (fun c5 H => ?_) fun c5 H => ?_
 revert H; refine B3 fun o5 H Hr5 => ?_
 refine aW (ι := List (List Int) × Int) (fun i => o5 = (i.1, i.2)) (fun i => [(0, aF bJ a0), (1, fSl bC a1), (2, aA .i64 a2), (6, fEq (ptr b1)), (7, fEq (ptr b2)), (8, fEq (ptr b3)), (9, fEq v1), (74, fSl bK y1.Rules), (75, aA .i64 (y1.Rules.length : Int)), (76, aA .i64 x15), (13, fEq (ptr b8)), (17, aA .i64 i.2), (128, fSl (aB .i64) y10.Joins), (129, aA .i64 (y10.Joins.length : Int)), (130, aA .i64 x29)]) (fun i => [aC b3 61 [fEq v2, fEq v13, fEq (.slice none 0 0)], aC b8 105 [aA .i64 y10.At, fSl (aB .i64) y10.Joins, aA .i64 y10.Node], aC b2 99 [fSl bF y1.Chans, fSl bW y1.Spots, fSl bK y1.Rules], aC b1 61 [fEq (.slice none 0 0), fEq (.slice none 0 0), fEq (.slice none 0 0)], bL v1 157 (cL 67 (aB .i64)) i.1, aE v2 30 (aB .i64) x2, aE v13 30 (aB .i64) z4]) ?_ ?_
 revert H; refine B2 fun y20 h27 H => ?_
 revert H; refine B7 fun y21 h28 H => ?_
 refine Yo 4 rfl (iY rfl hh hh (el rfl) h28) ?_
 refine bM ?_
 refine rB (i := y20.toNat) (k := 0) (y := y21) (f := (fun v => aE v 67 (aB .i64) y21)) (bB h28) rfl (fun v14 => ?_)
 refine aR 0 rfl (fun hc_v14 => ?_)
 refine Yo 1 rfl (mJ rfl rfl hh (sc rfl) (bB h28) rfl) ?_
 refine Z4 ?_
 refine aG [2, 3, 4, 5, 1, 6, 7, 0] (by decide) ?_
 refine Tl (ι := Nat × Int × Int × List Int) (fun i => oK fuel a0 a1 y10 x27 y20 y21 i.1 i.2.1 i.2.2.1 i.2.2.2 = _) (fun i => i.1) (fun i => [(0, aF bJ a0), (1, fSl bC a1), (2, aA .i64 a2), (6, fEq (ptr b1)), (7, fEq (ptr b2)), (8, fEq (ptr b3)), (9, fEq v1), (74, fSl bK y1.Rules), (75, aA .i64 (y1.Rules.length : Int)), (76, aA .i64 x15), (13, fEq (ptr b8)), (17, aA .i64 i.2.1), (128, fSl (aB .i64) y10.Joins), (129, aA .i64 (y10.Joins.length : Int)), (130, aA .i64 x29), (19, aA .i64 y20), (138, aA .i64 (y21.length : Int)), (139, aA .i64 i.2.2.1)]) (fun i => [aC b3 61 [fEq v2, fEq v13, fEq (.slice none 0 0)], aC b8 105 [aA .i64 y10.At, fSl (aB .i64) y10.Joins, aA .i64 y10.Node], aC b2 99 [fSl bF y1.Chans, fSl bW y1.Spots, fSl bK y1.Rules], aC b1 61 [fEq (.slice none 0 0), fEq (.slice none 0 0), fEq (.slice none 0 0)], oQ v1 157 (cL 67 (aB .i64)) x27 (y20.toNat * OTy.sz (cL 67 (aB .i64)) + 0) v14, aE v2 30 (aB .i64) x2, aE v13 30 (aB .i64) z4, aE v14 67 (aB .i64) i.2.2.2]) (fuel, x28, 0, y21) H ?_
 clear H; rintro ⟨k5, x35, x36, x37⟩ H
 replace H : oK fuel a0 a1 y10 x27 y20 y21 k5 x35 x36 x37 = _ := H
 try dsimp only
 obtain _ | k5 := k5
 rw [oK] at H; cases H
 rw [oK] at H
 refine Z3 ?_
 refine aH ?_
 revert H; refine is (fun c6 H => ?_) fun c6 H => ?_
 refine Z3 ?_
 refine aH ?_
 refine Z5 ?_
 refine aH ?_
 revert H; refine bs fun y22 h29 H => ?_
 revert H; refine bs fun y23 h30 H => ?_
 revert H; refine bs fun y24 h31 H => ?_
 revert H; refine bs fun y25 h32 H => ?_
 revert H; refine bs fun y26 h33 H => ?_
 revert H; refine bs fun y27 h34 H => ?_
 apply bH (ods := [_, _, _, _, _, _, _, _, _, _, _, _, _, _, _, _, _, _, _, _, _]) 21 0 8 bG rfl rfl rfl
 refine ND ?_
 refine M2 ?_
 intros
 refine Mo 4 rfl (iY rfl hh hh (el rfl) h29) fun _ => ?_
 refine Mo 4 rfl (mJ rfl rfl hh (sc rfl) (bB h29) rfl) fun _ => ?_
 refine M3 ?_
 intros
 refine Mo 4 rfl (iY rfl hh hh (el rfl) h30) fun _ => ?_
 refine Mo 4 rfl (mJ rfl rfl hh (sc rfl) (bB h30) rfl) fun _ => ?_
 refine M2 ?_
 intros
 refine Mo 7 rfl (gN rfl rfl hh (sc rfl) (bB h31) rfl) fun _ => ?_
 refine M5 ?_
 intros
 refine Nc (aET _ _ _ _ _ _ h32) fun _ => ?_
 refine Nc (aEQ _ _ _ h33) fun _ => ?_
 refine M1 ?_
 intros
 refine jV (od := odC [7] true (fAny) [aE v14 67 (aB .i64) (x37.set x36.toNat y26)]) (p := 7) (z' := y26) rfl (fun _ => rfl) (fun _ => rfl) trivial rfl rfl rfl rfl (has rfl) (has rfl) (aD trivial) (sz rfl) (bB h34) rfl rfl (fun _ => ?_)
 revert H; refine B4 fun z6 h35 H => ?_
 revert H; refine B6 fun z7 h36 H => ?_
 refine Z3 ?_
 exact Tm ((k5, z6, z7, x37.set x36.toNat y26)) ⟨H, ls⟩
 exact fk
 kernel_rfl
 refine Z7 ?_
 refine bM ?_
 refine T_fr7 ?_
 refine lO (o := (cL 67 (aB .i64))) (i := y20.toNat) (k := 0) (y := y21) (y' := x37) (f := (fun v => aE v 67 (aB .i64) x37)) (hf := (fun _ => dK)) (bB h28) rfl rfl ?_
 refine aG [1, 2, 3, 4, 0, 5, 6] (by decide) ?_
 exact Tm ((x27.set y20.toNat x37, x35)) (ij H)
 clear H; intro i hi; obtain ⟨x30, x31⟩ := i; subst o5; have H := Hr5; clear Hr5; try dsimp only at H
 try dsimp only
 revert H; refine B1 fun z8 h37 H => ?_
 refine Z3 ?_
 exact Tm ((k4, x30, x31, z8)) ⟨H, ls⟩
 refine Z7 ?_
 refine aG [0, 2, 3, 4, 5, 6] (by decide) ?_
 exact Tm ((x27, z4, v13)) (ij H)
 exact fk
 kernel_rfl
 exact fk
 kernel_rfl
 clear H; intro i hi; obtain ⟨x17, x18, v11⟩ := i; subst o3; have H := Hr3; clear Hr3; try dsimp only at H
 try dsimp only
 refine aR 5 rfl (fun hc_v11 => ?_)
 revert H; refine B1 fun z9 h38 H => ?_
 refine Z3 ?_
 exact Tm ((k2, x17, z9, x18, v11)) ⟨H, ls⟩
 refine Z6 ?_
 exact Tm ((x14, x16, v10)) (ij H)
 clear H; intro i hi; obtain ⟨x9, x10, v8⟩ := i; subst o2; have H := Hr2; clear Hr2; try dsimp only at H
 try dsimp only
 refine aR 5 rfl (fun hc_v8 => ?_)
 revert H; refine bs fun o6 H Hr6 => ?_
 refine aW (ι := List (List Int) × Value) (fun i => o6 = i.1) (fun i => [(6, fEq (ptr b1)), (8, fEq (ptr b3))]) (fun i => [aC b3 61 [fEq v2, fEq v8, fEq i.2], aC b2 99 [fSl bF y1.Chans, fSl bW y1.Spots, fSl bK y1.Rules], aC b1 61 [fEq (.slice none 0 0), fEq (.slice none 0 0), fEq (.slice none 0 0)], aE v2 30 (aB .i64) x2, aE v8 30 (aB .i64) x10, bL i.2 58 (cL 30 (aB .i64)) i.1]) ?_ ?_
 refine Z2 ?_
 refine Yo 3 rfl (aCC rfl hh (us rfl)) ?_
 refine Z3 ?_
 refine yK (cL 30 (aB .i64)) 58 ?_
 refine aG [1, 2, 3, 4, 5, 6, 0] (by decide) ?_
 refine Tl (ι := Nat × List (List Int) × Int × List (List Int) × Value) (fun i => mX fuel x9 i.1 i.2.1 i.2.2.1 i.2.2.2.1 = _) (fun i => i.1) (fun i => [(6, fEq (ptr b1)), (8, fEq (ptr b3)), (167, fEq v1), (168, aA .i64 (x9.length : Int)), (169, aA .i64 i.2.2.1)]) (fun i => [aC b3 61 [fEq v2, fEq v8, fEq i.2.2.2.2], aC b2 99 [fSl bF y1.Chans, fSl bW y1.Spots, fSl bK y1.Rules], aC b1 61 [fEq (.slice none 0 0), fEq (.slice none 0 0), fEq (.slice none 0 0)], bL v1 157 (cL 67 (aB .i64)) i.2.1, aE v2 30 (aB .i64) x2, aE v8 30 (aB .i64) x10, bL i.2.2.2.2 58 (cL 30 (aB .i64)) i.2.2.2.1]) (fuel, x9, 0, [], (.slice none 0 0)) H ?_
 clear H; rintro ⟨k6, x42, x43, x44, v17⟩ H
 replace H : mX fuel x9 k6 x42 x43 x44 = _ := H
 try dsimp only
 obtain _ | k6 := k6
 rw [mX] at H; cases H
 rw [mX] at H
 refine eB 6 rfl (fun hc_v17 => ?_)
 refine Z3 ?_
 refine aH ?_
 revert H; refine is (fun c7 H => ?_) fun c7 H => ?_
 revert H; refine B3 fun o7 H Hr7 => ?_
 refine aW (ι := List (List Int) × List (List Int) × Value) (fun i => o7 = (i.1, i.2.1)) (fun i => [(6, fEq (ptr b1)), (8, fEq (ptr b3)), (167, fEq v1), (168, aA .i64 (x9.length : Int)), (169, aA .i64 x43)]) (fun i => [aC b3 61 [fEq v2, fEq v8, fEq i.2.2], aC b2 99 [fSl bF y1.Chans, fSl bW y1.Spots, fSl bK y1.Rules], aC b1 61 [fEq (.slice none 0 0), fEq (.slice none 0 0), fEq (.slice none 0 0)], bL v1 157 (cL 67 (aB .i64)) i.1, aE v2 30 (aB .i64) x2, aE v8 30 (aB .i64) x10, bL i.2.2 58 (cL 30 (aB .i64)) i.2.1]) ?_ ?_
 revert H; refine B2 fun y28 h39 H => ?_
 refine Yo 3 rfl (iY rfl hh hh (el rfl) h39) ?_
 refine eF ?_
 refine rB (i := x43.toNat) (k := 0) (y := y28) (f := (fun v => aE v 67 (aB .i64) y28)) (bB h39) rfl (fun v19 => ?_)
 refine aR 0 rfl (fun hc_v19 => ?_)
 refine Yo 1 rfl (mJ rfl rfl hh (sc rfl) (bB h39) rfl) ?_
 revert H; refine B5 fun o8 H Hr8 => ?_
 refine aW (ι := List Int × Value) (fun i => o8 = i.1) (fun i => [(6, fEq (ptr b1)), (8, fEq (ptr b3)), (167, fEq v1), (168, aA .i64 (x9.length : Int)), (169, aA .i64 x43), (23, fEq i.2)]) (fun i => [aC b3 61 [fEq v2, fEq v8, fEq v17], aC b2 99 [fSl bF y1.Chans, fSl bW y1.Spots, fSl bK y1.Rules], aC b1 61 [fEq (.slice none 0 0), fEq (.slice none 0 0), fEq (.slice none 0 0)], oQ v1 157 (cL 67 (aB .i64)) x42 (x43.toNat * OTy.sz (cL 67 (aB .i64)) + 0) v19, aE i.2 30 (aB .i64) i.1, aE v2 30 (aB .i64) x2, aE v8 30 (aB .i64) x10, bL v17 58 (cL 30 (aB .i64)) x44, aE v19 67 (aB .i64) y28]) ?_ ?_
 refine Z6 ?_
 refine qL (aB .i64) 30 ?_
 refine aG [3, 4, 5, 2, 0, 1, 6, 7, 8] (by decide) ?_
 refine Tl (ι := Nat × List Int × Int × Value) (fun i => nS y28 i.1 i.2.1 i.2.2.1 = _) (fun i => i.1) (fun i => [(6, fEq (ptr b1)), (8, fEq (ptr b3)), (167, fEq v1), (168, aA .i64 (x9.length : Int)), (169, aA .i64 x43), (23, fEq i.2.2.2), (173, fEq v19), (174, aA .i64 (y28.length : Int)), (175, aA .i64 i.2.2.1)]) (fun i => [aC b3 61 [fEq v2, fEq v8, fEq v17], aC b2 99 [fSl bF y1.Chans, fSl bW y1.Spots, fSl bK y1.Rules], aC b1 61 [fEq (.slice none 0 0), fEq (.slice none 0 0), fEq (.slice none 0 0)], oQ v1 157 (cL 67 (aB .i64)) x42 (x43.toNat * OTy.sz (cL 67 (aB .i64)) + 0) v19, aE i.2.2.2 30 (aB .i64) i.2.1, aE v19 67 (aB .i64) y28, aE v2 30 (aB .i64) x2, aE v8 30 (aB .i64) x10, bL v17 58 (cL 30 (aB .i64)) x44]) (fuel, [], 0, (.slice none 0 0)) H ?_
 clear H; rintro ⟨k7, x50, x51, v22⟩ H
 replace H : nS y28 k7 x50 x51 = _ := H
 try dsimp only
 obtain _ | k7 := k7
 rw [nS] at H; cases H
 rw [nS] at H
 refine aR 4 rfl (fun hc_v22 => ?_)
 refine Z3 ?_
 refine aH ?_
 revert H; refine is (fun c8 H => ?_) fun c8 H => ?_
 refine Z3 ?_
 refine aH ?_
 revert H; refine B2 fun y29 h40 H => ?_
 refine Z1 ?_
 refine Yo 5 rfl (gN rfl rfl hh (sc rfl) (bB h40) rfl) ?_
 revert H; refine B5 fun y30 h41 H => ?_
 refine Tc (zZ _ _ h41) ?_
 refine Tn (cM (t := (aB .i64)) (xs := [y30]) rfl (et rfl) (aS.cons rfl (has rfl) (aT (aD trivial)) aS.nil) rfl rfl rfl) fun b10 => ?_
 generalize (Value.slice (some ⟨b10, 0, none⟩) _ _) = v23
 refine aR 0 rfl (fun hc_v23 => ?_)
 revert H; refine bs fun z10 h42 H => ?_
 refine nG ?_
 refine dH ?_
 refine aBD trivial rfl rfl rfl (has rfl) (has rfl) (et rfl) rfl h42 (fun v24 => ?_)
 refine aR 0 rfl (fun hc_v24 => ?_)
 revert H; refine B5 fun z11 h43 H => ?_
 refine Z3 ?_
 refine aG [1, 2, 3, 4, 0, 5, 6, 7, 8] (by decide) ?_
 exact Tm ((k7, z10, z11, v24)) ⟨H, ls⟩
 refine Z6 ?_
 refine aG [0, 1, 2, 3, 4, 6, 7, 8, 5] (by decide) ?_
 exact Tm ((x50, v22)) (ij H)
 clear H; intro i hi; obtain ⟨x47, v20⟩ := i; subst o8; have H := Hr8; clear Hr8; try dsimp only at H
 try dsimp only
 refine aR 4 rfl (fun hc_v20 => ?_)
 refine Z4 ?_
 refine Tn (cM (t := tF 1) (xs := [[⟨fEq v20, aD hc_v20⟩]]) rfl (et rfl) (aS.cons rfl (has rfl) (aT (aD hc_v20)) aS.nil) rfl rfl rfl) fun b11 => ?_
 generalize (Value.slice (some ⟨b11, 0, none⟩) _ _) = v25
 refine rD ?_
 refine nG ?_
 refine gR (p := 0) (f := (fun v => aE v 30 (aB .i64) x47)) (hf := (fun _ => dK)) rfl Ent.rfl ?_
 refine pQ (o := (cL 30 (aB .i64))) (xs := ([x47] : List (List Int))) rfl rfl rfl ?_
 refine eB 0 rfl (fun hc_v25 => ?_)
 revert H; refine bs fun z12 h44 H => ?_
 refine T_fr7 ?_
 refine dH ?_
 refine zD (q := (cL 30 (aB .i64))) trivial rfl rfl rfl (has rfl) (has rfl) (et rfl) rfl h44 (fun v26 => ?_)
 refine eB 0 rfl (fun hc_v26 => ?_)
 refine Z1 ?_
 refine dH ?_
 refine dC (φs' := [fEq v2, fEq v8, fEq v26]) trivial rfl rfl (has rfl) (has rfl) (aD hc_v26) (sz rfl) rfl rfl ?_
 refine Z3 ?_
 refine bM ?_
 refine T_fr7 ?_
 refine lO (o := (cL 67 (aB .i64))) (i := x43.toNat) (k := 0) (y := y28) (y' := y28) (f := (fun v => aE v 67 (aB .i64) y28)) (hf := (fun _ => dK)) (bB h39) rfl rfl ?_
 refine aG [1, 3, 4, 0, 5, 6, 2] (by decide) ?_
 exact Tm ((x42.set x43.toNat y28, z12, v26)) (ij H)
 clear H; intro i hi; obtain ⟨x45, x46, v18⟩ := i; subst o7; have H := Hr7; clear Hr7; try dsimp only at H
 try dsimp only
 refine eB 6 rfl (fun hc_v18 => ?_)
 revert H; refine B1 fun z13 h45 H => ?_
 refine Z3 ?_
 exact Tm ((k6, x45, z13, x46, v18)) ⟨H, ls⟩
 refine Z6 ?_
 refine aG [0, 1, 2, 4, 5, 6] (by decide) ?_
 exact Tm ((x44, v17)) (ij H)
 clear H; intro i hi; obtain ⟨x38, v15⟩ := i; subst o6; have H := Hr6; clear Hr6; try dsimp only at H
 try dsimp only
 refine eB 5 rfl (fun hc_v15 => ?_)
 refine Z2 ?_
 refine eH ?_
 refine dM (φs' := [fEq v2, fEq v8, fEq v15]) trivial rfl rfl (has rfl) (has rfl) (aO (aD hc_v2) (aO (aD hc_v8) (aO (aD hc_v15) bX))) (sz rfl) rfl rfl rfl ?_
 refine Z2 ?_
 cases H
 refine aG [0, 3, 4, 5] (by decide) ?_
 exact aEI rfl (ag rfl) (bO rfl) (eJ.own (eJ.own (eJ.own eJ.nil))) rfl rfl
end Go.Proofs.YtmnbfgeljmhekaaGreat
set_option maxRecDepth 100000
set_option maxHeartbeats 2000000
namespace Go.Proofs.YtmnbfgeljmhekaaGreat
open Go.SX Go.SW Go.Dt
attribute [local irreducible] Code.wpIn wpListIn Exit.then Exit.inBlock
def oM (fuel : Nat) (a0 : Usage_text) (a1 : List UsageDef) : Nat → (List UsageDef) → Int → Option (List UsageDef)
| 0, _, _ => none
| k + 1, x4, x5 =>
 if x5 < (a0.ScopeProg.Defs.length : Int) then
  (vX fuel a0 a1 x5).bind fun y1 =>
  (dN (x4 ++ ([(⟨y1.Chans, y1.Rules, y1.Args⟩ : UsageDef)] : List UsageDef))).bind fun z1 =>
  (chk (x5 + 1)).bind fun z2 =>
  oM fuel a0 a1 k z1 z2
 else
  some x4
def sS (fuel : Nat) (a0 : Usage_text) (a1 : List UsageDef) : Option (List UsageDef) :=
 (oM fuel a0 a1 fuel [] 0).bind fun x1 =>
 some x1
theorem aFI (fuel : Nat)  (a0 : Usage_text) (a1 : List UsageDef) (r : List UsageDef) (H : sS fuel a0 a1 = some r) : FnS Tryz.prog 38 [aF bJ a0, fSl bC a1] [] fAny (fun v => [(fun v => bL v 61 dI r) v]) := by
 unfold sS at H
 refine bD Tryz.func38 rfl Tryz.ntmps38 rfl (fun β => ?_)
 revert H; refine B6 fun o1 H Hr1 => ?_
 refine aW (ι := List UsageDef × Value) (fun i => o1 = i.1) (fun i => [(5, fEq i.2)]) (fun i => [bL i.2 61 dI i.1]) ?_ ?_
 refine Z10 ?_
 refine yK dI 61 ?_
 refine Tl (ι := Nat × List UsageDef × Int × Value) (fun i => oM fuel a0 a1 i.1 i.2.1 i.2.2.1 = _) (fun i => i.1) (fun i => [(0, aF bJ a0), (1, fSl bC a1), (5, fEq i.2.2.2), (12, aA .i64 (a0.ScopeProg.Defs.length : Int)), (13, aA .i64 i.2.2.1)]) (fun i => [bL i.2.2.2 61 dI i.2.1]) (fuel, [], 0, (.slice none 0 0)) H ?_
 clear H; rintro ⟨k1, x4, x5, v3⟩ H
 replace H : oM fuel a0 a1 k1 x4 x5 = _ := H
 try dsimp only
 obtain _ | k1 := k1
 rw [oM] at H; cases H
 rw [oM] at H
 refine eB 0 rfl (fun hc_v3 => ?_)
 refine Z3 ?_
 refine aH ?_
 revert H; refine is (fun c1 H => ?_) fun c1 H => ?_
 refine Z3 ?_
 refine aH ?_
 revert H; refine B10 fun y1 h1 H => ?_
 refine sG trivial rfl rfl rfl (has rfl) (aK.cons (has rfl) (aK.cons (has rfl) (aK.cons (has rfl) aK.nil))) rfl (cb rfl) (aII fuel a0 a1 x5 y1 h1) (Δi := []) rfl (fun v4 => ?_)
 dsimp only [List.append, List.cons_append, List.nil_append]
 refine aEL (c := .agg) (fs := [.own (fun v => aE v 30 (aB .i64) y1.Chans) (fun _ => dK), .own (fun v => aE v 30 (aB .i64) y1.Rules) (fun _ => dK), .own (fun v => bL v 58 (cL 30 (aB .i64)) y1.Args) (fun _ => jG)]) (fun v5 v6 v7 => ?_)
 dsimp only [List.append, List.cons_append, List.nil_append]
 refine aR 0 rfl (fun hc_v5 => ?_)
 refine aR 1 rfl (fun hc_v6 => ?_)
 refine eB 2 rfl (fun hc_v7 => ?_)
 refine Tn (cM (t := tF 3) (xs := [[⟨fEq v5, aD hc_v5⟩, ⟨fEq v6, aD hc_v6⟩, ⟨fEq v7, aD hc_v7⟩]]) rfl (et rfl) (aS.cons rfl (has rfl) bQ aS.nil) rfl rfl rfl) fun b1 => ?_
 generalize (Value.slice (some ⟨b1, 0, none⟩) _ _) = v8
 refine rD ?_
 refine dH ?_
 refine gR (p := 0) (f := (fun v => aE v 30 (aB .i64) y1.Chans)) (hf := (fun _ => dK)) rfl Ent.rfl ?_
 refine dH ?_
 refine gR (p := 1) (f := (fun v => aE v 30 (aB .i64) y1.Rules)) (hf := (fun _ => dK)) rfl Ent.rfl ?_
 refine dH ?_
 refine gR (p := 2) (f := (fun v => bL v 58 (cL 30 (aB .i64)) y1.Args)) (hf := (fun _ => jG)) rfl Ent.rfl ?_
 refine pQ (o := dI) (xs := ([(⟨y1.Chans, y1.Rules, y1.Args⟩ : UsageDef)] : List UsageDef)) rfl rfl rfl ?_
 refine eB 0 rfl (fun hc_v8 => ?_)
 revert H; refine bs fun z1 h2 H => ?_
 refine zD (q := dI) trivial rfl rfl rfl (has rfl) (has rfl) (et rfl) rfl h2 (fun v9 => ?_)
 refine eB 0 rfl (fun hc_v9 => ?_)
 revert H; refine B5 fun z2 h3 H => ?_
 refine Z3 ?_
 exact Tm ((k1, z1, z2, v9)) ⟨H, ls⟩
 refine Z6 ?_
 exact Tm ((x4, v3)) (ij H)
 clear H; intro i hi; obtain ⟨x1, v1⟩ := i; subst o1; have H := Hr1; clear Hr1; try dsimp only at H
 try dsimp only
 refine eB 0 rfl (fun hc_v1 => ?_)
 refine Z5 ?_
 cases H
 exact nM rfl (bO rfl) (fun _ _ _ => trivial) rfl
theorem aIn (fuel : Nat)  (a0 : Usage_text) (a1 : List UsageDef) (r : List UsageDef) (H : sS fuel a0 a1 = some r) : FnS Tryz.prog 38 [aF bJ a0, fSl bC a1] [] (fSl bC r) (fun _ => []) := (aFI fuel a0 a1 r H).frz (fun v => (lI rfl qA))
def yH (a0 : Int) (a1 : Int) (a2 : Bool) : Option (Bool) :=
 some (decide (a0 = a1))
theorem aHR  (a0 : Int) (a1 : Int) (a2 : Bool) (r : Bool) (H : yH a0 a1 a2 = some r) : FnS Tryz.prog 40 [aA .i64 a0, aA .i64 a1, aI a2] [] (aI r) (fun _ => []) := by
 unfold yH at H
 refine bD Tryz.func40 rfl Tryz.ntmps40 rfl (fun β => ?_)
 refine Z10 ?_
 cases H
 exact To
def nB (fuel : Nat) (y2 : Usage_text) : Nat → (List UsageDef) → Option (List UsageDef)
| 0, _ => none
| k + 1, x3 =>
 (sS fuel y2 x3).bind fun y4 =>
 (pU fuel x3 y4 (fun x => yH x.1 x.2.1 x.2.2)).bind fun y5 =>
 bif y5 then
  some x3
 else
  nB fuel y2 k y4
def mM (fuel : Nat) (y2 : Usage_text) (x7 : List UsageDef) (x8 : Int) (y6 : UsageDef) : Nat → (List Int) → Int → Option (List UsageDef)
| 0, _, _ => none
| k + 1, x12, x13 =>
 if x13 < (y6.Chans.length : Int) then
  ((idx x12 x13).bind fun y7 =>
  if y7 = 3 then
   (idx y2.heads x8).bind fun y8 =>
   (qU y2 x8 x13).bind fun y9 =>
   (lM fuel y2 y8 y9).bind fun y10 =>
   if y10 = 1 then
    (idx x7 x8).bind fun y11 =>
    (idx x12 x13).bind fun y12 =>
    some (x12.set x13.toNat 2)
   else
    some x12
  else
   some x12).bind fun x14 =>
  (chk (x13 + 1)).bind fun z1 =>
  mM fuel y2 x7 x8 y6 k x14 z1
 else
  some (x7.set x8.toNat ({ y6 with Chans := x12 }))
def kX (fuel : Nat) (y2 : Usage_text) (x1 : List UsageDef) : Nat → (List UsageDef) → Int → Option (List UsageDef)
| 0, _, _ => none
| k + 1, x7, x8 =>
 if x8 < (x1.length : Int) then
  ((idx x7 x8).bind fun y6 =>
  mM fuel y2 x7 x8 y6 fuel y6.Chans 0).bind fun x9 =>
  (chk (x8 + 1)).bind fun z2 =>
  kX fuel y2 x1 k x9 z2
 else
  some x7
def qT (fuel : Nat) (a0 : ScopeProg) : Option ((List UsageDef) × Int) :=
 (sJ fuel (⟨a0.Free, a0.Nodes, a0.Defs, a0.Main⟩ : ScopeProg)).bind fun y1 =>
 if y1 ≠ 0 then
  some (([] : List UsageDef), 2)
 else
  (oF fuel (⟨a0.Free, a0.Nodes, a0.Defs, a0.Main⟩ : ScopeProg)).bind fun y2 =>
  (uS fuel y2).bind fun y3 =>
  (nB fuel y2 fuel y3).bind fun x1 =>
  (kX fuel y2 x1 fuel x1 0).bind fun x4 =>
  some (x4, 0)
theorem aIy (fuel : Nat)  (a0 : ScopeProg) (r : (List UsageDef) × Int) (H : qT fuel a0 = some r) : FnS Tryz.prog 14 [fSt dO a0] [] fAny (fun v => [rX .tuple [.own (fun v => bL v 61 dI r.1) (fun _ => jG), .pure (aA .i64 r.2)] v]) := by
 unfold qT at H
 refine bD Tryz.func14 rfl Tryz.ntmps14 rfl (fun β => ?_)
 refine Z1 ?_
 refine Tn (cF rfl (has rfl) bQ) fun b1 => ?_
 refine Z3 ?_
 refine T_scope ?_
 refine aH ?_
 revert H; refine B2 fun y1 h1 H => ?_
 refine Tc (aB7 _ _ _ h1) ?_
 revert H; refine I2 (fun c1 H => ?_) fun c1 H => ?_
 refine Z6 ?_
 refine aDr ?_
 refine yK dI 61 ?_
 cases H
 refine aG [0] (by decide) ?_
 exact aF2 rfl (bO rfl) (bO rfl) (eJ.own (eJ.pure Ent.rfl (aD trivial) eJ.nil))
 revert H; refine B5 fun y2 h2 H => ?_
 refine Tc (aB5 _ _ _ h2) ?_
 revert H; refine B4 fun y3 h3 H => ?_
 refine sG trivial rfl rfl rfl (has rfl) (aK.cons (has rfl) aK.nil) rfl (cb rfl) (aIU fuel y2 y3 h3) (Δi := []) rfl (fun v1 => ?_)
 dsimp only [List.append, List.cons_append, List.nil_append]
 refine eB 0 rfl (fun hc_v1 => ?_)
 refine Z2 ?_
 refine aH ?_
 refine T_label ?_
 revert H; refine B1 fun o1 H Hr1 => ?_
 refine aW (ι := List UsageDef × Value) (fun i => o1 = i.1) (fun i => [(4, aF bJ y2), (5, fEq i.2)]) (fun i => [aC b1 26 [fSl aM a0.Free, fSl aL a0.Nodes, fSl aJ a0.Defs, aA .i64 a0.Main], bL i.2 61 dI i.1]) ?_ ?_
 refine Z1 ?_
 refine aG [1, 0] (by decide) ?_
 refine Tl (ι := Nat × List UsageDef × Value) (fun i => nB fuel y2 i.1 i.2.1 = _) (fun i => i.1) (fun i => [(4, aF bJ y2), (5, fEq i.2.2)]) (fun i => [aC b1 26 [fSl aM a0.Free, fSl aL a0.Nodes, fSl aJ a0.Defs, aA .i64 a0.Main], bL i.2.2 61 dI i.2.1]) (fuel, y3, v1) H ?_
 clear H; rintro ⟨k1, x3, v4⟩ H
 replace H : nB fuel y2 k1 x3 = _ := H
 try dsimp only
 obtain _ | k1 := k1
 rw [nB] at H; cases H
 rw [nB] at H
 refine eB 1 rfl (fun hc_v4 => ?_)
 refine Z4 ?_
 refine dH ?_
 revert H; refine bs fun y4 h4 H => ?_
 refine aIW (Δl := [bL v4 61 dI x3]) (Δi := []) [(v4, fSl bC x3)] trivial rfl rfl rfl (has rfl) (eM.cons rfl (yC Ent.rfl) (eM.cons rfl (tJ 0 rfl) eM.nil)) (cb rfl) (aFI fuel y2 x3 y4 h4) indF_any (fun v τ h => by have : τ = _ := List.mem_singleton.1 h; subst this; exact (aDy aIV)) (gJ.cons (lI rfl qA) gJ.nil) rfl (fun v5 => ?_)
 dsimp only [List.append, List.cons_append, List.nil_append]
 refine eB 1 rfl (fun hc_v5 => ?_)
 refine Z2 ?_
 refine aH ?_
 revert H; refine B3 fun y5 h5 H => ?_
 refine zL (Δl := [bL v4 61 dI x3, bL v5 61 dI y4]) (Δi := []) (Δo := []) [(v4, fSl bC x3), (v5, fSl bC y4)] trivial rfl rfl rfl (has rfl) (eM.cons rfl (tJ 0 rfl) (eM.cons rfl (tJ 1 rfl) (eM.cons rfl (yC (oI (cb rfl) (fun x r hx => aHR x.1 x.2.1 x.2.2 r hx))) eM.nil))) (cb rfl) (aCN fuel x3 y4 (fun x => yH x.1 x.2.1 x.2.2) y5 h5) wX (fun _ h => nomatch h) (gJ.cons (lI rfl qA) (gJ.cons (lI rfl qA) gJ.nil)) rfl ?_
 dsimp only [List.append, List.cons_append, List.nil_append]
 refine Z1 ?_
 revert H; refine cs (fun c2 H => ?_) fun c2 H => ?_
 refine Z7 ?_
 refine aG [2, 0] (by decide) ?_
 exact Tm ((x3, v4)) (ij H)
 refine Z9 ?_
 refine aG [2, 1] (by decide) ?_
 exact Tm ((k1, y4, v5)) ⟨H, ls⟩
 clear H; intro i hi; obtain ⟨x1, v2⟩ := i; subst o1; have H := Hr1; clear Hr1; try dsimp only at H
 try dsimp only
 refine eB 1 rfl (fun hc_v2 => ?_)
 revert H; refine bs fun o2 H Hr2 => ?_
 refine aW (ι := List UsageDef) (fun i => o2 = i) (fun i => [(5, fEq v2)]) (fun i => [aC b1 26 [fSl aM a0.Free, fSl aL a0.Nodes, fSl aJ a0.Defs, aA .i64 a0.Main], bL v2 61 dI i]) ?_ ?_
 refine Z2 ?_
 refine Yo 1 rfl (aCC rfl hh (us rfl)) ?_
 refine Z3 ?_
 refine Tl (ι := Nat × List UsageDef × Int) (fun i => kX fuel y2 x1 i.1 i.2.1 i.2.2 = _) (fun i => i.1) (fun i => [(4, aF bJ y2), (5, fEq v2), (25, aA .i64 (x1.length : Int)), (26, aA .i64 i.2.2)]) (fun i => [aC b1 26 [fSl aM a0.Free, fSl aL a0.Nodes, fSl aJ a0.Defs, aA .i64 a0.Main], bL v2 61 dI i.2.1]) (fuel, x1, 0) H ?_
 clear H; rintro ⟨k2, x7, x8⟩ H
 replace H : kX fuel y2 x1 k2 x7 x8 = _ := H
 try dsimp only
 obtain _ | k2 := k2
 rw [kX] at H; cases H
 rw [kX] at H
 refine Z3 ?_
 refine aH ?_
 revert H; refine is (fun c3 H => ?_) fun c3 H => ?_
 revert H; refine B3 fun o3 H Hr3 => ?_
 refine aW (ι := List UsageDef) (fun i => o3 = i) (fun i => [(4, aF bJ y2), (5, fEq v2), (25, aA .i64 (x1.length : Int)), (26, aA .i64 x8)]) (fun i => [aC b1 26 [fSl aM a0.Free, fSl aL a0.Nodes, fSl aJ a0.Defs, aA .i64 a0.Main], bL v2 61 dI i]) ?_ ?_
 revert H; refine B8 fun y6 h6 H => ?_
 refine Yo 1 rfl (iY rfl hh hh (el rfl) h6) ?_
 refine Yy (mS 0 rfl hh (fa rfl) rfl) ?_
 refine dH ?_
 refine rB (i := x8.toNat) (k := 0) (y := y6) (f := (fun v => aE v 30 (aB .i64) y6.Chans)) (bB h6) rfl (fun v6 => ?_)
 refine aR 0 rfl (fun hc_v6 => ?_)
 refine Yo 1 rfl (mJ rfl rfl hh (sc rfl) (bB h6) rfl) ?_
 refine Z4 ?_
 refine aG [2, 1, 0] (by decide) ?_
 refine Tl (ι := Nat × List Int × Int) (fun i => mM fuel y2 x7 x8 y6 i.1 i.2.1 i.2.2 = _) (fun i => i.1) (fun i => [(4, aF bJ y2), (5, fEq v2), (25, aA .i64 (x1.length : Int)), (26, aA .i64 x8), (7, aA .i64 x8), (33, fEq v6), (34, aA .i64 (y6.Chans.length : Int)), (35, aA .i64 i.2.2)]) (fun i => [aC b1 26 [fSl aM a0.Free, fSl aL a0.Nodes, fSl aJ a0.Defs, aA .i64 a0.Main], oQ v2 61 dI x7 (x8.toNat * OTy.sz dI + 0) v6, aE v6 30 (aB .i64) i.2.1]) (fuel, y6.Chans, 0) H ?_
 clear H; rintro ⟨k3, x12, x13⟩ H
 replace H : mM fuel y2 x7 x8 y6 k3 x12 x13 = _ := H
 try dsimp only
 obtain _ | k3 := k3
 rw [mM] at H; cases H
 rw [mM] at H
 refine Z3 ?_
 refine aH ?_
 revert H; refine is (fun c4 H => ?_) fun c4 H => ?_
 revert H; refine B3 fun o4 H Hr4 => ?_
 refine aW (ι := List Int) (fun i => o4 = i) (fun i => [(4, aF bJ y2), (5, fEq v2), (25, aA .i64 (x1.length : Int)), (26, aA .i64 x8), (7, aA .i64 x8), (33, fEq v6), (34, aA .i64 (y6.Chans.length : Int)), (35, aA .i64 x13)]) (fun i => [aC b1 26 [fSl aM a0.Free, fSl aL a0.Nodes, fSl aJ a0.Defs, aA .i64 a0.Main], oQ v2 61 dI x7 (x8.toNat * OTy.sz dI + 0) v6, aE v6 30 (aB .i64) i]) ?_ ?_
 revert H; refine B3 fun y7 h7 H => ?_
 refine Z1 ?_
 refine Yo 2 rfl (gN rfl rfl hh (sc rfl) (bB h7) rfl) ?_
 refine Z3 ?_
 refine aH ?_
 revert H; refine is (fun c5 H => ?_) fun c5 H => ?_
 revert H; refine bs fun y8 h8 H => ?_
 revert H; refine bs fun y9 h9 H => ?_
 revert H; refine bs fun y10 h10 H => ?_
 apply bH (ods := [_, _, _, _, _, _, _, _, _, _, _, _, _, _, _, _, _, _]) 18 0 3 bG rfl rfl rfl
 refine ND ?_
 refine M8 ?_
 intros
 refine M6 ?_
 intros
 refine Nc (aAq _ _ _ _ h9) fun _ => ?_
 refine Nc (aD3 _ _ _ _ _ h10) fun _ => ?_
 refine M2 ?_
 intros
 revert H; refine I2 (fun c6 H => ?_) fun c6 H => ?_
 revert H; refine B4 fun y11 h11 H => ?_
 refine Yo 1 rfl (iY rfl hh hh (el rfl) h11) ?_
 refine Yy (mS 0 rfl hh (fa rfl) rfl) ?_
 refine Yo 1 rfl (mJ rfl rfl hh (sc rfl) (bB h11) rfl) ?_
 revert H; refine B1 fun y12 h12 H => ?_
 refine Z1 ?_
 refine eH ?_
 refine vC (z' := 2) trivial rfl rfl rfl (has rfl) (has rfl) (aD trivial) (sz rfl) (bB h12) rfl rfl ?_
 refine Z3 ?_
 refine aG [1, 2, 0] (by decide) ?_
 exact Tm (x12.set x13.toNat 2) (ij H)
 refine Z4 ?_
 exact Tm (x12) (ij H)
 exact fk
 kernel_rfl
 apply bH (ods := [_, _, _, _, _, _, _, _, _, _, _, _, _, _, _, _, _, _]) 18 0 3 bG rfl rfl rfl
 refine ND ?_
 refine M8 ?_
 intros
 refine M8 ?_
 intros
 refine M2 ?_
 intros
 refine Z6 ?_
 exact Tm (x12) (ij H)
 exact fk
 kernel_rfl
 clear H; intro x14 hi; subst o4; have H := Hr4; clear Hr4; try dsimp only at H
 try dsimp only
 revert H; refine B1 fun z1 h13 H => ?_
 refine Z3 ?_
 exact Tm ((k3, x14, z1)) ⟨H, ls⟩
 refine Z7 ?_
 refine dH ?_
 refine eH ?_
 refine lO (o := dI) (i := x8.toNat) (k := 0) (y := y6) (y' := { y6 with Chans := x12 }) (f := (fun v => aE v 30 (aB .i64) x12)) (hf := (fun _ => dK)) (bB h6) rfl rfl ?_
 refine aG [1, 0] (by decide) ?_
 exact Tm (x7.set x8.toNat ({ y6 with Chans := x12 })) (ij H)
 clear H; intro x9 hi; subst o3; have H := Hr3; clear Hr3; try dsimp only at H
 try dsimp only
 revert H; refine B1 fun z2 h14 H => ?_
 refine Z3 ?_
 exact Tm ((k2, x9, z2)) ⟨H, ls⟩
 refine Z6 ?_
 exact Tm (x7) (ij H)
 clear H; intro x4 hi; subst o2; have H := Hr2; clear Hr2; try dsimp only at H
 try dsimp only
 refine Z6 ?_
 refine aDr ?_
 cases H
 refine aG [1] (by decide) ?_
 exact aF2 rfl (bO rfl) (bO rfl) (eJ.own (eJ.pure Ent.rfl (aD trivial) eJ.nil))
theorem aB2 (fuel : Nat)  (a0 : ScopeProg) (r : (List UsageDef) × Int) (H : qT fuel a0 = some r) : FnS Tryz.prog 14 [fSt dO a0] [] (dG [fSl bC r.1, aA .i64 r.2]) (fun _ => []) := (aIy fuel a0 r H).frz (fun v => frz_wrap (dP.cons (fun v => (lI rfl qA)) (dP.cons (fun v => aBa v) dP.nil)))
def nZ (a0 : List Int) (a1 : List Int) : Nat → Int → Option ((Unit) ⊕ (Bool))
| 0, _ => none
| k + 1, x2 =>
 if x2 < (a0.length : Int) then
  (idx a0 x2).bind fun y1 =>
  (idx a1 x2).bind fun y2 =>
  if y1 ≠ y2 then
   (some false).bind fun r => some (Sum.inr r)
  else
   (chk (x2 + 1)).bind fun z1 =>
   nZ a0 a1 k z1
 else
  some (Sum.inl ())
def rV (fuel : Nat) (a0 : List Int) (a1 : List Int) : Option (Bool) :=
 if (a0.length : Int) ≠ (a1.length : Int) then
  some false
 else
  (nZ a0 a1 fuel 0).bind fun o => match o with
  | Sum.inr r => some r
  | Sum.inl _ =>
  some true
theorem tP (fuel : Nat)  (a0 : List Int) (a1 : List Int) (r : Bool) (H : rV fuel a0 a1 = some r) : FnS Tryz.prog 44 [fSl (aB .i64) a0, fSl (aB .i64) a1] [] (aI r) (fun _ => []) := by
 unfold rV at H
 refine bD Tryz.func44 rfl Tryz.ntmps44 rfl (fun β => ?_)
 refine Z3 ?_
 refine aH ?_
 revert H; refine I7 (fun c1 H => ?_) fun c1 H => ?_
 refine Z5 ?_
 cases H
 exact To
 revert H; refine B3 fun o1 H Hr1 => ?_
 refine aW (ι := Unit) (fun i => o1 = Sum.inl ()) (fun i => []) (fun i => []) ?_ ?_
 refine Z4 ?_
 refine Tl (ι := Nat × Int) (fun i => nZ a0 a1 i.1 i.2 = _) (fun i => i.1) (fun i => [(0, fSl (aB .i64) a0), (1, fSl (aB .i64) a1), (5, aA .i64 i.2)]) (fun i => []) (fuel, 0) H ?_
 clear H; rintro ⟨k1, x2⟩ H
 replace H : nZ a0 a1 k1 x2 = _ := H
 try dsimp only
 obtain _ | k1 := k1
 rw [nZ] at H; cases H
 rw [nZ] at H
 refine aH ?_
 revert H; refine I6 (fun c2 H => ?_) fun c2 H => ?_
 refine Z3 ?_
 refine aH ?_
 refine Z1 ?_
 refine aH ?_
 revert H; refine bs fun y1 h1 H => ?_
 revert H; refine bs fun y2 h2 H => ?_
 apply bH (ods := [_, _, _, _, _, _, _, _, _]) 9 0 0 bG rfl rfl rfl
 refine ND ?_
 refine M8 ?_
 intros
 refine M1 ?_
 intros
 revert H; refine I2 (fun c3 H => ?_) fun c3 H => ?_
 revert H; refine B10 fun r1 H e1 => ?_
 cases e1; cases Hr1
 cases H
 exact To
 revert H; refine B6 fun z1 h3 H => ?_
 refine Z3 ?_
 exact Tm ((k1, z1)) ⟨H, ls⟩
 exact fk
 kernel_rfl
 refine Z6 ?_
 exact Tm (()) (ij H)
 clear H; intro i hi; subst o1; have H := Hr1; clear Hr1; try dsimp only at H
 try dsimp only
 refine Z4 ?_
 cases H
 exact To
def lJ (fuel : Nat) (a0 : List UsageDef) (a1 : List UsageDef) (x2 : Int) : Nat → Int → Option ((Unit) ⊕ ((Unit) ⊕ (Bool)))
| 0, _ => none
| k + 1, x4 =>
 (idx a0 x2).bind fun y9 =>
 if x4 < (y9.Args.length : Int) then
  (idx a0 x2).bind fun y10 =>
  (idx y10.Args x4).bind fun y11 =>
  (idx a1 x2).bind fun y12 =>
  (idx y12.Args x4).bind fun y13 =>
  (rV fuel y11 y13).bind fun y14 =>
  bif y14 then
   (chk (x4 + 1)).bind fun z1 =>
   lJ fuel a0 a1 x2 k z1
  else
   ((some false).bind fun r => some (Sum.inr r)).bind fun r => some (Sum.inr r)
 else
  some (Sum.inl ())
def lT (fuel : Nat) (a0 : List UsageDef) (a1 : List UsageDef) : Nat → Int → Option ((Unit) ⊕ (Bool))
| 0, _ => none
| k + 1, x2 =>
 if x2 < (a0.length : Int) then
  ((idx a0 x2).bind fun y1 =>
  (idx a1 x2).bind fun y2 =>
  (rV fuel y1.Chans y2.Chans).bind fun y3 =>
  bif !y3 then
   ((some false).bind fun r => some (Sum.inr r)).bind fun r => some (Sum.inr r)
  else
   (idx a0 x2).bind fun y4 =>
   (idx a1 x2).bind fun y5 =>
   (rV fuel y4.Rules y5.Rules).bind fun y6 =>
   bif !y6 then
    ((some false).bind fun r => some (Sum.inr r)).bind fun r => some (Sum.inr r)
   else
    (idx a0 x2).bind fun y7 =>
    (idx a1 x2).bind fun y8 =>
    if (y7.Args.length : Int) ≠ (y8.Args.length : Int) then
     ((some false).bind fun r => some (Sum.inr r)).bind fun r => some (Sum.inr r)
    else
     lJ fuel a0 a1 x2 fuel 0).bind fun o => match o with
  | Sum.inr r => some r
  | Sum.inl _ =>
  (chk (x2 + 1)).bind fun z2 =>
  lT fuel a0 a1 k z2
 else
  some (Sum.inl ())
def wG (fuel : Nat) (a0 : List UsageDef) (a1 : List UsageDef) : Option (Bool) :=
 if (a0.length : Int) ≠ (a1.length : Int) then
  some false
 else
  (lT fuel a0 a1 fuel 0).bind fun o => match o with
  | Sum.inr r => some r
  | Sum.inl _ =>
  some true
theorem aIx (fuel : Nat)  (a0 : List UsageDef) (a1 : List UsageDef) (r : Bool) (H : wG fuel a0 a1 = some r) : FnS Tryz.prog 16 [fSl bC a0, fSl bC a1] [] (aI r) (fun _ => []) := by
 unfold wG at H
 refine bD Tryz.func16 rfl Tryz.ntmps16 rfl (fun β => ?_)
 refine Z3 ?_
 refine aH ?_
 revert H; refine I7 (fun c1 H => ?_) fun c1 H => ?_
 refine cY (has rfl) c1 ?_
 refine Z4 ?_
 cases H
 exact To
 refine dD (has rfl) c1 ?_
 revert H; refine B2 fun o1 H Hr1 => ?_
 refine aW (ι := Unit) (fun i => o1 = Sum.inl ()) (fun i => []) (fun i => []) ?_ ?_
 refine Z4 ?_
 refine Tl (ι := Nat × Int) (fun i => lT fuel a0 a1 i.1 i.2 = _) (fun i => i.1) (fun i => [(0, fSl bC a0), (1, fSl bC a1), (5, aA .i64 i.2)]) (fun i => []) (fuel, 0) H ?_
 clear H; rintro ⟨k1, x2⟩ H
 replace H : lT fuel a0 a1 k1 x2 = _ := H
 try dsimp only
 obtain _ | k1 := k1
 rw [lT] at H; cases H
 rw [lT] at H
 refine aH ?_
 revert H; refine I6 (fun c2 H => ?_) fun c2 H => ?_
 refine cY (has rfl) c2 ?_
 revert H; refine B2 fun o2 H Hr2 => ?_
 refine aW (ι := Unit) (fun i => o2 = Sum.inl ()) (fun i => [(0, fSl bC a0), (1, fSl bC a1), (5, aA .i64 x2)]) (fun i => []) ?_ ?_
 refine Z1 ?_
 refine aH ?_
 refine aH ?_
 revert H; refine bs fun y1 h1 H => ?_
 revert H; refine bs fun y2 h2 H => ?_
 revert H; refine bs fun y3 h3 H => ?_
 revert H; refine cs (fun c3 H => ?_) fun c3 H => ?_
 apply bH (ods := [_, _, _, _, _, _, _, _, _, _, _, _, _, _, _, _, _, _, _, _, _, _, _, _, _, _, _, _, _, _, _, _, _, _, _, _, _, _, _, _, _]) 41 0 0 bG rfl rfl rfl
 refine ND ?_
 refine M2 ?_
 intros
 refine My (cC rfl hh hh (el rfl) h1) fun _ => ?_
 refine M4 ?_
 intros
 refine My (cC rfl hh hh (el rfl) h2) fun _ => ?_
 refine M2 ?_
 intros
 refine Nc (tP _ _ _ _ h3) fun _ => ?_
 refine M2 ?_
 intros
 refine Mt c3 fun _ => ?_
 refine Mt c3 fun _ => ?_
 refine Mt c3 fun _ => ?_
 refine Mt c3 fun _ => ?_
 refine Mt c3 fun _ => ?_
 refine Mt c3 fun _ => ?_
 refine Mt c3 fun _ => ?_
 refine Mt c3 fun _ => ?_
 refine Mt c3 fun _ => ?_
 refine Mt c3 fun _ => ?_
 refine Mt c3 fun _ => ?_
 refine Mt c3 fun _ => ?_
 refine My (dF rfl hh c3 hh) fun _ => ?_
 refine M8 ?_
 intros
 refine M7 ?_
 intros
 revert H; refine B9 fun r1 H e1 => ?_
 cases e1; cases Hr2
 revert H; refine B3 fun r2 H e2 => ?_
 cases e2; cases Hr1
 cases H
 exact To
 exact fk
 kernel_rfl
 revert H; refine bs fun y4 h4 H => ?_
 revert H; refine bs fun y5 h5 H => ?_
 revert H; refine bs fun y6 h6 H => ?_
 revert H; refine cs (fun c4 H => ?_) fun c4 H => ?_
 apply bH (ods := [_, _, _, _, _, _, _, _, _, _, _, _, _, _, _, _, _, _, _, _, _, _, _, _, _, _, _, _, _, _, _, _, _, _, _, _, _, _, _, _, _]) 41 0 0 bG rfl rfl rfl
 refine ND ?_
 refine M2 ?_
 intros
 refine My (cC rfl hh hh (el rfl) h1) fun _ => ?_
 refine M4 ?_
 intros
 refine My (cC rfl hh hh (el rfl) h2) fun _ => ?_
 refine M2 ?_
 intros
 refine Nc (tP _ _ _ _ h3) fun _ => ?_
 refine M2 ?_
 intros
 refine Mg c3 (bV rfl hh) fun _ => ?_
 refine Mg c3 (bV rfl hh) fun _ => ?_
 refine Mg c3 (cC rfl hh hh (el rfl) h4) fun _ => ?_
 refine Mg c3 (fT (t' := (tSl (aB .i64))) (z := y4.Rules) rfl hh (fa rfl) rfl) fun _ => ?_
 refine Mg c3 (fP rfl hh (sc rfl) rfl) fun _ => ?_
 refine Mg c3 (bV rfl hh) fun _ => ?_
 refine Mg c3 (bV rfl hh) fun _ => ?_
 refine Mg c3 (cC rfl hh hh (el rfl) h5) fun _ => ?_
 refine Mg c3 (fT (t' := (tSl (aB .i64))) (z := y5.Rules) rfl hh (fa rfl) rfl) fun _ => ?_
 refine Mg c3 (fP rfl hh (sc rfl) rfl) fun _ => ?_
 refine Nc (tP _ _ _ _ h6) fun _ => ?_
 refine Mg c3 (kT rfl hh) fun _ => ?_
 refine My (cI rfl hh c3 hh) fun _ => ?_
 refine M1 ?_
 intros
 refine Mt c4 fun _ => ?_
 refine Mt c4 fun _ => ?_
 refine Mt c4 fun _ => ?_
 refine Mt c4 fun _ => ?_
 refine Mt c4 fun _ => ?_
 refine Mt c4 fun _ => ?_
 refine Mt c4 fun _ => ?_
 refine Mt c4 fun _ => ?_
 refine Mt c4 fun _ => ?_
 refine Mt c4 fun _ => ?_
 refine Mt c4 fun _ => ?_
 refine Mt c4 fun _ => ?_
 refine Mt c4 fun _ => ?_
 refine My (dF rfl hh c4 hh) fun _ => ?_
 revert H; refine B9 fun r3 H e3 => ?_
 cases e3; cases Hr2
 revert H; refine B3 fun r4 H e4 => ?_
 cases e4; cases Hr1
 cases H
 exact To
 exact fk
 kernel_rfl
 revert H; refine bs fun y7 h7 H => ?_
 revert H; refine bs fun y8 h8 H => ?_
 apply bH (ods := [_, _, _, _, _, _, _, _, _, _, _, _, _, _, _, _, _, _, _, _, _, _, _, _, _, _, _, _, _, _, _, _, _, _, _, _, _, _, _, _, _]) 41 0 0 bG rfl rfl rfl
 refine ND ?_
 refine M2 ?_
 intros
 refine My (cC rfl hh hh (el rfl) h1) fun _ => ?_
 refine M4 ?_
 intros
 refine My (cC rfl hh hh (el rfl) h2) fun _ => ?_
 refine M2 ?_
 intros
 refine Nc (tP _ _ _ _ h3) fun _ => ?_
 refine M2 ?_
 intros
 refine Mg c3 (bV rfl hh) fun _ => ?_
 refine Mg c3 (bV rfl hh) fun _ => ?_
 refine Mg c3 (cC rfl hh hh (el rfl) h4) fun _ => ?_
 refine Mg c3 (fT (t' := (tSl (aB .i64))) (z := y4.Rules) rfl hh (fa rfl) rfl) fun _ => ?_
 refine Mg c3 (fP rfl hh (sc rfl) rfl) fun _ => ?_
 refine Mg c3 (bV rfl hh) fun _ => ?_
 refine Mg c3 (bV rfl hh) fun _ => ?_
 refine Mg c3 (cC rfl hh hh (el rfl) h5) fun _ => ?_
 refine Mg c3 (fT (t' := (tSl (aB .i64))) (z := y5.Rules) rfl hh (fa rfl) rfl) fun _ => ?_
 refine Mg c3 (fP rfl hh (sc rfl) rfl) fun _ => ?_
 refine Nc (tP _ _ _ _ h6) fun _ => ?_
 refine Mg c3 (kT rfl hh) fun _ => ?_
 refine My (cI rfl hh c3 hh) fun _ => ?_
 refine M1 ?_
 intros
 refine Mg c4 (bV rfl hh) fun _ => ?_
 refine Mg c4 (bV rfl hh) fun _ => ?_
 refine Mg c4 (cC rfl hh hh (el rfl) h7) fun _ => ?_
 refine Mg c4 (fT (t' := (tSl (tSl (aB .i64)))) (z := y7.Args) rfl hh (fa rfl) rfl) fun _ => ?_
 refine Mg c4 (fP rfl hh (sc rfl) rfl) fun _ => ?_
 refine Mg c4 (fW rfl hh (us rfl)) fun _ => ?_
 refine Mg c4 (bV rfl hh) fun _ => ?_
 refine Mg c4 (bV rfl hh) fun _ => ?_
 refine Mg c4 (cC rfl hh hh (el rfl) h8) fun _ => ?_
 refine Mg c4 (fT (t' := (tSl (tSl (aB .i64)))) (z := y8.Args) rfl hh (fa rfl) rfl) fun _ => ?_
 refine Mg c4 (fP rfl hh (sc rfl) rfl) fun _ => ?_
 refine Mg c4 (fW rfl hh (us rfl)) fun _ => ?_
 refine Mg c4 (rI rfl hh hh) fun _ => ?_
 refine My (cI rfl hh c4 hh) fun _ => ?_
 revert H; refine I2 (fun c5 H => ?_) fun c5 H => ?_
 refine cY (has rfl) c5 ?_
 revert H; refine B6 fun r5 H e5 => ?_
 cases e5; cases Hr2
 revert H; refine B3 fun r6 H e6 => ?_
 cases e6; cases Hr1
 cases H
 exact To
 refine dD (has rfl) c5 ?_
 refine Z6 ?_
 refine Tl (ι := Nat × Int) (fun i => lJ fuel a0 a1 x2 i.1 i.2 = _) (fun i => i.1) (fun i => [(0, fSl bC a0), (1, fSl bC a1), (5, aA .i64 x2), (6, aA .i64 i.2)]) (fun i => []) (fuel, 0) H ?_
 clear H; rintro ⟨k2, x4⟩ H
 replace H : lJ fuel a0 a1 x2 k2 x4 = _ := H
 try dsimp only
 obtain _ | k2 := k2
 rw [lJ] at H; cases H
 rw [lJ] at H
 refine aH ?_
 revert H; refine B4 fun y9 h9 H => ?_
 refine Yy (cC rfl hh hh (el rfl) h9) ?_
 revert H; refine I5 (fun c6 H => ?_) fun c6 H => ?_
 refine cY (has rfl) c6 ?_
 refine Z2 ?_
 refine aH ?_
 refine Z1 ?_
 refine aH ?_
 revert H; refine bs fun y10 h10 H => ?_
 revert H; refine bs fun y11 h11 H => ?_
 revert H; refine bs fun y12 h12 H => ?_
 revert H; refine bs fun y13 h13 H => ?_
 revert H; refine bs fun y14 h14 H => ?_
 apply bH (ods := [_, _, _, _, _, _, _, _, _, _, _, _, _, _, _, _, _, _]) 18 0 0 bG rfl rfl rfl
 refine ND ?_
 refine M2 ?_
 intros
 refine My (cC rfl hh hh (el rfl) h10) fun _ => ?_
 refine M3 ?_
 intros
 refine My (cC rfl hh hh (el rfl) h11) fun _ => ?_
 refine M3 ?_
 intros
 refine My (cC rfl hh hh (el rfl) h12) fun _ => ?_
 refine M3 ?_
 intros
 refine My (cC rfl hh hh (el rfl) h13) fun _ => ?_
 refine M1 ?_
 intros
 refine Nc (tP _ _ _ _ h14) fun _ => ?_
 refine M1 ?_
 intros
 refine Z2 ?_
 revert H; refine cs (fun c7 H => ?_) fun c7 H => ?_
 refine dD (has rfl) (oP c7) ?_
 revert H; refine B5 fun z1 h15 H => ?_
 refine Yy (fI rfl hh hh h15) ?_
 refine Z2 ?_
 exact Tm ((k2, z1)) ⟨H, ls⟩
 refine cY (has rfl) (oZ c7) ?_
 revert H; refine B10 fun r7 H e7 => ?_
 cases e7; cases Hr2
 revert H; refine B3 fun r8 H e8 => ?_
 cases e8; cases Hr1
 cases H
 exact To
 exact fk
 kernel_rfl
 refine dD (has rfl) c6 ?_
 refine Z6 ?_
 exact Tm (()) (ij H)
 exact fk
 kernel_rfl
 clear H; intro i hi; subst o2; have H := Hr2; clear Hr2; try dsimp only at H
 try dsimp only
 revert H; refine B2 fun z2 h16 H => ?_
 refine Yy (fI rfl hh hh h16) ?_
 refine Z2 ?_
 exact Tm ((k1, z2)) ⟨H, ls⟩
 refine dD (has rfl) c2 ?_
 refine Z5 ?_
 exact Tm (()) (ij H)
 clear H; intro i hi; subst o1; have H := Hr1; clear Hr1; try dsimp only at H
 try dsimp only
 refine Z4 ?_
 cases H
 exact To
def sR (a0 : Int) (a1 : Int) (a2 : Bool) : Option (Bool) :=
 (oL a0).bind fun y1 =>
 (oL a1).bind fun y2 =>
 some (decide (y2 ≤ y1))
theorem aIo  (a0 : Int) (a1 : Int) (a2 : Bool) (r : Bool) (H : sR a0 a1 a2 = some r) : FnS Tryz.prog 45 [aA .i64 a0, aA .i64 a1, aI a2] [] (aI r) (fun _ => []) := by
 unfold sR at H
 refine bD Tryz.func45 rfl Tryz.ntmps45 rfl (fun β => ?_)
 revert H; refine B5 fun y1 h1 H => ?_
 refine Tc (tW _ _ h1) ?_
 revert H; refine B1 fun y2 h2 H => ?_
 refine Tc (tW _ _ h2) ?_
 refine Z4 ?_
 cases H
 exact To
end Go.Proofs.YtmnbfgeljmhekaaGreat
