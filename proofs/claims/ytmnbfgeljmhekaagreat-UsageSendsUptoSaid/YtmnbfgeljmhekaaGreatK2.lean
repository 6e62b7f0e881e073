/- Parts of the proof: lemmas, and the steps through the program. -/
import Derived.Test.YtmnbfgeljmhekaaGreatK1
set_option linter.unusedVariables false
set_option linter.unusedSimpArgs false
set_option maxRecDepth 100000
set_option maxHeartbeats 2000000
namespace Go.Proofs.YtmnbfgeljmhekaaGreat
open Go.SX Go.SW Go.Dt
attribute [local irreducible] Code.wpIn wpListIn Exit.then Exit.inBlock
def zG (a0 : Scope_speaks) : Option (Int) :=
 some 0
theorem aFC  (a0 : Scope_speaks) (r : Int) (H : zG a0 = some r) : FnS Tryz.prog 148 [fSt aFm a0] [] (aA .i64 r) (fun _ => []) := by
 unfold zG at H
 refine bI Tryz.func148 rfl Tryz.ntmps148 rfl (fun β => ?_)
 refine Z1 ?_
 refine aQ trivial rfl rfl (cC rfl (has rfl) bQ) (fun b1 => ?_)
 refine Z6 ?_
 cases H
 refine aH [] (by decide) ?_
 exact To
def yF (a0 : Scope_travels) : Option (Int) :=
 some 1
theorem aDK  (a0 : Scope_travels) (r : Int) (H : yF a0 = some r) : FnS Tryz.prog 149 [fSt aED a0] [] (aA .i64 r) (fun _ => []) := by
 unfold yF at H
 refine bI Tryz.func149 rfl Tryz.ntmps149 rfl (fun β => ?_)
 refine Z1 ?_
 refine aQ trivial rfl rfl (cC rfl (has rfl) bQ) (fun b1 => ?_)
 refine Z6 ?_
 cases H
 refine aH [] (by decide) ?_
 exact To
def aAF (a0 : Scope_declares) : Option (Int) :=
 some 1
theorem aFI  (a0 : Scope_declares) (r : Int) (H : aAF a0 = some r) : FnS Tryz.prog 150 [fSt aFu a0] [] (aA .i64 r) (fun _ => []) := by
 unfold aAF at H
 refine bI Tryz.func150 rfl Tryz.ntmps150 rfl (fun β => ?_)
 refine Z1 ?_
 refine aQ trivial rfl rfl (cC rfl (has rfl) bQ) (fun b1 => ?_)
 refine Z6 ?_
 cases H
 refine aH [] (by decide) ?_
 exact To
def aAT (a0 : Scope_decides) : Option (Int) :=
 some 2
theorem aDW  (a0 : Scope_decides) (r : Int) (H : aAT a0 = some r) : FnS Tryz.prog 151 [fSt aEn a0] [] (aA .i64 r) (fun _ => []) := by
 unfold aAT at H
 refine bI Tryz.func151 rfl Tryz.ntmps151 rfl (fun β => ?_)
 refine Z1 ?_
 refine aQ trivial rfl rfl (cC rfl (has rfl) bQ) (fun b1 => ?_)
 refine Z6 ?_
 cases H
 refine aH [] (by decide) ?_
 exact To
def zT (a0 : Int) : Option (Int) :=
 some a0
theorem aF5  (a0 : Int) (r : Int) (H : zT a0 = some r) : FnS Tryz.prog 152 [aA .i64 a0] [] (aA .i64 r) (fun _ => []) := by
 unfold zT at H
 refine bI Tryz.func152 rfl Tryz.ntmps152 rfl (fun β => ?_)
 refine Z8 ?_
 cases H
 exact To
def kV : Value → Option Int
 | .iface 190 (.agg ⟨[]⟩) => zG ⟨⟩
 | .iface 191 (.agg ⟨[]⟩) => yF ⟨⟩
 | .iface 192 (.agg ⟨[]⟩) => aAF ⟨⟩
 | .iface 193 (.agg ⟨[]⟩) => aAT ⟨⟩
 | .iface 197 (.int .i64 n) => zT n
 | _ => none
theorem aEW (v : Value) (r : Int) (H : kV v = some r) : Inv Tryz.prog v "cabotage/scope.kids" [] (aA .i64 r) := by
 unfold kV at H
 split at H
 ·exact ⟨_, _, 148, rfl, fun w => by kernel_rfl, (cb rfl), (aFC ⟨⟩ r H).args (aO.cons (oU []) aO.nil)⟩
 ·exact ⟨_, _, 149, rfl, fun w => by kernel_rfl, (cb rfl), (aDK ⟨⟩ r H).args (aO.cons (oU []) aO.nil)⟩
 ·exact ⟨_, _, 150, rfl, fun w => by kernel_rfl, (cb rfl), (aFI ⟨⟩ r H).args (aO.cons (oU []) aO.nil)⟩
 ·exact ⟨_, _, 151, rfl, fun w => by kernel_rfl, (cb rfl), (aDW ⟨⟩ r H).args (aO.cons (oU []) aO.nil)⟩
 ·rename_i n; exact ⟨_, _, 152, rfl, fun w => by kernel_rfl, (cb rfl), (aF5 n r H).args aO.rfl⟩
 ·cases H
def lA (fuel : Nat) (a2 : Int) (y7 : ScopeNode) : Nat → Int → Option ((Unit) ⊕ (Scope_looker ⊕ Value))
| 0, _ => none
| k + 1, x8 =>
 if x8 < (y7.Args.length : Int) then
  (idx y7.Args x8).bind fun y27 =>
  (tB fuel (⟨y27.Op, y27.N, y27.Kids⟩ : ScopeExp) a2).bind fun y28 =>
  match y28 with
  | Sum.inr pv16 => (some (Sum.inr pv16)).bind fun r => some (Sum.inr r)
  | Sum.inl y28 =>
  (chk (x8 + 1)).bind fun z1 =>
  lA fuel a2 y7 k z1
 else
  some (Sum.inl ())
def lB (fuel : Nat) (rec_scope_looker_node : Scope_looker → Int → Int → Option (Scope_looker ⊕ Value)) (y30 : ScopeDef) (z2 : Int) : Nat → Int → (List ByteArray) → (List ScopeNode) → (List ScopeDef) → Int → (List Int) → (List Bool) → (List Bool) → Option ((List ByteArray × List ScopeNode × List ScopeDef × Int × List Int × List Bool × List Bool) ⊕ ((Int × List ByteArray × List ScopeNode × List ScopeDef × Int × List Int × List Bool × List Bool) ⊕ (Scope_looker ⊕ Value)))
| 0, _, _, _, _, _, _, _, _ => none
| k + 1, x32, x33, x34, x35, x36, x37, x38, x39 =>
 if x32 < (y30.Rules.length : Int) then
  (idx y30.Rules x32).bind fun y33 =>
  (tA fuel (⟨y30.Chans, y30.Spots, y30.Rules⟩ : ScopeDef) (⟨y33.At, y33.Joins, y33.Node⟩ : ScopeRule)).bind fun y34 =>
  (chk (z2 + y34)).bind fun z3 =>
  (rec_scope_looker_node (⟨(⟨x33, x34, x35, x36⟩ : ScopeProg), x37, x38, x39⟩ : Scope_looker) y33.Node z3).bind fun y35 =>
  match y35 with
  | Sum.inr pv18 => ((some (Sum.inr pv18)).bind fun r => some (Sum.inr r)).bind fun r => some (Sum.inr r)
  | Sum.inl y35 =>
  (chk (x32 + 1)).bind fun z4 =>
  lB fuel rec_scope_looker_node y30 z2 k z4 y35.p.Free y35.p.Nodes y35.p.Defs y35.p.Main y35.sizes y35.met y35.defs
 else
  some (Sum.inl (x33, x34, x35, x36, x37, x38, x39))
def lI (rec_scope_looker_node : Scope_looker → Int → Int → Option (Scope_looker ⊕ Value)) (y30 : ScopeDef) (z2 : Int) : Nat → Int → (List ByteArray) → (List ScopeNode) → (List ScopeDef) → Int → (List Int) → (List Bool) → (List Bool) → Option ((Int × List ByteArray × List ScopeNode × List ScopeDef × Int × List Int × List Bool × List Bool) ⊕ (Scope_looker ⊕ Value))
| 0, _, _, _, _, _, _, _, _ => none
| k + 1, x48, x49, x50, x51, x52, x53, x54, x55 =>
 if x48 < (y30.Spots.length : Int) then
  (idx y30.Spots x48).bind fun y36 =>
  (rec_scope_looker_node (⟨(⟨x49, x50, x51, x52⟩ : ScopeProg), x53, x54, x55⟩ : Scope_looker) y36.Node z2).bind fun y37 =>
  match y37 with
  | Sum.inr pv19 => (some (Sum.inr pv19)).bind fun r => some (Sum.inr r)
  | Sum.inl y37 =>
  (chk (x48 + 1)).bind fun z5 =>
  lI rec_scope_looker_node y30 z2 k z5 y37.p.Free y37.p.Nodes y37.p.Defs y37.p.Main y37.sizes y37.met y37.defs
 else
  some (Sum.inl (z2, x49, x50, x51, x52, x53, x54, x55))
def lK (rec_scope_looker_node : Scope_looker → Int → Int → Option (Scope_looker ⊕ Value)) (y7 : ScopeNode) (x9 : Int) : Nat → Int → (List ByteArray) → (List ScopeNode) → (List ScopeDef) → Int → (List Int) → (List Bool) → (List Bool) → Option (Scope_looker ⊕ Value)
| 0, _, _, _, _, _, _, _, _ => none
| k + 1, x64, x65, x66, x67, x68, x69, x70, x71 =>
 if x64 < (y7.Kids.length : Int) then
  (idx y7.Kids x64).bind fun y38 =>
  (rec_scope_looker_node (⟨(⟨x65, x66, x67, x68⟩ : ScopeProg), x69, x70, x71⟩ : Scope_looker) y38 x9).bind fun y39 =>
  match y39 with
  | Sum.inr pv20 => some (Sum.inr pv20)
  | Sum.inl y39 =>
  (chk (x64 + 1)).bind fun z6 =>
  lK rec_scope_looker_node y7 x9 k z6 y39.p.Free y39.p.Nodes y39.p.Defs y39.p.Main y39.sizes y39.met y39.defs
 else
  some (Sum.inl (⟨(⟨x65, x66, x67, x68⟩ : ScopeProg), x69, x70, x71⟩ : Scope_looker))
def eS : Nat → Scope_looker → Int → Int → Option (Scope_looker ⊕ Value)
| 0, _, _, _ => none
| fuel + 1, a0, a1, a2 =>
 (if 0 ≤ a1 then
  if a1 < (a0.p.Nodes.length : Int) then
   (idx a0.met a1).bind fun y1 =>
   (bV (!y1)).bind fun y2 =>
   match y2 with
   | Sum.inr pv1 => (some (Sum.inr pv1)).bind fun r => some (Sum.inr r)
   | Sum.inl y2 =>
   some (Sum.inl ())
  else
   (bV false).bind fun y3 =>
   match y3 with
   | Sum.inr pv2 => (some (Sum.inr pv2)).bind fun r => some (Sum.inr r)
   | Sum.inl y3 =>
   some (Sum.inl ())
 else
  (bV false).bind fun y4 =>
  match y4 with
  | Sum.inr pv3 => (some (Sum.inr pv3)).bind fun r => some (Sum.inr r)
  | Sum.inl y4 =>
  some (Sum.inl ())).bind fun o => match o with
 | Sum.inr r => some r
 | Sum.inl _ =>
 (idx a0.met a1).bind fun y5 =>
 (idx a0.sizes a1).bind fun y6 =>
 (idx a0.p.Nodes a1).bind fun y7 =>
 (iW y7.Op).bind fun y8 =>
 ((hQ y8).bind fun x1 =>
 bif !x1 then
  (kV y8).bind fun y9 =>
  (bV (decide ((y7.Kids.length : Int) = y9))).bind fun y10 =>
  match y10 with
  | Sum.inr pv4 => (some (Sum.inr pv4)).bind fun r => some (Sum.inr r)
  | Sum.inl y10 =>
  some (Sum.inl ())
 else
  (bV false).bind fun y11 =>
  match y11 with
  | Sum.inr pv5 => (some (Sum.inr pv5)).bind fun r => some (Sum.inr r)
  | Sum.inl y11 =>
  some (Sum.inl ())).bind fun o => match o with
 | Sum.inr r => some r
 | Sum.inl _ =>
 ((eK 190 (.agg #[]) y8).bind fun y12 =>
 match y12 with
 | (u1, x3) =>
 bif x3 then
  if 0 ≤ y7.N then
   (bV (decide (y7.N < a2))).bind fun y13 =>
   match y13 with
   | Sum.inr pv6 => (some (Sum.inr pv6)).bind fun r => some (Sum.inr r)
   | Sum.inl y13 =>
   some (Sum.inl (min (y7.Args.length : Int) 3))
  else
   (bV false).bind fun y14 =>
   match y14 with
   | Sum.inr pv7 => (some (Sum.inr pv7)).bind fun r => some (Sum.inr r)
   | Sum.inl y14 =>
   some (Sum.inl (min (y7.Args.length : Int) 3))
 else
  (eK 191 (.agg #[]) y8).bind fun y15 =>
  match y15 with
  | (u2, x4) =>
  bif x4 then
   if 0 ≤ y7.N then
    (bV (decide (y7.N < a2))).bind fun y16 =>
    match y16 with
    | Sum.inr pv8 => (some (Sum.inr pv8)).bind fun r => some (Sum.inr r)
    | Sum.inl y16 =>
    some (Sum.inl 0)
   else
    (bV false).bind fun y17 =>
    match y17 with
    | Sum.inr pv9 => (some (Sum.inr pv9)).bind fun r => some (Sum.inr r)
    | Sum.inl y17 =>
    some (Sum.inl 0)
  else
   (eK 192 (.agg #[]) y8).bind fun y18 =>
   match y18 with
   | (u3, x5) =>
   bif x5 then
    if 0 ≤ y7.N then
     if y7.N < (a0.p.Defs.length : Int) then
      (idx a0.defs y7.N).bind fun y19 =>
      (bV (!y19)).bind fun y20 =>
      match y20 with
      | Sum.inr pv10 => (some (Sum.inr pv10)).bind fun r => some (Sum.inr r)
      | Sum.inl y20 =>
      some (Sum.inl 0)
     else
      (bV false).bind fun y21 =>
      match y21 with
      | Sum.inr pv11 => (some (Sum.inr pv11)).bind fun r => some (Sum.inr r)
      | Sum.inl y21 =>
      some (Sum.inl 0)
    else
     (bV false).bind fun y22 =>
     match y22 with
     | Sum.inr pv12 => (some (Sum.inr pv12)).bind fun r => some (Sum.inr r)
     | Sum.inl y22 =>
     some (Sum.inl 0)
   else
    (eK 193 (.agg #[]) y8).bind fun y23 =>
    match y23 with
    | (u4, x6) =>
    bif x6 then
     (bV (decide (y7.N = 0))).bind fun y24 =>
     match y24 with
     | Sum.inr pv13 => (some (Sum.inr pv13)).bind fun r => some (Sum.inr r)
     | Sum.inl y24 =>
     some (Sum.inl 1)
    else
     (bV (decide (y7.N = 0))).bind fun y25 =>
     match y25 with
     | Sum.inr pv14 => (some (Sum.inr pv14)).bind fun r => some (Sum.inr r)
     | Sum.inl y25 =>
     some (Sum.inl 0)).bind fun o => match o with
 | Sum.inr r => some r
 | Sum.inl x2 =>
 (bV (decide ((y7.Args.length : Int) = x2))).bind fun y26 =>
 match y26 with
 | Sum.inr pv15 => some (Sum.inr pv15)
 | Sum.inl y26 =>
 (lA fuel a2 y7 fuel 0).bind fun o => match o with
 | Sum.inr r => some r
 | Sum.inl _ =>
 (if y7.Op = 4 then
  (idx a0.defs y7.N).bind fun y29 =>
  (idx a0.p.Defs y7.N).bind fun y30 =>
  (qN fuel (⟨y30.Chans, y30.Spots, y30.Rules⟩ : ScopeDef)).bind fun y31 =>
  match y31 with
  | Sum.inr pv17 => (some (Sum.inr pv17)).bind fun r => some (Sum.inr r)
  | Sum.inl y31 =>
  (rV (⟨y30.Chans, y30.Spots, y30.Rules⟩ : ScopeDef)).bind fun y32 =>
  (chk (a2 + y32)).bind fun z2 =>
  (lB fuel (eS fuel) y30 z2 fuel 0 a0.p.Free a0.p.Nodes a0.p.Defs a0.p.Main (a0.sizes.set a1.toNat a2) (a0.met.set a1.toNat true) (a0.defs.set y7.N.toNat true)).bind fun o => match o with
  | Sum.inr r => some r
  | Sum.inl (x17, x18, x19, x20, x21, x22, x23) =>
  lI (eS fuel) y30 z2 fuel 0 x17 x18 x19 x20 x21 x22 x23
 else
  some (Sum.inl (a2, a0.p.Free, a0.p.Nodes, a0.p.Defs, a0.p.Main, a0.sizes.set a1.toNat a2, a0.met.set a1.toNat true, a0.defs))).bind fun o => match o with
 | Sum.inr r => some r
 | Sum.inl (x9, x10, x11, x12, x13, x14, x15, x16) =>
 lK (eS fuel) y7 x9 fuel 0 x10 x11 x12 x13 x14 x15 x16
theorem aA3 : ∀ (fuel : Nat), (∀ (p0 : Nat) (a0 : Scope_looker) (a1 : Int) (a2 : Int) (r : Scope_looker ⊕ Value) (H : eS fuel a0 a1 a2 = some r), FnE Tryz.prog 110 [fEq (.pointer (some ⟨p0, 0, none⟩)), aA .i64 a1, aA .i64 a2] [vS p0 a0] r (fun r => cQ []) (fun r => [vS p0 r])) := by
 intro fuel
 induction fuel with
 | zero => exact fun p0 a0 a1 a2 r H => (by rw [eS] at H; cases H)
 | succ fuel ih =>
 have ih_scope_looker_node := ih
 refine ?_
 intro p0 a0 a1 a2 r H
 rw [eS] at H
 refine oR Tryz.func110 rfl Tryz.ntmps110 rfl (fun β => ?_)
 refine uR (fun v1 v2 v3 => ?_)
 refine aP 1 rfl (fun hc_v1 => ?_)
 refine aP 2 rfl (fun hc_v2 => ?_)
 refine aP 3 rfl (fun hc_v3 => ?_)
 revert H; refine bs fun o1 H Hr1 => ?_
 refine aW (ι := Unit) (fun i => o1 = Sum.inl ()) (fun i => [(0, fEq (.pointer (some ⟨p0, 0, none⟩))), (1, aA .i64 a1), (2, aA .i64 a2)]) (fun i => [aC p0 151 [fSl aN a0.p.Free, fSl aL a0.p.Nodes, fSl aK a0.p.Defs, aA .i64 a0.p.Main, fEq v1, fEq v2, fEq v3], aE v1 3 (aB .i64) a0.sizes, aE v2 4 cE a0.met, aE v3 4 cE a0.defs]) ?_ ?_
 refine Z4 ?_
 revert H; refine is (fun c1 H => ?_) fun c1 H => ?_
 refine Z10 ?_
 revert H; refine is (fun c2 H => ?_) fun c2 H => ?_
 refine Z5 ?_
 revert H; refine bs fun y1 h1 H => ?_
 refine Z1 ?_
 refine Yh 2 rfl c2 (iV rfl rfl hh (sc rfl) (cH h1) rfl) ?_
 refine Z2 ?_
 revert H; refine bs fun y2 h2 H => ?_
 rcases y2 with y2 | pv1 <;> dsimp only at H
 refine Tc (bF _ _ h2).s ?_
 refine Z1 ?_
 exact Tm (()) (ij H)
 refine Tp (bF _ _ h2).pan ?_
 refine Z1 ?_
 revert H; refine bs fun r1 H e1 => ?_
 cases e1; cases Hr1
 cases H
 exact cA
 refine Z9 ?_
 revert H; refine bs fun y3 h3 H => ?_
 rcases y3 with y3 | pv2 <;> dsimp only at H
 refine Tc (bF _ _ h3).s ?_
 refine Z1 ?_
 exact Tm (()) (ij H)
 refine Tp (bF _ _ h3).pan ?_
 refine Z1 ?_
 revert H; refine bs fun r2 H e2 => ?_
 cases e2; cases Hr1
 cases H
 exact cA
 refine Z12 ?_
 refine Z7 ?_
 revert H; refine bs fun y4 h4 H => ?_
 rcases y4 with y4 | pv3 <;> dsimp only at H
 refine Tc (bF _ _ h4).s ?_
 refine Z1 ?_
 exact Tm (()) (ij H)
 refine Tp (bF _ _ h4).pan ?_
 refine Z1 ?_
 revert H; refine bs fun r3 H e3 => ?_
 cases e3; cases Hr1
 cases H
 exact cA
 clear H; intro i hi; subst o1; have H := Hr1; clear Hr1; try dsimp only at H
 try dsimp only
 refine aI ?_
 revert H; refine bs fun y5 h5 H => ?_
 revert H; refine bs fun y6 h6 H => ?_
 apply bB (ods := [_, _, _, _, _, _, _, _, _, _, _, _, _, _, _]) 15 0 4 bC rfl rfl rfl
 dsimp only [aY, List.take, List.replicate, List.append, List.drop]
 refine M8 ?_
 intros
 refine M4 ?_
 intros
 refine nP (od := odC [2] true (fAny) [aE v2 4 cE (a0.met.set a1.toNat true)]) (p := 2) (z' := true) rfl (fun _ => rfl) (fun _ => rfl) trivial rfl rfl rfl rfl (has rfl) (has rfl) (aF trivial) (sz rfl) (cH h5) rfl rfl (fun _ => ?_)
 refine M1 ?_
 intros
 refine nP (od := odC [1] true (fAny) [aE v1 3 (aB .i64) (a0.sizes.set a1.toNat a2)]) (p := 1) (z' := a2) rfl (fun _ => rfl) (fun _ => rfl) trivial rfl rfl rfl rfl (has rfl) (has rfl) (aF trivial) (sz rfl) (cH h6) rfl rfl (fun _ => ?_)
 refine Z9 ?_
 revert H; refine bs fun y7 h7 H => ?_
 refine Z2 ?_
 refine aQ trivial rfl rfl (cF rfl hO rfl) (fun b1 => ?_)
 refine dB (φs' := [aA .i64 y7.Op, aA .i64 y7.N, fSl aU y7.Args, fSl (aB .i64) y7.Kids]) trivial rfl rfl (has rfl) (has rfl) (aM (aF trivial) (aM (aF trivial) (aM (bA) (aM (bA) bS)))) (sz rfl) rfl rfl rfl ?_
 refine Z4 ?_
 revert H; refine bs fun y8 h8 H => ?_
 refine Tc (aFB _ _ h8) ?_
 refine Z2 ?_
 revert H; refine bs fun o2 H Hr2 => ?_
 refine aW (ι := Unit) (fun i => o2 = Sum.inl ()) (fun i => [(0, fEq (.pointer (some ⟨p0, 0, none⟩))), (2, aA .i64 a2), (6, fEq (.pointer (some ⟨b1, 0, none⟩))), (7, dZ y8)]) (fun i => [aC b1 51 [aA .i64 y7.Op, aA .i64 y7.N, fSl aU y7.Args, fSl (aB .i64) y7.Kids], aC p0 151 [fSl aN a0.p.Free, fSl aL a0.p.Nodes, fSl aK a0.p.Defs, aA .i64 a0.p.Main, fEq v1, fEq v2, fEq v3], aE v1 3 (aB .i64) (a0.sizes.set a1.toNat a2), aE v2 4 cE (a0.met.set a1.toNat true), aE v3 4 cE a0.defs]) ?_ ?_
 revert H; refine bs fun x1 h9 H => ?_
 revert H; refine cs (fun c3 H => ?_) fun c3 H => ?_
 revert H; refine bs fun y9 h10 H => ?_
 apply bB (ods := [_, _, _, _, _, _, _, _, _, _]) 10 0 5 bC rfl rfl rfl
 dsimp only [aY, List.take, List.replicate, List.append, List.drop]
 refine M1 ?_
 intros
 refine My (wD rfl (dJ rfl gC) aCZ h9) fun _ => ?_
 refine M2 ?_
 intros
 refine cI (od := odC [0] false (fSl (aB .i64) y7.Kids) [bX]) (ps := [0]) (φ := fSl (aB .i64) y7.Kids) rfl (fun _ => rfl) ⟨_, _, rfl, rfl, c3⟩ rfl rfl (bK rfl (has rfl) (sc rfl) rfl Ent.rfl) (fun _ => ?_)
 refine M2 ?_
 intros
 refine N_callI (od := odC [] true (aA .i64 y9) []) (Φ := aA .i64 y9) rfl (fun _ => rfl) ⟨_, _, rfl, rfl, c3⟩ rfl rfl (dJ rfl gC) aD.nil (aEW y8 y9 h10) (fun _ => ?_)
 refine M2 ?_
 intros
 refine Z1 ?_
 revert H; refine bs fun y10 h11 H => ?_
 rcases y10 with y10 | pv4 <;> dsimp only at H
 refine Tc (bF _ _ h11).s ?_
 refine Z1 ?_
 exact Tm (()) (ij H)
 refine Tp (bF _ _ h11).pan ?_
 refine Z1 ?_
 revert H; refine bs fun r4 H e4 => ?_
 cases e4; cases Hr2
 cases H
 exact cA
 exact fk
 kernel_rfl
 apply bB (ods := [_, _, _, _, _, _, _, _, _, _]) 10 0 5 bC rfl rfl rfl
 dsimp only [aY, List.take, List.replicate, List.append, List.drop]
 refine M1 ?_
 intros
 refine My (wD rfl (dJ rfl gC) aCZ h9) fun _ => ?_
 refine M8 ?_
 intros
 refine Z1 ?_
 revert H; refine bs fun y11 h12 H => ?_
 rcases y11 with y11 | pv5 <;> dsimp only at H
 refine Tc (bF _ _ h12).s ?_
 refine Z1 ?_
 exact Tm (()) (ij H)
 refine Tp (bF _ _ h12).pan ?_
 refine Z1 ?_
 revert H; refine bs fun r5 H e5 => ?_
 cases e5; cases Hr2
 cases H
 exact cA
 exact fk
 kernel_rfl
 clear H; intro i hi; subst o2; have H := Hr2; clear Hr2; try dsimp only at H
 try dsimp only
 refine Z3 ?_
 revert H; refine bs fun o3 H Hr3 => ?_
 refine aW (ι := Int) (fun i => o3 = Sum.inl i) (fun i => [(0, fEq (.pointer (some ⟨p0, 0, none⟩))), (2, aA .i64 a2), (6, fEq (.pointer (some ⟨b1, 0, none⟩))), (8, aA .i64 i)]) (fun i => [aC b1 51 [aA .i64 y7.Op, aA .i64 y7.N, fSl aU y7.Args, fSl (aB .i64) y7.Kids], aC p0 151 [fSl aN a0.p.Free, fSl aL a0.p.Nodes, fSl aK a0.p.Defs, aA .i64 a0.p.Main, fEq v1, fEq v2, fEq v3], aE v1 3 (aB .i64) (a0.sizes.set a1.toNat a2), aE v2 4 cE (a0.met.set a1.toNat true), aE v3 4 cE a0.defs]) ?_ ?_
 refine Z5 ?_
 revert H; refine bs fun y12 h13 H => ?_
 obtain ⟨u1, x3⟩ := y12; dsimp only at H
 refine Yy (uF rfl (dJ rfl gC) aCz aFj h13) ?_
 refine Z3 ?_
 revert H; refine cs (fun c4 H => ?_) fun c4 H => ?_
 refine Z12 ?_
 refine Z1 ?_
 revert H; refine is (fun c5 H => ?_) fun c5 H => ?_
 refine Z5 ?_
 revert H; refine bs fun y13 h14 H => ?_
 rcases y13 with y13 | pv6 <;> dsimp only at H
 refine Tc (bF _ _ h14).s ?_
 refine Z3 ?_
 exact Tm (min (y7.Args.length : Int) 3) (ij H)
 refine Tp (bF _ _ h14).pan ?_
 refine Z2 ?_
 revert H; refine bs fun r6 H e6 => ?_
 cases e6; cases Hr3
 cases H
 exact cA
 refine Z5 ?_
 revert H; refine bs fun y14 h15 H => ?_
 rcases y14 with y14 | pv7 <;> dsimp only at H
 refine Tc (bF _ _ h15).s ?_
 refine Z3 ?_
 exact Tm (min (y7.Args.length : Int) 3) (ij H)
 refine Tp (bF _ _ h15).pan ?_
 refine Z2 ?_
 revert H; refine bs fun r7 H e7 => ?_
 cases e7; cases Hr3
 cases H
 exact cA
 refine Z2 ?_
 revert H; refine bs fun y15 h16 H => ?_
 obtain ⟨u2, x4⟩ := y15; dsimp only at H
 refine Yy (uF rfl (dJ rfl gC) aDd aDJ h16) ?_
 refine Z3 ?_
 revert H; refine cs (fun c6 H => ?_) fun c6 H => ?_
 refine Z6 ?_
 revert H; refine is (fun c7 H => ?_) fun c7 H => ?_
 refine Z5 ?_
 revert H; refine bs fun y16 h17 H => ?_
 rcases y16 with y16 | pv8 <;> dsimp only at H
 refine Tc (bF _ _ h17).s ?_
 refine Z3 ?_
 exact Tm (0) (ij H)
 refine Tp (bF _ _ h17).pan ?_
 refine Z2 ?_
 revert H; refine bs fun r8 H e8 => ?_
 cases e8; cases Hr3
 cases H
 exact cA
 refine Z5 ?_
 revert H; refine bs fun y17 h18 H => ?_
 rcases y17 with y17 | pv9 <;> dsimp only at H
 refine Tc (bF _ _ h18).s ?_
 refine Z3 ?_
 exact Tm (0) (ij H)
 refine Tp (bF _ _ h18).pan ?_
 refine Z2 ?_
 revert H; refine bs fun r9 H e9 => ?_
 cases e9; cases Hr3
 cases H
 exact cA
 refine Z2 ?_
 revert H; refine bs fun y18 h19 H => ?_
 obtain ⟨u3, x5⟩ := y18; dsimp only at H
 refine Yy (uF rfl (dJ rfl gC) aA4 aFT h19) ?_
 refine Z3 ?_
 revert H; refine cs (fun c8 H => ?_) fun c8 H => ?_
 refine Z1 ?_
 revert H; refine is (fun c9 H => ?_) fun c9 H => ?_
 revert H; refine is (fun c10 H => ?_) fun c10 H => ?_
 revert H; refine bs fun y19 h20 H => ?_
 apply bB (ods := [_, _, _, _, _, _, _, _, _, _, _, _, _, _, _, _, _, _, _, _, _, _, _, _, _]) 25 0 5 bC rfl rfl rfl
 dsimp only [aY, List.take, List.replicate, List.append, List.drop]
 refine M5 ?_
 intros
 refine cI (od := odC [0] false (aA .i64 y7.N) [bX]) (ps := [0]) (φ := aA .i64 y7.N) rfl (fun _ => rfl) ⟨_, _, rfl, rfl, c9⟩ rfl rfl (bK rfl (has rfl) (sc rfl) rfl Ent.rfl) (fun _ => ?_)
 refine M4 ?_
 intros
 refine cI (od := odC [1] false (fSl aK a0.p.Defs) [bX]) (ps := [1]) (φ := fSl aK a0.p.Defs) rfl (fun _ => rfl) ⟨_, _, rfl, rfl, c9⟩ rfl rfl (bK rfl (has rfl) (sc rfl) rfl Ent.rfl) (fun _ => ?_)
 refine M7 ?_
 intros
 refine cI (od := odC [1] false (fEq v3) [bX]) (ps := [1]) (φ := fEq v3) rfl (fun _ => rfl) ⟨_, _, rfl, rfl, c10⟩ rfl rfl (bK rfl (has rfl) (sc rfl) rfl Ent.rfl) (fun _ => ?_)
 refine M1 ?_
 intros
 refine cI (od := odC [0] false (aA .i64 y7.N) [bX]) (ps := [0]) (φ := aA .i64 y7.N) rfl (fun _ => rfl) ⟨_, _, rfl, rfl, c10⟩ rfl rfl (bK rfl (has rfl) (sc rfl) rfl Ent.rfl) (fun _ => ?_)
 refine cI (od := odC [4] false (gP v3 1 y7.N.toNat 0) [bX]) (ps := [4]) (φ := gP v3 1 y7.N.toNat 0) rfl (fun _ => rfl) ⟨_, _, rfl, rfl, c10⟩ rfl rfl (iB rfl (has rfl) (has rfl) (el rfl) h20) (fun _ => ?_)
 refine cI (od := odC [4] false (aJ y19) [bX]) (ps := [4]) (φ := aJ y19) rfl (fun _ => rfl) ⟨_, _, rfl, rfl, c10⟩ rfl rfl (iV rfl rfl (has rfl) (sc rfl) (cH h20) rfl) (fun _ => ?_)
 refine M2 ?_
 intros
 refine Z1 ?_
 revert H; refine bs fun y20 h21 H => ?_
 rcases y20 with y20 | pv10 <;> dsimp only at H
 refine Tc (bF _ _ h21).s ?_
 refine Z3 ?_
 exact Tm (0) (ij H)
 refine Tp (bF _ _ h21).pan ?_
 refine Z2 ?_
 revert H; refine bs fun r10 H e10 => ?_
 cases e10; cases Hr3
 cases H
 exact cA
 exact fk
 kernel_rfl
 apply bB (ods := [_, _, _, _, _, _, _, _, _, _, _, _, _, _, _, _, _, _, _, _, _, _, _, _, _]) 25 0 5 bC rfl rfl rfl
 dsimp only [aY, List.take, List.replicate, List.append, List.drop]
 refine M5 ?_
 intros
 refine cI (od := odC [0] false (aA .i64 y7.N) [bX]) (ps := [0]) (φ := aA .i64 y7.N) rfl (fun _ => rfl) ⟨_, _, rfl, rfl, c9⟩ rfl rfl (bK rfl (has rfl) (sc rfl) rfl Ent.rfl) (fun _ => ?_)
 refine M4 ?_
 intros
 refine cI (od := odC [1] false (fSl aK a0.p.Defs) [bX]) (ps := [1]) (φ := fSl aK a0.p.Defs) rfl (fun _ => rfl) ⟨_, _, rfl, rfl, c9⟩ rfl rfl (bK rfl (has rfl) (sc rfl) rfl Ent.rfl) (fun _ => ?_)
 refine M8 ?_
 intros
 refine M6 ?_
 intros
 refine Z1 ?_
 revert H; refine bs fun y21 h22 H => ?_
 rcases y21 with y21 | pv11 <;> dsimp only at H
 refine Tc (bF _ _ h22).s ?_
 refine Z3 ?_
 exact Tm (0) (ij H)
 refine Tp (bF _ _ h22).pan ?_
 refine Z2 ?_
 revert H; refine bs fun r11 H e11 => ?_
 cases e11; cases Hr3
 cases H
 exact cA
 exact fk
 kernel_rfl
 apply bB (ods := [_, _, _, _, _, _, _, _, _, _, _, _, _, _, _, _, _, _, _, _, _, _, _, _, _]) 25 0 5 bC rfl rfl rfl
 dsimp only [aY, List.take, List.replicate, List.append, List.drop]
 refine M8 ?_
 intros
 refine M8 ?_
 intros
 refine M8 ?_
 intros
 refine M1 ?_
 intros
 refine Z1 ?_
 revert H; refine bs fun y22 h23 H => ?_
 rcases y22 with y22 | pv12 <;> dsimp only at H
 refine Tc (bF _ _ h23).s ?_
 refine Z3 ?_
 exact Tm (0) (ij H)
 refine Tp (bF _ _ h23).pan ?_
 refine Z2 ?_
 revert H; refine bs fun r12 H e12 => ?_
 cases e12; cases Hr3
 cases H
 exact cA
 exact fk
 kernel_rfl
 refine Z2 ?_
 revert H; refine bs fun y23 h24 H => ?_
 obtain ⟨u4, x6⟩ := y23; dsimp only at H
 refine Yy (uF rfl (dJ rfl gC) aBz aER h24) ?_
 refine Z3 ?_
 revert H; refine cs (fun c11 H => ?_) fun c11 H => ?_
 refine Z8 ?_
 revert H; refine bs fun y24 h25 H => ?_
 rcases y24 with y24 | pv13 <;> dsimp only at H
 refine Tc (bF _ _ h25).s ?_
 refine Z3 ?_
 exact Tm (1) (ij H)
 refine Tp (bF _ _ h25).pan ?_
 refine Z2 ?_
 revert H; refine bs fun r13 H e13 => ?_
 cases e13; cases Hr3
 cases H
 exact cA
 refine Z5 ?_
 revert H; refine bs fun y25 h26 H => ?_
 rcases y25 with y25 | pv14 <;> dsimp only at H
 refine Tc (bF _ _ h26).s ?_
 refine Z3 ?_
 exact Tm (0) (ij H)
 refine Tp (bF _ _ h26).pan ?_
 refine Z2 ?_
 revert H; refine bs fun r14 H e14 => ?_
 cases e14; cases Hr3
 cases H
 exact cA
 clear H; intro x2 hi; subst o3; have H := Hr3; clear Hr3; try dsimp only at H
 try dsimp only
 refine Z6 ?_
 revert H; refine bs fun y26 h27 H => ?_
 rcases y26 with y26 | pv15 <;> dsimp only at H
 refine Tc (bF _ _ h27).s ?_
 refine Z1 ?_
 revert H; refine bs fun o4 H Hr4 => ?_
 refine aW (ι := Unit) (fun i => o4 = Sum.inl ()) (fun i => [(0, fEq (.pointer (some ⟨p0, 0, none⟩))), (2, aA .i64 a2), (6, fEq (.pointer (some ⟨b1, 0, none⟩)))]) (fun i => [aC b1 51 [aA .i64 y7.Op, aA .i64 y7.N, fSl aU y7.Args, fSl (aB .i64) y7.Kids], aC p0 151 [fSl aN a0.p.Free, fSl aL a0.p.Nodes, fSl aK a0.p.Defs, aA .i64 a0.p.Main, fEq v1, fEq v2, fEq v3], aE v1 3 (aB .i64) (a0.sizes.set a1.toNat a2), aE v2 4 cE (a0.met.set a1.toNat true), aE v3 4 cE a0.defs]) ?_ ?_
 refine Z7 ?_
 refine Tl (ι := Nat × Int) (fun i => lA fuel a2 y7 i.1 i.2 = _) (fun i => i.1) (fun i => [(0, fEq (.pointer (some ⟨p0, 0, none⟩))), (2, aA .i64 a2), (6, fEq (.pointer (some ⟨b1, 0, none⟩))), (154, fSl aU y7.Args), (155, aA .i64 (y7.Args.length : Int)), (156, aA .i64 i.2)]) (fun i => [aC b1 51 [aA .i64 y7.Op, aA .i64 y7.N, fSl aU y7.Args, fSl (aB .i64) y7.Kids], aC p0 151 [fSl aN a0.p.Free, fSl aL a0.p.Nodes, fSl aK a0.p.Defs, aA .i64 a0.p.Main, fEq v1, fEq v2, fEq v3], aE v1 3 (aB .i64) (a0.sizes.set a1.toNat a2), aE v2 4 cE (a0.met.set a1.toNat true), aE v3 4 cE a0.defs]) (fuel, 0) H ?_
 clear H; rintro ⟨k1, x8⟩ H
 replace H : lA fuel a2 y7 k1 x8 = _ := H
 try dsimp only
 obtain _ | k1 := k1
 rw [lA] at H; cases H
 rw [lA] at H
 refine Z3 ?_
 refine aI ?_
 revert H; refine is (fun c12 H => ?_) fun c12 H => ?_
 refine Z3 ?_
 refine aI ?_
 refine Z2 ?_
 revert H; refine bs fun y27 h28 H => ?_
 refine Z2 ?_
 refine aQ trivial rfl rfl (cF rfl yI rfl) (fun b2 => ?_)
 refine dB (φs' := [aA .i64 y27.Op, aA .i64 y27.N, fN y27.Kids]) trivial rfl rfl (has rfl) (has rfl) (aM (aF trivial) (aM (aF trivial) (aM (xG) bS))) (sz rfl) rfl rfl rfl ?_
 refine Z4 ?_
 revert H; refine bs fun y28 h29 H => ?_
 rcases y28 with y28 | pv16 <;> dsimp only at H
 refine Tc (aBk _ _ _ _ h29).s ?_
 refine Z4 ?_
 revert H; refine bs fun z1 h30 H => ?_
 refine Z3 ?_
 refine aH [1, 2, 3, 4, 5] (by decide) ?_
 exact Tm ((k1, z1)) ⟨H, ls⟩
 refine Tp (aBk _ _ _ _ h29).pan ?_
 refine Z5 ?_
 revert H; refine bs fun r15 H e15 => ?_
 cases e15; cases Hr4
 cases H
 exact cA
 refine Z6 ?_
 exact Tm (()) (ij H)
 clear H; intro i hi; subst o4; have H := Hr4; clear Hr4; try dsimp only at H
 try dsimp only
 revert H; refine bs fun o5 H Hr5 => ?_
 refine aW (ι := Int × List ByteArray × List ScopeNode × List ScopeDef × Int × List Int × List Bool × List Bool × Value × Value × Value) (fun i => o5 = Sum.inl (i.1, i.2.1, i.2.2.1, i.2.2.2.1, i.2.2.2.2.1, i.2.2.2.2.2.1, i.2.2.2.2.2.2.1, i.2.2.2.2.2.2.2.1)) (fun i => [(0, fEq (.pointer (some ⟨p0, 0, none⟩))), (2, aA .i64 i.1), (6, fEq (.pointer (some ⟨b1, 0, none⟩)))]) (fun i => [aC b1 51 [aA .i64 y7.Op, aA .i64 y7.N, fSl aU y7.Args, fSl (aB .i64) y7.Kids], aC p0 151 [fSl aN i.2.1, fSl aL i.2.2.1, fSl aK i.2.2.2.1, aA .i64 i.2.2.2.2.1, fEq i.2.2.2.2.2.2.2.2.1, fEq i.2.2.2.2.2.2.2.2.2.1, fEq i.2.2.2.2.2.2.2.2.2.2], aE i.2.2.2.2.2.2.2.2.1 3 (aB .i64) i.2.2.2.2.2.1, aE i.2.2.2.2.2.2.2.2.2.1 4 cE i.2.2.2.2.2.2.1, aE i.2.2.2.2.2.2.2.2.2.2 4 cE i.2.2.2.2.2.2.2.1]) ?_ ?_
 refine Z5 ?_
 revert H; refine is (fun c13 H => ?_) fun c13 H => ?_
 refine Z1 ?_
 refine aI ?_
 revert H; refine bs fun y29 h31 H => ?_
 apply bB (ods := [_, _, _, _, _, _, _, _]) 8 0 5 bC rfl rfl rfl
 dsimp only [aY, List.take, List.replicate, List.append, List.drop]
 refine M7 ?_
 intros
 refine nP (od := odC [4] true (fAny) [aE v3 4 cE (a0.defs.set y7.N.toNat true)]) (p := 4) (z' := true) rfl (fun _ => rfl) (fun _ => rfl) trivial rfl rfl rfl rfl (has rfl) (has rfl) (aF trivial) (sz rfl) (cH h31) rfl rfl (fun _ => ?_)
 refine Z2 ?_
 refine aI ?_
 revert H; refine bs fun y30 h32 H => ?_
 apply bB (ods := [_, _, _, _, _, _, _, _, _, _, _]) 11 1 6 bC rfl rfl rfl
 dsimp only [aY, List.take, List.replicate, List.append, List.drop]
 refine M8 ?_
 intros
 refine M1 ?_
 intros
 refine Mn 5 (fun b3 => ptr b3) (fun b3 => aC b3 99 [fEq (.slice none 0 0), fEq (.slice none 0 0), fEq (.slice none 0 0)]) rfl (cF rfl kX rfl) (fun b3 u5 => ?_)
 refine mA (od := od1 9 [5] true (fun b3 _ => fAny) (fun b3 _ => [aC b3 99 [fSl aZ y30.Chans, fSl bN y30.Spots, fSl bD y30.Rules]])) (p := 5) (φs' := [fSl aZ y30.Chans, fSl bN y30.Spots, fSl bD y30.Rules]) rfl (fun _ => rfl) (fun _ => rfl) trivial rfl rfl rfl (has rfl) (has rfl) (aM (bA) (aM (bA) (aM (bA) bS))) (sz rfl) rfl rfl rfl (fun _ => ?_)
 refine Z4 ?_
 revert H; refine bs fun y31 h33 H => ?_
 rcases y31 with y31 | pv17 <;> dsimp only at H
 refine Tc (aAX _ _ _ h33).s ?_
 refine Z4 ?_
 revert H; refine bs fun y32 h34 H => ?_
 refine Tc (aEF _ _ h34) ?_
 revert H; refine bs fun z2 h35 H => ?_
 refine Z3 ?_
 revert H; refine bs fun o6 H Hr6 => ?_
 refine aW (ι := List ByteArray × List ScopeNode × List ScopeDef × Int × List Int × List Bool × List Bool × Value × Value × Value) (fun i => o6 = Sum.inl (i.1, i.2.1, i.2.2.1, i.2.2.2.1, i.2.2.2.2.1, i.2.2.2.2.2.1, i.2.2.2.2.2.2.1)) (fun i => [(0, fEq (.pointer (some ⟨p0, 0, none⟩))), (2, aA .i64 z2), (6, fEq (.pointer (some ⟨b1, 0, none⟩))), (11, fEq (.pointer (some ⟨b3, 0, none⟩)))]) (fun i => [aC b1 51 [aA .i64 y7.Op, aA .i64 y7.N, fSl aU y7.Args, fSl (aB .i64) y7.Kids], aC p0 151 [fSl aN i.1, fSl aL i.2.1, fSl aK i.2.2.1, aA .i64 i.2.2.2.1, fEq i.2.2.2.2.2.2.2.1, fEq i.2.2.2.2.2.2.2.2.1, fEq i.2.2.2.2.2.2.2.2.2], aC b3 99 [fSl aZ y30.Chans, fSl bN y30.Spots, fSl bD y30.Rules], aE i.2.2.2.2.2.2.2.1 3 (aB .i64) i.2.2.2.2.1, aE i.2.2.2.2.2.2.2.2.1 4 cE i.2.2.2.2.2.1, aE i.2.2.2.2.2.2.2.2.2 4 cE i.2.2.2.2.2.2.1]) ?_ ?_
 refine Z7 ?_
 refine aH [0, 1, 5, 2, 3, 4] (by decide) ?_
 refine Tl (ι := Nat × Int × List ByteArray × List ScopeNode × List ScopeDef × Int × List Int × List Bool × List Bool × Value × Value × Value) (fun i => lB fuel (eS fuel) y30 z2 i.1 i.2.1 i.2.2.1 i.2.2.2.1 i.2.2.2.2.1 i.2.2.2.2.2.1 i.2.2.2.2.2.2.1 i.2.2.2.2.2.2.2.1 i.2.2.2.2.2.2.2.2.1 = _) (fun i => i.1) (fun i => [(0, fEq (.pointer (some ⟨p0, 0, none⟩))), (2, aA .i64 z2), (6, fEq (.pointer (some ⟨b1, 0, none⟩))), (11, fEq (.pointer (some ⟨b3, 0, none⟩))), (190, fSl bD y30.Rules), (191, aA .i64 (y30.Rules.length : Int)), (192, aA .i64 i.2.1)]) (fun i => [aC b1 51 [aA .i64 y7.Op, aA .i64 y7.N, fSl aU y7.Args, fSl (aB .i64) y7.Kids], aC p0 151 [fSl aN i.2.2.1, fSl aL i.2.2.2.1, fSl aK i.2.2.2.2.1, aA .i64 i.2.2.2.2.2.1, fEq i.2.2.2.2.2.2.2.2.2.1, fEq i.2.2.2.2.2.2.2.2.2.2.1, fEq i.2.2.2.2.2.2.2.2.2.2.2], aC b3 99 [fSl aZ y30.Chans, fSl bN y30.Spots, fSl bD y30.Rules], aE i.2.2.2.2.2.2.2.2.2.1 3 (aB .i64) i.2.2.2.2.2.2.1, aE i.2.2.2.2.2.2.2.2.2.2.1 4 cE i.2.2.2.2.2.2.2.1, aE i.2.2.2.2.2.2.2.2.2.2.2 4 cE i.2.2.2.2.2.2.2.2.1]) (fuel, 0, a0.p.Free, a0.p.Nodes, a0.p.Defs, a0.p.Main, a0.sizes.set a1.toNat a2, a0.met.set a1.toNat true, a0.defs.set y7.N.toNat true, v1, v2, v3) H ?_
 clear H; rintro ⟨k2, x32, x33, x34, x35, x36, x37, x38, x39, v13, v14, v15⟩ H
 replace H : lB fuel (eS fuel) y30 z2 k2 x32 x33 x34 x35 x36 x37 x38 x39 = _ := H
 try dsimp only
 obtain _ | k2 := k2
 rw [lB] at H; cases H
 rw [lB] at H
 refine aP 3 rfl (fun hc_v13 => ?_)
 refine aP 4 rfl (fun hc_v14 => ?_)
 refine aP 5 rfl (fun hc_v15 => ?_)
 refine Z3 ?_
 refine aI ?_
 revert H; refine is (fun c14 H => ?_) fun c14 H => ?_
 refine Z3 ?_
 refine aI ?_
 refine Z2 ?_
 revert H; refine bs fun y33 h36 H => ?_
 refine Z2 ?_
 refine aQ trivial rfl rfl (cF rfl rU rfl) (fun b4 => ?_)
 refine dB (φs' := [aA .i64 y33.At, fSl (aB .i64) y33.Joins, aA .i64 y33.Node]) trivial rfl rfl (has rfl) (has rfl) (aM (aF trivial) (aM (bA) (aM (aF trivial) bS))) (sz rfl) rfl rfl rfl ?_
 refine Z1 ?_
 revert H; refine bs fun y34 h37 H => ?_
 revert H; refine bs fun z3 h38 H => ?_
 apply bB (ods := [_, _, _, _, _, _, _, _]) 8 0 7 bC rfl rfl rfl
 dsimp only [aY, List.take, List.replicate, List.append, List.drop]
 refine M6 ?_
 intros
 refine bT (od := odC [] true (aA .i64 y34) []) (Φ := aA .i64 y34) rfl (fun _ => rfl) trivial rfl rfl (has rfl) (aD.cons (has rfl) (aD.cons (has rfl) aD.nil)) rfl (cb rfl) (aDH fuel (⟨y30.Chans, y30.Spots, y30.Rules⟩ : ScopeDef) (⟨y33.At, y33.Joins, y33.Node⟩ : ScopeRule) y34 h37) (fun _ => ?_)
 refine M1 ?_
 intros
 refine Z1 ?_
 refine lW ?_
 refine lW ?_
 refine lW ?_
 refine lJ ?_
 refine tL (x := (⟨(⟨x33, x34, x35, x36⟩ : ScopeProg), x37, x38, x39⟩ : Scope_looker)) ?_
 revert H; refine bs fun y35 h39 H => ?_
 rcases y35 with y35 | pv18 <;> dsimp only at H
 refine Tc (ih_scope_looker_node _ _ _ _ _ h39).s ?_
 refine uR (fun v16 v17 v18 => ?_)
 refine aP 1 rfl (fun hc_v16 => ?_)
 refine aP 2 rfl (fun hc_v17 => ?_)
 refine aP 3 rfl (fun hc_v18 => ?_)
 refine Z4 ?_
 revert H; refine bs fun z4 h40 H => ?_
 refine Z3 ?_
 refine aH [5, 0, 6, 1, 2, 3] (by decide) ?_
 exact Tm ((k2, z4, y35.p.Free, y35.p.Nodes, y35.p.Defs, y35.p.Main, y35.sizes, y35.met, y35.defs, v16, v17, v18)) ⟨H, ls⟩
 refine Tp (ih_scope_looker_node _ _ _ _ _ h39).pan ?_
 refine Z5 ?_
 revert H; refine bs fun r16 H e16 => ?_
 cases e16; cases Hr6
 refine Z1 ?_
 revert H; refine bs fun r17 H e17 => ?_
 cases e17; cases Hr5
 cases H
 exact cA
 exact fk
 kernel_rfl
 refine Z6 ?_
 exact Tm ((x33, x34, x35, x36, x37, x38, x39, v13, v14, v15)) (ij H)
 clear H; intro i hi; obtain ⟨x17, x18, x19, x20, x21, x22, x23, v7, v8, v9⟩ := i; subst o6; have H := Hr6; clear Hr6; try dsimp only at H
 try dsimp only
 refine aP 3 rfl (fun hc_v7 => ?_)
 refine aP 4 rfl (fun hc_v8 => ?_)
 refine aP 5 rfl (fun hc_v9 => ?_)
 refine Z7 ?_
 refine Tl (ι := Nat × Int × List ByteArray × List ScopeNode × List ScopeDef × Int × List Int × List Bool × List Bool × Value × Value × Value) (fun i => lI (eS fuel) y30 z2 i.1 i.2.1 i.2.2.1 i.2.2.2.1 i.2.2.2.2.1 i.2.2.2.2.2.1 i.2.2.2.2.2.2.1 i.2.2.2.2.2.2.2.1 i.2.2.2.2.2.2.2.2.1 = _) (fun i => i.1) (fun i => [(0, fEq (.pointer (some ⟨p0, 0, none⟩))), (2, aA .i64 z2), (6, fEq (.pointer (some ⟨b1, 0, none⟩))), (207, fSl bN y30.Spots), (208, aA .i64 (y30.Spots.length : Int)), (209, aA .i64 i.2.1)]) (fun i => [aC b1 51 [aA .i64 y7.Op, aA .i64 y7.N, fSl aU y7.Args, fSl (aB .i64) y7.Kids], aC p0 151 [fSl aN i.2.2.1, fSl aL i.2.2.2.1, fSl aK i.2.2.2.2.1, aA .i64 i.2.2.2.2.2.1, fEq i.2.2.2.2.2.2.2.2.2.1, fEq i.2.2.2.2.2.2.2.2.2.2.1, fEq i.2.2.2.2.2.2.2.2.2.2.2], aC b3 99 [fSl aZ y30.Chans, fSl bN y30.Spots, fSl bD y30.Rules], aE i.2.2.2.2.2.2.2.2.2.1 3 (aB .i64) i.2.2.2.2.2.2.1, aE i.2.2.2.2.2.2.2.2.2.2.1 4 cE i.2.2.2.2.2.2.2.1, aE i.2.2.2.2.2.2.2.2.2.2.2 4 cE i.2.2.2.2.2.2.2.2.1]) (fuel, 0, x17, x18, x19, x20, x21, x22, x23, v7, v8, v9) H ?_
 clear H; rintro ⟨k3, x48, x49, x50, x51, x52, x53, x54, x55, v22, v23, v24⟩ H
 replace H : lI (eS fuel) y30 z2 k3 x48 x49 x50 x51 x52 x53 x54 x55 = _ := H
 try dsimp only
 obtain _ | k3 := k3
 rw [lI] at H; cases H
 rw [lI] at H
 refine aP 3 rfl (fun hc_v22 => ?_)
 refine aP 4 rfl (fun hc_v23 => ?_)
 refine aP 5 rfl (fun hc_v24 => ?_)
 refine Z3 ?_
 refine aI ?_
 revert H; refine is (fun c15 H => ?_) fun c15 H => ?_
 refine Z3 ?_
 refine aI ?_
 refine Z2 ?_
 revert H; refine bs fun y36 h41 H => ?_
 refine Z2 ?_
 refine aQ trivial rfl rfl (cF rfl aAL rfl) (fun b5 => ?_)
 refine dB (φs' := [aA .i64 y36.In, aA .i64 y36.Node]) trivial rfl rfl (has rfl) (has rfl) (aM (aF trivial) (aM (aF trivial) bS)) (sz rfl) rfl rfl rfl ?_
 refine Z6 ?_
 refine lW ?_
 refine lW ?_
 refine lW ?_
 refine lJ ?_
 refine tL (x := (⟨(⟨x49, x50, x51, x52⟩ : ScopeProg), x53, x54, x55⟩ : Scope_looker)) ?_
 revert H; refine bs fun y37 h42 H => ?_
 rcases y37 with y37 | pv19 <;> dsimp only at H
 refine Tc (ih_scope_looker_node _ _ _ _ _ h42).s ?_
 refine uR (fun v25 v26 v27 => ?_)
 refine aP 1 rfl (fun hc_v25 => ?_)
 refine aP 2 rfl (fun hc_v26 => ?_)
 refine aP 3 rfl (fun hc_v27 => ?_)
 refine Z4 ?_
 revert H; refine bs fun z5 h43 H => ?_
 refine Z3 ?_
 refine aH [5, 0, 6, 1, 2, 3] (by decide) ?_
 exact Tm ((k3, z5, y37.p.Free, y37.p.Nodes, y37.p.Defs, y37.p.Main, y37.sizes, y37.met, y37.defs, v25, v26, v27)) ⟨H, ls⟩
 refine Tp (ih_scope_looker_node _ _ _ _ _ h42).pan ?_
 refine Z5 ?_
 revert H; refine bs fun r18 H e18 => ?_
 cases e18; cases Hr5
 cases H
 exact cA
 refine Z6 ?_
 refine aH [0, 1, 3, 4, 5] (by decide) ?_
 exact Tm ((z2, x49, x50, x51, x52, x53, x54, x55, v22, v23, v24)) (ij H)
 refine Tp (aAX _ _ _ h33).pan ?_
 refine Z2 ?_
 revert H; refine bs fun r19 H e19 => ?_
 cases e19; cases Hr5
 cases H
 exact cA
 exact fk
 kernel_rfl
 exact fk
 kernel_rfl
 refine Z3 ?_
 exact Tm ((a2, a0.p.Free, a0.p.Nodes, a0.p.Defs, a0.p.Main, a0.sizes.set a1.toNat a2, a0.met.set a1.toNat true, a0.defs, v1, v2, v3)) (ij H)
 clear H; intro i hi; obtain ⟨x9, x10, x11, x12, x13, x14, x15, x16, v4, v5, v6⟩ := i; subst o5; have H := Hr5; clear Hr5; try dsimp only at H
 try dsimp only
 refine aP 2 rfl (fun hc_v4 => ?_)
 refine aP 3 rfl (fun hc_v5 => ?_)
 refine aP 4 rfl (fun hc_v6 => ?_)
 refine Z7 ?_
 refine Tl (ι := Nat × Int × List ByteArray × List ScopeNode × List ScopeDef × Int × List Int × List Bool × List Bool × Value × Value × Value) (fun i => lK (eS fuel) y7 x9 i.1 i.2.1 i.2.2.1 i.2.2.2.1 i.2.2.2.2.1 i.2.2.2.2.2.1 i.2.2.2.2.2.2.1 i.2.2.2.2.2.2.2.1 i.2.2.2.2.2.2.2.2.1 = _) (fun i => i.1) (fun i => [(0, fEq (.pointer (some ⟨p0, 0, none⟩))), (2, aA .i64 x9), (220, fSl (aB .i64) y7.Kids), (221, aA .i64 (y7.Kids.length : Int)), (222, aA .i64 i.2.1)]) (fun i => [aC b1 51 [aA .i64 y7.Op, aA .i64 y7.N, fSl aU y7.Args, fSl (aB .i64) y7.Kids], aC p0 151 [fSl aN i.2.2.1, fSl aL i.2.2.2.1, fSl aK i.2.2.2.2.1, aA .i64 i.2.2.2.2.2.1, fEq i.2.2.2.2.2.2.2.2.2.1, fEq i.2.2.2.2.2.2.2.2.2.2.1, fEq i.2.2.2.2.2.2.2.2.2.2.2], aE i.2.2.2.2.2.2.2.2.2.1 3 (aB .i64) i.2.2.2.2.2.2.1, aE i.2.2.2.2.2.2.2.2.2.2.1 4 cE i.2.2.2.2.2.2.2.1, aE i.2.2.2.2.2.2.2.2.2.2.2 4 cE i.2.2.2.2.2.2.2.2.1]) (fuel, 0, x10, x11, x12, x13, x14, x15, x16, v4, v5, v6) H ?_
 clear H; rintro ⟨k4, x64, x65, x66, x67, x68, x69, x70, x71, v31, v32, v33⟩ H
 replace H : lK (eS fuel) y7 x9 k4 x64 x65 x66 x67 x68 x69 x70 x71 = _ := H
 try dsimp only
 obtain _ | k4 := k4
 rw [lK] at H; cases H
 rw [lK] at H
 refine aP 2 rfl (fun hc_v31 => ?_)
 refine aP 3 rfl (fun hc_v32 => ?_)
 refine aP 4 rfl (fun hc_v33 => ?_)
 refine Z3 ?_
 refine aI ?_
 revert H; refine is (fun c16 H => ?_) fun c16 H => ?_
 refine Z3 ?_
 refine aI ?_
 refine Z2 ?_
 revert H; refine bs fun y38 h44 H => ?_
 refine Z8 ?_
 refine bM ?_
 refine bM ?_
 refine bM ?_
 refine bM ?_
 refine tL (x := (⟨(⟨x65, x66, x67, x68⟩ : ScopeProg), x69, x70, x71⟩ : Scope_looker)) ?_
 revert H; refine bs fun y39 h45 H => ?_
 rcases y39 with y39 | pv20 <;> dsimp only at H
 refine Tc (ih_scope_looker_node _ _ _ _ _ h45).s ?_
 refine uR (fun v34 v35 v36 => ?_)
 refine aP 1 rfl (fun hc_v34 => ?_)
 refine aP 2 rfl (fun hc_v35 => ?_)
 refine aP 3 rfl (fun hc_v36 => ?_)
 refine Z4 ?_
 revert H; refine bs fun z6 h46 H => ?_
 refine Z3 ?_
 refine aH [4, 0, 1, 2, 3] (by decide) ?_
 exact Tm ((k4, z6, y39.p.Free, y39.p.Nodes, y39.p.Defs, y39.p.Main, y39.sizes, y39.met, y39.defs, v34, v35, v36)) ⟨H, ls⟩
 refine Tp (ih_scope_looker_node _ _ _ _ _ h45).pan ?_
 refine Z4 ?_
 cases H
 exact cA
 refine Z5 ?_
 refine bM ?_
 refine bM ?_
 refine bM ?_
 refine bM ?_
 refine tL (x := (⟨(⟨x65, x66, x67, x68⟩ : ScopeProg), x69, x70, x71⟩ : Scope_looker)) ?_
 cases H
 refine nZ ?_
 refine aH [0] (by decide) ?_
 exact eR (.inr rfl) rfl rfl
 refine Tp (bF _ _ h27).pan ?_
 refine Z1 ?_
 cases H
 exact cA
 exact fk
 kernel_rfl
end Go.Proofs.YtmnbfgeljmhekaaGreat
set_option maxRecDepth 100000
set_option maxHeartbeats 2000000
namespace Go.Proofs.YtmnbfgeljmhekaaGreat
open Go.SX Go.SW Go.Dt
attribute [local irreducible] Code.wpIn wpListIn Exit.then Exit.inBlock
def mZ (a0 : List Bool) (a1 : Bool) : Nat → Int → Option ((Unit) ⊕ (Int))
| 0, _ => none
| k + 1, x2 =>
 if x2 < (a0.length : Int) then
  (idx a0 x2).bind fun y1 =>
  bif a1 == y1 then
   (some x2).bind fun r => some (Sum.inr r)
  else
   (chk (x2 + 1)).bind fun z1 =>
   mZ a0 a1 k z1
 else
  some (Sum.inl ())
def wM (fuel : Nat) (a0 : List Bool) (a1 : Bool) : Option (Int) :=
 (mZ a0 a1 fuel 0).bind fun o => match o with
 | Sum.inr r => some r
 | Sum.inl _ =>
 some (-1)
theorem aDU (fuel : Nat)  (a0 : List Bool) (a1 : Bool) (r : Int) (H : wM fuel a0 a1 = some r) : FnS Tryz.prog 128 [fSl cE a0, aJ a1] [] (aA .i64 r) (fun _ => []) := by
 unfold wM at H
 refine bI Tryz.func128 rfl Tryz.ntmps128 rfl (fun β => ?_)
 refine Z3 ?_
 revert H; refine bs fun o1 H Hr1 => ?_
 refine aW (ι := Unit) (fun i => o1 = Sum.inl ()) (fun i => []) (fun i => []) ?_ ?_
 refine Z6 ?_
 refine Tl (ι := Nat × Int) (fun i => mZ a0 a1 i.1 i.2 = _) (fun i => i.1) (fun i => [(0, fSl cE a0), (1, aJ a1), (7, aA .i64 (a0.length : Int)), (8, aA .i64 i.2)]) (fun i => []) (fuel, 0) H ?_
 clear H; rintro ⟨k1, x2⟩ H
 replace H : mZ a0 a1 k1 x2 = _ := H
 try dsimp only
 obtain _ | k1 := k1
 rw [mZ] at H; cases H
 rw [mZ] at H
 refine Z3 ?_
 refine aI ?_
 revert H; refine is (fun c1 H => ?_) fun c1 H => ?_
 refine Z3 ?_
 refine aI ?_
 refine Z9 ?_
 revert H; refine bs fun y1 h1 H => ?_
 refine Z2 ?_
 refine Yy (o_eqlB rfl hh hh aD4) ?_
 refine Z1 ?_
 revert H; refine cs (fun c2 H => ?_) fun c2 H => ?_
 refine Z11 ?_
 revert H; refine bs fun r1 H e1 => ?_
 cases e1; cases Hr1
 cases H
 exact To
 refine Z5 ?_
 revert H; refine bs fun z1 h2 H => ?_
 refine Z3 ?_
 exact Tm ((k1, z1)) ⟨H, ls⟩
 refine Z6 ?_
 exact Tm (()) (ij H)
 clear H; intro i hi; subst o1; have H := Hr1; clear Hr1; try dsimp only at H
 try dsimp only
 refine Z4 ?_
 cases H
 exact To
def rS (fuel : Nat) (a0 : List Bool) (a1 : Bool) : Option (Bool) :=
 (wM fuel a0 a1).bind fun y1 =>
 some (decide (0 ≤ y1))
theorem aCs (fuel : Nat)  (a0 : List Bool) (a1 : Bool) (r : Bool) (H : rS fuel a0 a1 = some r) : FnS Tryz.prog 111 [fSl cE a0, aJ a1] [] (aJ r) (fun _ => []) := by
 unfold rS at H
 refine bI Tryz.func111 rfl Tryz.ntmps111 rfl (fun β => ?_)
 refine Z6 ?_
 revert H; refine bs fun y1 h1 H => ?_
 refine Tc (aDU _ _ _ _ h1) ?_
 refine Z4 ?_
 cases H
 exact To
def lQ (fuel : Nat) (a0 : ScopeProg) : Nat → Int → Option ((Unit) ⊕ (Scope_looker ⊕ Value))
| 0, _ => none
| k + 1, x2 =>
 if x2 < (a0.Free.length : Int) then
  ((idx a0.Free x2).bind fun y4 =>
  (oD fuel y4).bind fun y5 =>
  bif y5 then
   if x2 = 0 then
    (bV true).bind fun y6 =>
    match y6 with
    | Sum.inr pv4 => ((some (Sum.inr pv4)).bind fun r => some (Sum.inr r)).bind fun r => some (Sum.inr r)
    | Sum.inl y6 =>
    some (Sum.inl ())
   else
    (chk (x2 - 1)).bind fun z1 =>
    (idx a0.Free z1).bind fun y7 =>
    (bV (slt y7 y4)).bind fun y8 =>
    match y8 with
    | Sum.inr pv5 => ((some (Sum.inr pv5)).bind fun r => some (Sum.inr r)).bind fun r => some (Sum.inr r)
    | Sum.inl y8 =>
    some (Sum.inl ())
  else
   (bV false).bind fun y9 =>
   match y9 with
   | Sum.inr pv6 => ((some (Sum.inr pv6)).bind fun r => some (Sum.inr r)).bind fun r => some (Sum.inr r)
   | Sum.inl y9 =>
   some (Sum.inl ())).bind fun o => match o with
  | Sum.inr r => some r
  | Sum.inl _ =>
  (chk (x2 + 1)).bind fun z2 =>
  lQ fuel a0 k z2
 else
  some (Sum.inl ())
def sN (fuel : Nat) (a0 : ScopeProg) : Option (Scope_looker ⊕ Value) :=
 (if (a0.Free.length : Int) ≤ 12 then
  if (a0.Nodes.length : Int) ≤ 60 then
   (bV (decide ((a0.Defs.length : Int) ≤ 12))).bind fun y1 =>
   match y1 with
   | Sum.inr pv1 => (some (Sum.inr pv1)).bind fun r => some (Sum.inr r)
   | Sum.inl y1 =>
   some (Sum.inl ())
  else
   (bV false).bind fun y2 =>
   match y2 with
   | Sum.inr pv2 => (some (Sum.inr pv2)).bind fun r => some (Sum.inr r)
   | Sum.inl y2 =>
   some (Sum.inl ())
 else
  (bV false).bind fun y3 =>
  match y3 with
  | Sum.inr pv3 => (some (Sum.inr pv3)).bind fun r => some (Sum.inr r)
  | Sum.inl y3 =>
  some (Sum.inl ())).bind fun o => match o with
 | Sum.inr r => some r
 | Sum.inl _ =>
 (lQ fuel a0 fuel 0).bind fun o => match o with
 | Sum.inr r => some r
 | Sum.inl _ =>
 (mk 0 (a0.Nodes.length : Int)).bind fun y10 =>
 (mk false (a0.Nodes.length : Int)).bind fun y11 =>
 (mk false (a0.Defs.length : Int)).bind fun y12 =>
 (eS fuel (⟨(⟨a0.Free, a0.Nodes, a0.Defs, a0.Main⟩ : ScopeProg), y10, y11, y12⟩ : Scope_looker) a0.Main (a0.Free.length : Int)).bind fun y13 =>
 match y13 with
 | Sum.inr pv7 => some (Sum.inr pv7)
 | Sum.inl y13 =>
 ((rS fuel y13.met false).bind fun y14 =>
 bif !y14 then
  (rS fuel y13.defs false).bind fun y15 =>
  (bV (!y15)).bind fun y16 =>
  match y16 with
  | Sum.inr pv8 => (some (Sum.inr pv8)).bind fun r => some (Sum.inr r)
  | Sum.inl y16 =>
  some (Sum.inl y13.defs)
 else
  (bV false).bind fun y17 =>
  match y17 with
  | Sum.inr pv9 => (some (Sum.inr pv9)).bind fun r => some (Sum.inr r)
  | Sum.inl y17 =>
  some (Sum.inl y13.defs)).bind fun o => match o with
 | Sum.inr r => some r
 | Sum.inl x3 =>
 some (Sum.inl (⟨(⟨y13.p.Free, y13.p.Nodes, y13.p.Defs, y13.p.Main⟩ : ScopeProg), y13.sizes, y13.met, x3⟩ : Scope_looker))
theorem vI (fuel : Nat)  (a0 : ScopeProg) (r : Scope_looker ⊕ Value) (H : sN fuel a0 = some r) : FnE Tryz.prog 96 [fSt cY a0] [] r (fun r => aG iQ r) (fun r => []) := by
 unfold sN at H
 refine oR Tryz.func96 rfl Tryz.ntmps96 rfl (fun β => ?_)
 refine Z1 ?_
 refine aQ trivial rfl rfl (cC rfl (has rfl) bQ) (fun b1 => ?_)
 refine Z2 ?_
 revert H; refine bs fun o1 H Hr1 => ?_
 refine aW (ι := Unit) (fun i => o1 = Sum.inl ()) (fun i => [(1, fEq (.pointer (some ⟨b1, 0, none⟩)))]) (fun i => [aC b1 26 [fSl aN a0.Free, fSl aL a0.Nodes, fSl aK a0.Defs, aA .i64 a0.Main]]) ?_ ?_
 refine Z6 ?_
 revert H; refine is (fun c1 H => ?_) fun c1 H => ?_
 refine Z6 ?_
 revert H; refine is (fun c2 H => ?_) fun c2 H => ?_
 refine Z5 ?_
 revert H; refine bs fun y1 h1 H => ?_
 rcases y1 with y1 | pv1 <;> dsimp only at H
 refine Tc (bF _ _ h1).s ?_
 refine Z1 ?_
 exact Tm (()) (ij H)
 refine Tp (bF _ _ h1).pan ?_
 refine Z1 ?_
 revert H; refine bs fun r1 H e1 => ?_
 cases e1; cases Hr1
 cases H
 exact cA
 refine Z5 ?_
 revert H; refine bs fun y2 h2 H => ?_
 rcases y2 with y2 | pv2 <;> dsimp only at H
 refine Tc (bF _ _ h2).s ?_
 refine Z1 ?_
 exact Tm (()) (ij H)
 refine Tp (bF _ _ h2).pan ?_
 refine Z1 ?_
 revert H; refine bs fun r2 H e2 => ?_
 cases e2; cases Hr1
 cases H
 exact cA
 refine Z11 ?_
 revert H; refine bs fun y3 h3 H => ?_
 rcases y3 with y3 | pv3 <;> dsimp only at H
 refine Tc (bF _ _ h3).s ?_
 refine Z1 ?_
 exact Tm (()) (ij H)
 refine Tp (bF _ _ h3).pan ?_
 refine Z1 ?_
 revert H; refine bs fun r3 H e3 => ?_
 cases e3; cases Hr1
 cases H
 exact cA
 clear H; intro i hi; subst o1; have H := Hr1; clear Hr1; try dsimp only at H
 try dsimp only
 revert H; refine bs fun o2 H Hr2 => ?_
 refine aW (ι := Unit) (fun i => o2 = Sum.inl ()) (fun i => [(1, fEq (.pointer (some ⟨b1, 0, none⟩)))]) (fun i => [aC b1 26 [fSl aN a0.Free, fSl aL a0.Nodes, fSl aK a0.Defs, aA .i64 a0.Main]]) ?_ ?_
 refine Z7 ?_
 refine Tl (ι := Nat × Int) (fun i => lQ fuel a0 i.1 i.2 = _) (fun i => i.1) (fun i => [(1, fEq (.pointer (some ⟨b1, 0, none⟩))), (24, fSl aN a0.Free), (25, aA .i64 (a0.Free.length : Int)), (26, aA .i64 i.2)]) (fun i => [aC b1 26 [fSl aN a0.Free, fSl aL a0.Nodes, fSl aK a0.Defs, aA .i64 a0.Main]]) (fuel, 0) H ?_
 clear H; rintro ⟨k1, x2⟩ H
 replace H : lQ fuel a0 k1 x2 = _ := H
 try dsimp only
 obtain _ | k1 := k1
 rw [lQ] at H; cases H
 rw [lQ] at H
 refine Z3 ?_
 refine aI ?_
 revert H; refine is (fun c3 H => ?_) fun c3 H => ?_
 refine Z3 ?_
 revert H; refine bs fun o3 H Hr3 => ?_
 refine aW (ι := Unit) (fun i => o3 = Sum.inl ()) (fun i => [(1, fEq (.pointer (some ⟨b1, 0, none⟩))), (24, fSl aN a0.Free), (25, aA .i64 (a0.Free.length : Int)), (26, aA .i64 x2)]) (fun i => [aC b1 26 [fSl aN a0.Free, fSl aL a0.Nodes, fSl aK a0.Defs, aA .i64 a0.Main]]) ?_ ?_
 refine Z3 ?_
 revert H; refine bs fun y4 h4 H => ?_
 refine Z7 ?_
 revert H; refine bs fun y5 h5 H => ?_
 refine Tc (aEO _ _ _ h5) ?_
 refine Z1 ?_
 revert H; refine cs (fun c4 H => ?_) fun c4 H => ?_
 refine Z3 ?_
 revert H; refine is (fun c5 H => ?_) fun c5 H => ?_
 refine Z10 ?_
 revert H; refine bs fun y6 h6 H => ?_
 rcases y6 with y6 | pv4 <;> dsimp only at H
 refine Tc (bF _ _ h6).s ?_
 refine Z3 ?_
 exact Tm (()) (ij H)
 refine Tp (bF _ _ h6).pan ?_
 refine Z2 ?_
 revert H; refine bs fun r4 H e4 => ?_
 cases e4; cases Hr3
 refine Z3 ?_
 revert H; refine bs fun r5 H e5 => ?_
 cases e5; cases Hr2
 cases H
 exact cA
 refine Z3 ?_
 revert H; refine bs fun z1 h7 H => ?_
 refine Z1 ?_
 revert H; refine bs fun y7 h8 H => ?_
 refine Z3 ?_
 refine Yg c5 (o_lssS rfl hh hh) ?_
 refine Z2 ?_
 revert H; refine bs fun y8 h9 H => ?_
 rcases y8 with y8 | pv5 <;> dsimp only at H
 refine Tc (bF _ _ h9).s ?_
 refine Z3 ?_
 exact Tm (()) (ij H)
 refine Tp (bF _ _ h9).pan ?_
 refine Z2 ?_
 revert H; refine bs fun r6 H e6 => ?_
 cases e6; cases Hr3
 refine Z3 ?_
 revert H; refine bs fun r7 H e7 => ?_
 cases e7; cases Hr2
 cases H
 exact cA
 refine Z3 ?_
 refine dF (⟨_, _, _, _, rfl, rfl, rfl, nu⟩) rfl rfl ?_
 refine dF (⟨_, _, _, _, rfl, rfl, rfl, nu⟩) rfl rfl ?_
 refine dF (⟨_, _, _, _, rfl, rfl, rfl, nu⟩) rfl rfl ?_
 refine dF (⟨_, _, _, _, rfl, rfl, rfl, nu⟩) rfl rfl ?_
 refine dF (⟨_, _, _, _, rfl, rfl, rfl, nu⟩) rfl rfl ?_
 refine dF (⟨_, _, _, _, rfl, rfl, rfl, nu⟩) rfl rfl ?_
 refine dF (⟨_, _, _, _, rfl, rfl, rfl, nu⟩) rfl rfl ?_
 refine dF (⟨_, _, _, _, rfl, rfl, rfl, nu⟩) rfl rfl ?_
 refine Z2 ?_
 revert H; refine bs fun y9 h10 H => ?_
 rcases y9 with y9 | pv6 <;> dsimp only at H
 refine Tc (bF _ _ h10).s ?_
 refine Z3 ?_
 exact Tm (()) (ij H)
 refine Tp (bF _ _ h10).pan ?_
 refine Z2 ?_
 revert H; refine bs fun r8 H e8 => ?_
 cases e8; cases Hr3
 refine Z3 ?_
 revert H; refine bs fun r9 H e9 => ?_
 cases e9; cases Hr2
 cases H
 exact cA
 clear H; intro i hi; subst o3; have H := Hr3; clear Hr3; try dsimp only at H
 try dsimp only
 refine Z1 ?_
 revert H; refine bs fun z2 h11 H => ?_
 refine Z3 ?_
 exact Tm ((k1, z2)) ⟨H, ls⟩
 refine Z6 ?_
 exact Tm (()) (ij H)
 clear H; intro i hi; subst o2; have H := Hr2; clear Hr2; try dsimp only at H
 try dsimp only
 refine aI ?_
 revert H; refine bs fun y10 h12 H => ?_
 revert H; refine bs fun y11 h13 H => ?_
 revert H; refine bs fun y12 h14 H => ?_
 apply bB (ods := [_, _, _, _, _, _, _, _, _, _, _, _, _, _, _, _]) 16 4 5 bC rfl rfl rfl
 dsimp only [aY, List.take, List.replicate, List.append, List.drop]
 refine M4 ?_
 intros
 refine Mn 1 (fun b2 => .slice (some ⟨b2, 0, none⟩) y10.length y10.length) (fun b2 => aE (.slice (some ⟨b2, 0, none⟩) y10.length y10.length) 3 (aB .i64) y10) rfl (jT (t := (aB .i64)) (z := 0) rfl (has rfl) (et rfl) rfl oS rfl h12) (fun b2 u1 => ?_)
 refine M3 ?_
 intros
 refine Mn 2 (fun b3 => .slice (some ⟨b3, 0, none⟩) y11.length y11.length) (fun b3 => aE (.slice (some ⟨b3, 0, none⟩) y11.length y11.length) 4 cE y11) rfl (jT (t := cE) (z := false) rfl (has rfl) (et rfl) rfl aAw rfl h13) (fun b3 u2 => ?_)
 refine M3 ?_
 intros
 refine Mn 3 (fun b4 => .slice (some ⟨b4, 0, none⟩) y12.length y12.length) (fun b4 => aE (.slice (some ⟨b4, 0, none⟩) y12.length y12.length) 4 cE y12) rfl (jT (t := cE) (z := false) rfl (has rfl) (et rfl) rfl aAw rfl h14) (fun b4 u3 => ?_)
 refine N_y (od := od3 4 8 12 [] false (fun b2 _ b3 _ b4 _ => eU [fSl aN a0.Free, fSl aL a0.Nodes, fSl aK a0.Defs, aA .i64 a0.Main, fEq (.slice (some ⟨b2, 0, none⟩) y10.length y10.length), fEq (.slice (some ⟨b3, 0, none⟩) y11.length y11.length), fEq (.slice (some ⟨b4, 0, none⟩) y12.length y12.length)]) (fun b2 _ b3 _ b4 _ => [])) (φ := eU [fSl aN a0.Free, fSl aL a0.Nodes, fSl aK a0.Defs, aA .i64 a0.Main, fEq (.slice (some ⟨b2, 0, none⟩) y10.length y10.length), fEq (.slice (some ⟨b3, 0, none⟩) y11.length y11.length), fEq (.slice (some ⟨b4, 0, none⟩) y12.length y12.length)]) rfl (fun _ => rfl) trivial rfl (dM (ψs := [fSl aN a0.Free, fSl aL a0.Nodes, fSl aK a0.Defs, aA .i64 a0.Main, fEq (.slice (some ⟨b2, 0, none⟩) y10.length y10.length), fEq (.slice (some ⟨b3, 0, none⟩) y11.length y11.length), fEq (.slice (some ⟨b4, 0, none⟩) y12.length y12.length)]) rfl aFO rfl (aV.cons (has rfl) bQ (aV.cons (has rfl) (aT (aF trivial)) (aV.cons (has rfl) (aT (aF trivial)) (aV.cons (has rfl) (aT (aF trivial)) aV.nil)))) rfl) (fun _ => ?_)
 refine N_new (od := odN3 4 8 12 [4] true (fun b2 _ b3 _ b4 _ b5 _ => fEq (ptr b5)) (fun b2 _ b3 _ b4 _ b5 _ => [aC b5 151 [fSl aN a0.Free, fSl aL a0.Nodes, fSl aK a0.Defs, aA .i64 a0.Main, fEq (.slice (some ⟨b2, 0, none⟩) y10.length y10.length), fEq (.slice (some ⟨b3, 0, none⟩) y11.length y11.length), fEq (.slice (some ⟨b4, 0, none⟩) y12.length y12.length)]])) (p := 4) (f := fun b5 => ptr b5) (τ := fun b5 => aC b5 151 [fSl aN a0.Free, fSl aL a0.Nodes, fSl aK a0.Defs, aA .i64 a0.Main, fEq (.slice (some ⟨b2, 0, none⟩) y10.length y10.length), fEq (.slice (some ⟨b3, 0, none⟩) y11.length y11.length), fEq (.slice (some ⟨b4, 0, none⟩) y12.length y12.length)]) rfl (fun _ => rfl) (fun _ => rfl) trivial rfl rfl (cC rfl (has rfl) bQ) (fun b5 u4 => ?_)
 refine D1 14 b5 _ (fun b5 _ => fEq (.pointer (some ⟨b5, 0, none⟩))) rfl (tU rfl hh) (fun _ => ?_)
 refine Z1 ?_
 generalize hv_v1 : (Value.slice (some ⟨b2, 0, none⟩) _ _) = v1; clear hv_v1
 refine aP 1 rfl (fun hc_v1 => ?_)
 generalize hv_v2 : (Value.slice (some ⟨b3, 0, none⟩) _ _) = v2; clear hv_v2
 refine aP 2 rfl (fun hc_v2 => ?_)
 generalize hv_v3 : (Value.slice (some ⟨b4, 0, none⟩) _ _) = v3; clear hv_v3
 refine aP 3 rfl (fun hc_v3 => ?_)
 refine Z8 ?_
 refine dA ?_
 refine dA ?_
 refine dA ?_
 refine bM ?_
 refine tL (x := (⟨(⟨a0.Free, a0.Nodes, a0.Defs, a0.Main⟩ : ScopeProg), y10, y11, y12⟩ : Scope_looker)) ?_
 revert H; refine bs fun y13 h15 H => ?_
 rcases y13 with y13 | pv7 <;> dsimp only at H
 refine Tc (aA3 _ _ _ _ _ _ h15).s ?_
 refine uR (fun v4 v5 v6 => ?_)
 refine aP 1 rfl (fun hc_v4 => ?_)
 refine aP 2 rfl (fun hc_v5 => ?_)
 refine aP 3 rfl (fun hc_v6 => ?_)
 refine Z1 ?_
 revert H; refine bs fun o4 H Hr4 => ?_
 refine aW (ι := List Bool) (fun i => o4 = Sum.inl i) (fun i => [(5, fEq (.pointer (some ⟨b5, 0, none⟩)))]) (fun i => [aC b5 151 [fSl aN y13.p.Free, fSl aL y13.p.Nodes, fSl aK y13.p.Defs, aA .i64 y13.p.Main, fEq v4, fSl cE y13.met, fSl cE i], aC b1 26 [fSl aN a0.Free, fSl aL a0.Nodes, fSl aK a0.Defs, aA .i64 a0.Main], aE v4 3 (aB .i64) y13.sizes]) ?_ ?_
 refine Z5 ?_
 refine dX ?_
 refine cS (φ := fSl cE y13.met) (v := v5) [74] cP (by intro s hs; simp only [List.mem_cons, List.not_mem_nil, or_false] at hs; rcases hs with rfl <;> rfl) ?_
 refine gJ (φs' := [fSl aN y13.p.Free, fSl aL y13.p.Nodes, fSl aK y13.p.Defs, aA .i64 y13.p.Main, fEq v4, fSl cE y13.met, fEq v6]) (i := 5) rfl rfl ?_
 refine cT ?_
 revert H; refine bs fun y14 h16 H => ?_
 refine Tc (aCs _ _ _ _ h16) ?_
 refine Z2 ?_
 revert H; refine cs (fun c6 H => ?_) fun c6 H => ?_
 refine Z4 ?_
 refine dX ?_
 refine cS (φ := fSl cE y13.defs) (v := v6) [81] cP (by intro s hs; simp only [List.mem_cons, List.not_mem_nil, or_false] at hs; rcases hs with rfl <;> rfl) ?_
 refine gJ (φs' := [fSl aN y13.p.Free, fSl aL y13.p.Nodes, fSl aK y13.p.Defs, aA .i64 y13.p.Main, fEq v4, fSl cE y13.met, fSl cE y13.defs]) (i := 6) rfl rfl ?_
 refine cT ?_
 revert H; refine bs fun y15 h17 H => ?_
 refine Tc (aCs _ _ _ _ h17) ?_
 refine Z2 ?_
 revert H; refine bs fun y16 h18 H => ?_
 rcases y16 with y16 | pv8 <;> dsimp only at H
 refine Tc (bF _ _ h18).s ?_
 refine Z1 ?_
 refine aH [0, 2, 1] (by decide) ?_
 exact Tm (y13.defs) (ij H)
 refine Tp (bF _ _ h18).pan ?_
 refine Z1 ?_
 revert H; refine bs fun r10 H e10 => ?_
 cases e10; cases Hr4
 cases H
 exact cA
 refine Z7 ?_
 revert H; refine bs fun y17 h19 H => ?_
 rcases y17 with y17 | pv9 <;> dsimp only at H
 refine Tc (bF _ _ h19).s ?_
 refine Z1 ?_
 refine dX ?_
 refine cS (φ := fSl cE y13.defs) (v := v6) [] cP (fun _ h => nomatch h) ?_
 refine gJ (φs' := [fSl aN y13.p.Free, fSl aL y13.p.Nodes, fSl aK y13.p.Defs, aA .i64 y13.p.Main, fEq v4, fSl cE y13.met, fSl cE y13.defs]) (i := 6) rfl rfl ?_
 refine cT ?_
 refine aH [0, 2, 1] (by decide) ?_
 exact Tm (y13.defs) (ij H)
 refine Tp (bF _ _ h19).pan ?_
 refine Z1 ?_
 revert H; refine bs fun r11 H e11 => ?_
 cases e11; cases Hr4
 cases H
 exact cA
 clear H; intro x3 hi; subst o4; have H := Hr4; clear Hr4; try dsimp only at H
 try dsimp only
 refine Z5 ?_
 refine dX ?_
 refine cS (φ := fSl (aB .i64) y13.sizes) (v := v4) [] cP (fun _ h => nomatch h) ?_
 refine gJ (φs' := [fSl aN y13.p.Free, fSl aL y13.p.Nodes, fSl aK y13.p.Defs, aA .i64 y13.p.Main, fSl (aB .i64) y13.sizes, fSl cE y13.met, fSl cE x3]) (i := 4) rfl rfl ?_
 refine cT ?_
 refine cS (φ := aG iQ (⟨(⟨y13.p.Free, y13.p.Nodes, y13.p.Defs, y13.p.Main⟩ : ScopeProg), y13.sizes, y13.met, x3⟩ : Scope_looker)) (v := ptr b5) [5, 86, 2] (gI aO.rfl) (by intro s hs; simp only [List.mem_cons, List.not_mem_nil, or_false] at hs; rcases hs with rfl | rfl | rfl <;> rfl) ?_
 refine cT ?_
 cases H
 refine nZ ?_
 refine aH [] (by decide) ?_
 exact To
 refine Tp (aA3 _ _ _ _ _ _ h15).pan ?_
 refine Z1 ?_
 cases H
 exact cA
 exact fk
 kernel_rfl
def wQ (fuel : Nat) (a0 : ScopeProg) (a1 : Scope_looker → Option Bool) : Option (Bool × Int) :=
 (sN fuel (⟨a0.Free, a0.Nodes, a0.Defs, a0.Main⟩ : ScopeProg)).bind fun y1 =>
 match y1 with
 | Sum.inr pv1 => (unI 167 pv1).bind fun e1 => some (false, e1)
 | Sum.inl y1 =>
 (a1 y1).bind fun y2 =>
 some (y2, 0)
theorem aDX (fuel : Nat)  (a0 : ScopeProg) (a1 : Scope_looker → Option Bool) (r : Bool × Int) (H : wQ fuel a0 a1 = some r) : FnS Tryz.prog 76 [fSt cY a0, fFn Tryz.prog (fun (x : Scope_looker) => [aG iQ x]) (fun (r : Bool) => aJ r) a1] [] (cQ [aJ r.1, aA .i64 r.2]) (fun _ => []) := by
 unfold wQ at H
 refine qY Tryz.func76 rfl Tryz.ntmps76 rfl (fun β => ?_)
 refine Z1 ?_
 refine aQ trivial rfl rfl (cC rfl (has rfl) bQ) (fun b1 => ?_)
 refine Z1 ?_
 refine aQ trivial rfl rfl (cF rfl aB1 rfl) (fun b2 => ?_)
 refine Z2 ?_
 refine aCQ trivial rfl rfl (gO.cons (has rfl) gO.nil) ?_
 refine Z4 ?_
 revert H; refine bs fun y1 h1 H => ?_
 rcases y1 with y1 | pv1 <;> dsimp only at H
 refine Tc (vI _ _ _ h1).s ?_
 revert H; refine bs fun y2 h2 H => ?_
 refine yK y1 trivial rfl rfl rfl (has rfl) (aD.cons (has rfl) aD.nil) h2 ?_
 refine Z1 ?_
 refine dH (φs' := [aA .i64 0]) trivial rfl rfl (has rfl) (has rfl) (aF trivial) (sz rfl) rfl rfl ?_
 refine Z2 ?_
 cases H
 refine aH [0] (by decide) ?_
 exact aC7 (xF (u := .returning) (by simp) rfl (bJ rfl) rfl (sc rfl) (cb rfl) (aCH b2 0) rfl rfl)
 refine Tp (vI _ _ _ h1).pan ?_
 refine Z1 ?_
 have H0 := H; clear H; obtain ⟨e1, h3, H⟩ := bind_some H0; clear H0; have hv_e1 := aDA h3; subst hv_e1
 cases H
 refine aH [0] (by decide) ?_
 exact aDe (xF (u := .panicking [{ v := .iface 167 (.agg #[.int .i64 e1]), recovered := false }]) (by simp) rfl (bJ rfl) rfl (sc rfl) (cb rfl) (aBs b2 0 e1) rfl rfl)
def vX (a0 : Scope_looker) : Option (Bool) :=
 some true
theorem aFd  (a0 : Scope_looker) (r : Bool) (H : vX a0 = some r) : FnS Tryz.prog 77 [aG iQ a0] [] (aJ r) (fun _ => []) := by
 unfold vX at H
 refine bI Tryz.func77 rfl Tryz.ntmps77 rfl (fun β => ?_)
 refine Z7 ?_
 cases H
 exact To
def pP (fuel : Nat) (a0 : ScopeProg) : Option (Int) :=
 (wQ fuel (⟨a0.Free, a0.Nodes, a0.Defs, a0.Main⟩ : ScopeProg) (fun x => vX x)).bind fun y1 =>
 some y1.2
theorem zS (fuel : Nat)  (a0 : ScopeProg) (r : Int) (H : pP fuel a0 = some r) : FnS Tryz.prog 35 [fSt cY a0] [] (aA .i64 r) (fun _ => []) := by
 unfold pP at H
 refine bI Tryz.func35 rfl Tryz.ntmps35 rfl (fun β => ?_)
 refine Z1 ?_
 refine aQ trivial rfl rfl (cC rfl (has rfl) bQ) (fun b1 => ?_)
 refine Z4 ?_
 revert H; refine bs fun y1 h1 H => ?_
 refine iH trivial rfl rfl rfl (has rfl) (aD.cons (has rfl) (aD.cons (dJ rfl (pG (cb rfl) (fun x r hx => aFd x r hx))) aD.nil)) rfl (cb rfl) (aDX fuel (⟨a0.Free, a0.Nodes, a0.Defs, a0.Main⟩ : ScopeProg) (fun x => vX x) y1 h1) rfl ?_
 refine Z11 ?_
 cases H
 refine aH [] (by decide) ?_
 exact To
def xB (fuel : Nat) (a0 : ScopeProg) (a1 : Scope_looker → Option (List Int)) : Option ((List Int) × Int) :=
 (sN fuel (⟨a0.Free, a0.Nodes, a0.Defs, a0.Main⟩ : ScopeProg)).bind fun y1 =>
 match y1 with
 | Sum.inr pv1 => (unI 167 pv1).bind fun e1 => some ([], e1)
 | Sum.inl y1 =>
 (a1 y1).bind fun y2 =>
 some (y2, 0)
theorem aFK (fuel : Nat)  (a0 : ScopeProg) (a1 : Scope_looker → Option (List Int)) (r : (List Int) × Int) (H : xB fuel a0 a1 = some r) : FnS Tryz.prog 112 [fSt cY a0, fFn Tryz.prog (fun (x : Scope_looker) => [aG iQ x]) (fun (r : List Int) => fSl (aB .i64) r) a1] [] (cQ [fSl (aB .i64) r.1, aA .i64 r.2]) (fun _ => []) := by
 unfold xB at H
 refine qY Tryz.func112 rfl Tryz.ntmps112 rfl (fun β => ?_)
 refine Z1 ?_
 refine aQ trivial rfl rfl (cC rfl (has rfl) bQ) (fun b1 => ?_)
 refine Z1 ?_
 refine aQ trivial rfl rfl (cF rfl aB1 rfl) (fun b2 => ?_)
 refine Z2 ?_
 refine aCQ trivial rfl rfl (gO.cons (has rfl) gO.nil) ?_
 refine Z4 ?_
 revert H; refine bs fun y1 h1 H => ?_
 rcases y1 with y1 | pv1 <;> dsimp only at H
 refine Tc (vI _ _ _ h1).s ?_
 revert H; refine bs fun y2 h2 H => ?_
 refine yK y1 trivial rfl rfl rfl (has rfl) (aD.cons (has rfl) aD.nil) h2 ?_
 refine Z1 ?_
 refine dH (φs' := [aA .i64 0]) trivial rfl rfl (has rfl) (has rfl) (aF trivial) (sz rfl) rfl rfl ?_
 refine Z2 ?_
 cases H
 refine aH [0] (by decide) ?_
 exact aC7 (xF (u := .returning) (by simp) rfl (bJ rfl) rfl (sc rfl) (cb rfl) (aCH b2 0) rfl rfl)
 refine Tp (vI _ _ _ h1).pan ?_
 refine Z1 ?_
 have H0 := H; clear H; obtain ⟨e1, h3, H⟩ := bind_some H0; clear H0; have hv_e1 := aDA h3; subst hv_e1
 cases H
 refine aH [0] (by decide) ?_
 exact aDe (xF (u := .panicking [{ v := .iface 167 (.agg #[.int .i64 e1]), recovered := false }]) (by simp) rfl (jE rfl eB) rfl (sc rfl) (cb rfl) (aBs b2 0 e1) rfl rfl)
def lU (a0 : Scope_looker) (w0 : ScopeProg) (w1 : Scope_looker × Int → Option Int) : Nat → (List Int) → Int → Option (List Int)
| 0, _, _ => none
| k + 1, x4, x5 =>
 if x5 < (w0.Nodes.length : Int) then
  (w1 (a0, x5)).bind fun y1 =>
  (eW (x4 ++ [y1])).bind fun z1 =>
  (chk (x5 + 1)).bind fun z2 =>
  lU a0 w0 w1 k z1 z2
 else
  some x4
def tN (fuel : Nat) (a0 : Scope_looker) (w0 : ScopeProg) (w1 : Scope_looker × Int → Option Int) : Option (List Int) :=
 (lU a0 w0 w1 fuel [] 0).bind fun x1 =>
 some x1
theorem aE6 (fuel : Nat)  (a0 : Scope_looker) (w0 : ScopeProg) (w1 : Scope_looker × Int → Option Int) (r : List Int) (H : tN fuel a0 w0 w1 = some r) : FnS Tryz.prog 113 [aG iQ a0, aG cY w0, aG (tFn Tryz.prog (fun (x : Scope_looker × Int) => [aG iQ x.1, aA .i64 x.2]) (fun (r : Int) => aA .i64 r)) w1] [] (fSl (aB .i64) r) (fun _ => []) := by
 unfold tN at H
 refine bI Tryz.func113 rfl Tryz.ntmps113 rfl (fun β => ?_)
 refine Z6 ?_
 revert H; refine bs fun o1 H Hr1 => ?_
 refine aW (ι := List Int × Value) (fun i => o1 = i.1) (fun i => [(5, fEq i.2)]) (fun i => [aE i.2 3 (aB .i64) i.1]) ?_ ?_
 refine Z7 ?_
 refine oJ (aB .i64) 3 ?_
 refine Tl (ι := Nat × List Int × Int × Value) (fun i => lU a0 w0 w1 i.1 i.2.1 i.2.2.1 = _) (fun i => i.1) (fun i => [(0, aG iQ a0), (2, aG (tFn Tryz.prog (fun (x : Scope_looker × Int) => [aG iQ x.1, aA .i64 x.2]) (fun (r : Int) => aA .i64 r)) w1), (5, fEq i.2.2.2), (9, aA .i64 (w0.Nodes.length : Int)), (10, aA .i64 i.2.2.1)]) (fun i => [aE i.2.2.2 3 (aB .i64) i.2.1]) (fuel, [], 0, (.slice none 0 0)) H ?_
 clear H; rintro ⟨k1, x4, x5, v3⟩ H
 replace H : lU a0 w0 w1 k1 x4 x5 = _ := H
 try dsimp only
 obtain _ | k1 := k1
 rw [lU] at H; cases H
 rw [lU] at H
 refine aP 0 rfl (fun hc_v3 => ?_)
 refine Z3 ?_
 refine aI ?_
 revert H; refine is (fun c1 H => ?_) fun c1 H => ?_
 refine Z3 ?_
 refine aI ?_
 refine Z10 ?_
 revert H; refine bs fun y1 h1 H => ?_
 refine yK (a0, x5) trivial rfl rfl rfl (has rfl) (aD.cons (has rfl) (aD.cons (has rfl) aD.nil)) h1 ?_
 refine aQ trivial rfl rfl (cM (t := (aB .i64)) (xs := [y1]) rfl (et rfl) (aR.cons rfl (has rfl) (aT (aF trivial)) aR.nil) rfl rfl rfl) (fun b1 => ?_)
 generalize hv_v4 : (Value.slice (some ⟨b1, 0, none⟩) _ _) = v4; clear hv_v4
 refine aP 0 rfl (fun hc_v4 => ?_)
 revert H; refine bs fun z1 h2 H => ?_
 refine pE trivial rfl rfl rfl (has rfl) (has rfl) (et rfl) rfl h2 (fun v5 => ?_)
 refine aP 0 rfl (fun hc_v5 => ?_)
 refine Z5 ?_
 revert H; refine bs fun z2 h3 H => ?_
 refine Z3 ?_
 exact Tm ((k1, z1, z2, v5)) ⟨H, ls⟩
 refine Z6 ?_
 exact Tm ((x4, v3)) (ij H)
 clear H; intro i hi; obtain ⟨x1, v1⟩ := i; subst o1; have H := Hr1; clear Hr1; try dsimp only at H
 try dsimp only
 refine aP 0 rfl (fun hc_v1 => ?_)
 refine Z5 ?_
 refine cS (φ := fSl (aB .i64) x1) (v := v1) [5, 21, 4] cP (by intro s hs; simp only [List.mem_cons, List.not_mem_nil, or_false] at hs; rcases hs with rfl | rfl | rfl <;> rfl) ?_
 refine cT ?_
 cases H
 exact To
def uZ (fuel : Nat) (a0 : ScopeProg) (a1 : Scope_looker × Int → Option Int) : Option ((List Int) × Int) :=
 (xB fuel (⟨a0.Free, a0.Nodes, a0.Defs, a0.Main⟩ : ScopeProg) (fun x => tN fuel x (⟨a0.Free, a0.Nodes, a0.Defs, a0.Main⟩ : ScopeProg) a1)).bind fun y1 =>
 some (y1.1, y1.2)
theorem aGh (fuel : Nat)  (a0 : ScopeProg) (a1 : Scope_looker × Int → Option Int) (r : (List Int) × Int) (H : uZ fuel a0 a1 = some r) : FnS Tryz.prog 97 [fSt cY a0, fFn Tryz.prog (fun (x : Scope_looker × Int) => [aG iQ x.1, aA .i64 x.2]) (fun (r : Int) => aA .i64 r) a1] [] (cQ [fSl (aB .i64) r.1, aA .i64 r.2]) (fun _ => []) := by
 unfold uZ at H
 refine bI Tryz.func97 rfl Tryz.ntmps97 rfl (fun β => ?_)
 refine Z1 ?_
 refine aQ trivial rfl rfl (cC rfl (has rfl) bQ) (fun b1 => ?_)
 refine aQ trivial rfl rfl (cC rfl (has rfl) (aT (yE))) (fun b2 => ?_)
 refine Z5 ?_
 refine cZ ?_
 refine cS (φ := aG cY (⟨a0.Free, a0.Nodes, a0.Defs, a0.Main⟩ : ScopeProg)) (v := ptr b1) [2] (gI aO.rfl) (by intro s hs; simp only [List.mem_cons, List.not_mem_nil, or_false] at hs; rcases hs with rfl <;> rfl) ?_
 refine cT ?_
 refine cS (φ := aG (tFn Tryz.prog (fun (x : Scope_looker × Int) => [aG iQ x.1, aA .i64 x.2]) (fun (r : Int) => aA .i64 r)) a1) (v := ptr b2) [3] (gI aO.rfl) (by intro s hs; simp only [List.mem_cons, List.not_mem_nil, or_false] at hs; rcases hs with rfl <;> rfl) ?_
 refine cT ?_
 refine Yy (pW rfl (aD.cons hh (aD.cons hh aD.nil))) ?_
 revert H; refine bs fun y1 h1 H => ?_
 refine iH trivial rfl rfl rfl (has rfl) (aD.cons (has rfl) (aD.cons (dJ rfl (ent_fn (cb rfl) (fun x r hx => aE6 fuel x (⟨a0.Free, a0.Nodes, a0.Defs, a0.Main⟩ : ScopeProg) a1 r hx))) aD.nil)) rfl (cb rfl) (aFK fuel (⟨a0.Free, a0.Nodes, a0.Defs, a0.Main⟩ : ScopeProg) (fun x => tN fuel x (⟨a0.Free, a0.Nodes, a0.Defs, a0.Main⟩ : ScopeProg) a1) y1 h1) rfl ?_
 refine Z6 ?_
 cases H
 exact dY rfl (bJ rfl) (bJ rfl) rfl
def oO (a0 : Scope_looker) (a1 : Int) : Option (Int) :=
 (idx a0.sizes a1).bind fun y1 =>
 some y1
theorem aD2  (a0 : Scope_looker) (a1 : Int) (r : Int) (H : oO a0 a1 = some r) : FnS Tryz.prog 98 [aG iQ a0, aA .i64 a1] [] (aA .i64 r) (fun _ => []) := by
 unfold oO at H
 refine bI Tryz.func98 rfl Tryz.ntmps98 rfl (fun β => ?_)
 refine Z9 ?_
 revert H; refine bs fun y1 h1 H => ?_
 refine Z5 ?_
 cases H
 exact To
def qH (fuel : Nat) (a0 : ScopeProg) : Option ((List Int) × Int) :=
 (uZ fuel (⟨a0.Free, a0.Nodes, a0.Defs, a0.Main⟩ : ScopeProg) (fun x => oO x.1 x.2)).bind fun y1 =>
 some (y1.1, y1.2)
theorem aE9 (fuel : Nat)  (a0 : ScopeProg) (r : (List Int) × Int) (H : qH fuel a0 = some r) : FnS Tryz.prog 78 [fSt cY a0] [] (cQ [fSl (aB .i64) r.1, aA .i64 r.2]) (fun _ => []) := by
 unfold qH at H
 refine bI Tryz.func78 rfl Tryz.ntmps78 rfl (fun β => ?_)
 refine Z1 ?_
 refine aQ trivial rfl rfl (cC rfl (has rfl) bQ) (fun b1 => ?_)
 refine Z5 ?_
 revert H; refine bs fun y1 h1 H => ?_
 refine iH trivial rfl rfl rfl (has rfl) (aD.cons (has rfl) (aD.cons (dJ rfl (pG (cb rfl) (fun x r hx => aD2 x.1 x.2 r hx))) aD.nil)) rfl (cb rfl) (aGh fuel (⟨a0.Free, a0.Nodes, a0.Defs, a0.Main⟩ : ScopeProg) (fun x => oO x.1 x.2) y1 h1) rfl ?_
 refine Z6 ?_
 cases H
 refine aH [] (by decide) ?_
 exact dY rfl (bJ rfl) (bJ rfl) rfl
def mU {σ : Type} (Y : Int → σ → Option σ) (y1 : ScopeDef) : Nat → Int → σ → Option (σ)
| 0, _, _ => none
| k + 1, x3, x4 =>
 if x3 < (y1.Spots.length : Int) then
  (idx y1.Spots x3).bind fun y2 =>
  (Y y2.Node x4).bind fun y3 =>
  (chk (x3 + 1)).bind fun z1 =>
  mU Y y1 k z1 y3
 else
  some x4
def pU {σ : Type} (fuel : Nat) (Y : Int → σ → Option σ) (s0 : σ) (w0 : Usage_text) (w1 : Int) : Option (σ) :=
 (idx w0.ScopeProg.Defs w1).bind fun y1 =>
 mU Y y1 fuel 0 s0
theorem yS (fuel : Nat) {σ : Type} (J : σ → Tk) (Y : Int → σ → Option σ) (s0 : σ) (w0 : Usage_text) (w1 : Int) (r : σ) (H : pU fuel Y s0 w0 w1 = some r) : FnS Tryz.prog 101 [iC Tryz.prog (fun (x : Int) => [aA .i64 x]) Y J, aG (fA eA) w0, aG (aB .i64) w1] [J s0] (cQ []) (fun _ => [J r]) := by
 unfold pU at H
 refine bI Tryz.func101 rfl Tryz.ntmps101 rfl (fun β => ?_)
 refine aI ?_
 revert H; refine bs fun y1 h1 H => ?_
 apply bB (ods := [_, _, _, _, _, _, _, _, _, _, _]) 11 0 1 bC rfl rfl rfl
 dsimp only [aY, List.take, List.replicate, List.append, List.drop]
 refine M8 ?_
 intros
 refine M3 ?_
 intros
 refine Z3 ?_
 refine Tl (ι := Nat × Int × σ) (fun i => mU Y y1 i.1 i.2.1 i.2.2 = _) (fun i => i.1) (fun i => [(0, iC Tryz.prog (fun (x : Int) => [aA .i64 x]) Y J), (14, fSl bN y1.Spots), (15, aA .i64 (y1.Spots.length : Int)), (16, aA .i64 i.2.1)]) (fun i => [J i.2.2]) (fuel, 0, s0) H ?_
 clear H; rintro ⟨k1, x3, x4⟩ H
 replace H : mU Y y1 k1 x3 x4 = _ := H
 try dsimp only
 obtain _ | k1 := k1
 rw [mU] at H; cases H
 rw [mU] at H
 refine Z3 ?_
 refine aI ?_
 revert H; refine is (fun c1 H => ?_) fun c1 H => ?_
 refine Z3 ?_
 refine aI ?_
 refine Z2 ?_
 revert H; refine bs fun y2 h2 H => ?_
 refine Z2 ?_
 refine aQ trivial rfl rfl (cF rfl aAL rfl) (fun b1 => ?_)
 refine dB (φs' := [aA .i64 y2.In, aA .i64 y2.Node]) trivial rfl rfl (has rfl) (has rfl) (aM (aF trivial) (aM (aF trivial) bS)) (sz rfl) rfl rfl rfl ?_
 refine Z5 ?_
 refine cZ ?_
 revert H; refine bs fun y3 h3 H => ?_
 refine wC y2.Node trivial rfl rfl rfl (has rfl) (aD.cons (has rfl) aD.nil) h3 ?_
 refine Z7 ?_
 revert H; refine bs fun z1 h4 H => ?_
 refine Z3 ?_
 refine aH [0] (by decide) ?_
 exact Tm ((k1, z1, y3)) ⟨H, ls⟩
 refine Z5 ?_
 cases H
 exact eR (.inr rfl) rfl rfl
 exact fk
 kernel_rfl
def oA (a0 : Usage_text) (a1 : Int) : Option (Usage_text × Int) :=
 some (a0, a1)
theorem yM  (a0 : Usage_text) (a1 : Int) (r : Usage_text × Int) (H : oA a0 a1 = some r) : FnS Tryz.prog 83 [aG eA a0, aA .i64 a1] [] (dD 101 [aG (fA eA) r.1, aG (aB .i64) r.2]) (fun _ => []) := by
 unfold oA at H
 refine bI Tryz.func83 rfl Tryz.ntmps83 rfl (fun β => ?_)
 refine Z1 ?_
 refine aQ trivial rfl rfl (cC rfl (has rfl) (aT (qD))) (fun b1 => ?_)
 refine aQ trivial rfl rfl (cC rfl (has rfl) (aT (aF trivial))) (fun b2 => ?_)
 refine Z3 ?_
 refine cZ ?_
 refine cS (φ := aG (fA eA) a0) (v := ptr b1) [2] (gI aO.rfl) (by intro s hs; simp only [List.mem_cons, List.not_mem_nil, or_false] at hs; rcases hs with rfl <;> rfl) ?_
 refine cT ?_
 refine cS (φ := aG (aB .i64) a1) (v := ptr b2) [3] (gI aO.rfl) (by intro s hs; simp only [List.mem_cons, List.not_mem_nil, or_false] at hs; rcases hs with rfl <;> rfl) ?_
 refine cT ?_
 refine Yy (pW rfl (aD.cons hh (aD.cons hh aD.nil))) ?_
 refine Z3 ?_
 cases H
 exact To
def lM {σ : Type} (Y : Int → σ → Option σ) (y1 : ScopeNode) : Nat → Int → σ → Option (σ)
| 0, _, _ => none
| k + 1, x4, x5 =>
 if x4 < (y1.Kids.length : Int) then
  (idx y1.Kids x4).bind fun y2 =>
  (Y y2 x5).bind fun y3 =>
  (chk (x4 + 1)).bind fun z1 =>
  lM Y y1 k z1 y3
 else
  some x5
def rP {σ : Type} (Y : Int → σ → Option σ) (x6 : Int) (x8 : σ) : Option (σ) :=
 (Y x6 x8).bind fun y6 =>
 some y6
def mH {σ : Type} (Y : Int → σ → Option σ) (y7 : ScopeDef) : Nat → Int → σ → Option (σ)
| 0, _, _ => none
| k + 1, x12, x13 =>
 if x12 < (y7.Rules.length : Int) then
  (idx y7.Rules x12).bind fun y8 =>
  (Y y8.Node x13).bind fun y9 =>
  (chk (x12 + 1)).bind fun z2 =>
  mH Y y7 k z2 y9
 else
  some x13
def uU {σ : Type} (fuel : Nat) (Y : Int → σ → Option σ) (s0 : σ) (w0 : Usage_text) (w1 : Int) : Option (σ) :=
 (idx w0.ScopeProg.Nodes w1).bind fun y1 =>
 (lM Y y1 fuel 0 s0).bind fun x1 =>
 if y1.Op ≠ 4 then
  some x1
 else
  (oA w0 y1.N).bind fun y4 =>
  (pU fuel (fun (x : Int) (t : σ) => rP Y x t) x1 y4.1 y4.2).bind fun y5 =>
  (idx w0.ScopeProg.Defs y1.N).bind fun y7 =>
  mH Y y7 fuel 0 y5
theorem aFG (fuel : Nat) {σ : Type} (J : σ → Tk) (Y : Int → σ → Option σ) (s0 : σ) (w0 : Usage_text) (w1 : Int) (r : σ) (H : uU fuel Y s0 w0 w1 = some r) : FnS Tryz.prog 114 [iC Tryz.prog (fun (x : Int) => [aA .i64 x]) Y J, aG (fA eA) w0, aG (aB .i64) w1] [J s0] (cQ []) (fun _ => [J r]) := by
 unfold uU at H
 refine qY Tryz.func114 rfl Tryz.ntmps114 rfl (fun β => ?_)
 refine Z1 ?_
 refine aQ trivial rfl rfl (cC rfl (has rfl) (aT (aEV))) (fun b1 => ?_)
 refine Z1 ?_
 refine aI ?_
 revert H; refine bs fun y1 h1 H => ?_
 apply bB (ods := [_, _, _, _, _, _, _, _, _, _]) 10 1 3 bC rfl rfl rfl
 dsimp only [aY, List.take, List.replicate, List.append, List.drop]
 refine M8 ?_
 intros
 refine Mn 2 (fun b2 => ptr b2) (fun b2 => aC b2 51 [aA .i64 0, aA .i64 0, fEq (.slice none 0 0), fEq (.slice none 0 0)]) rfl (cF rfl hO rfl) (fun b2 u1 => ?_)
 refine mA (od := od1 8 [2] true (fun b2 _ => fAny) (fun b2 _ => [aC b2 51 [aA .i64 y1.Op, aA .i64 y1.N, fSl aU y1.Args, fSl (aB .i64) y1.Kids]])) (p := 2) (φs' := [aA .i64 y1.Op, aA .i64 y1.N, fSl aU y1.Args, fSl (aB .i64) y1.Kids]) rfl (fun _ => rfl) (fun _ => rfl) trivial rfl rfl rfl (has rfl) (has rfl) (aM (aF trivial) (aM (aF trivial) (aM (bA) (aM (bA) bS)))) (sz rfl) rfl rfl rfl (fun _ => ?_)
 refine Z2 ?_
 revert H; refine bs fun o1 H Hr1 => ?_
 refine aW (ι := σ) (fun i => o1 = i) (fun i => [(1, aG (fA eA) w0), (3, fEq (.pointer (some ⟨b1, 0, none⟩))), (4, fEq (.pointer (some ⟨b2, 0, none⟩)))]) (fun i => [aC b1 158 [iC Tryz.prog (fun (x : Int) => [aA .i64 x]) Y J], aC b2 51 [aA .i64 y1.Op, aA .i64 y1.N, fSl aU y1.Args, fSl (aB .i64) y1.Kids], J i]) ?_ ?_
 refine Z7 ?_
 refine aH [0, 2, 1] (by decide) ?_
 refine Tl (ι := Nat × Int × σ) (fun i => lM Y y1 i.1 i.2.1 i.2.2 = _) (fun i => i.1) (fun i => [(1, aG (fA eA) w0), (3, fEq (.pointer (some ⟨b1, 0, none⟩))), (4, fEq (.pointer (some ⟨b2, 0, none⟩))), (19, fSl (aB .i64) y1.Kids), (20, aA .i64 (y1.Kids.length : Int)), (21, aA .i64 i.2.1)]) (fun i => [aC b1 158 [iC Tryz.prog (fun (x : Int) => [aA .i64 x]) Y J], aC b2 51 [aA .i64 y1.Op, aA .i64 y1.N, fSl aU y1.Args, fSl (aB .i64) y1.Kids], J i.2.2]) (fuel, 0, s0) H ?_
 clear H; rintro ⟨k1, x4, x5⟩ H
 replace H : lM Y y1 k1 x4 x5 = _ := H
 try dsimp only
 obtain _ | k1 := k1
 rw [lM] at H; cases H
 rw [lM] at H
 refine Z3 ?_
 refine aI ?_
 revert H; refine is (fun c1 H => ?_) fun c1 H => ?_
 refine Z3 ?_
 refine aI ?_
 refine Z2 ?_
 revert H; refine bs fun y2 h2 H => ?_
 refine Z7 ?_
 refine dX ?_
 revert H; refine bs fun y3 h3 H => ?_
 refine wC y2 trivial rfl rfl rfl (has rfl) (aD.cons (has rfl) aD.nil) h3 ?_
 refine Z7 ?_
 revert H; refine bs fun z1 h4 H => ?_
 refine Z3 ?_
 refine aH [1, 2, 0] (by decide) ?_
 exact Tm ((k1, z1, y3)) ⟨H, ls⟩
 refine Z6 ?_
 exact Tm (x5) (ij H)
 clear H; intro x1 hi; subst o1; have H := Hr1; clear Hr1; try dsimp only at H
 try dsimp only
 refine aI ?_
 refine Z5 ?_
 revert H; refine is (fun c2 H => ?_) fun c2 H => ?_
 refine Z2 ?_
 cases H
 refine aH [2] (by decide) ?_
 exact aAN [] (.inl rfl) rfl rfl rfl
 refine Z3 ?_
 refine aI ?_
 refine Z4 ?_
 revert H; refine bs fun y4 h5 H => ?_
 refine Tc (yM _ _ _ h5) ?_
 refine Z2 ?_
 refine T_sub [(1, aG (fA eA) w0), (3, fEq (.pointer (some ⟨b1, 0, none⟩))), (4, fEq (.pointer (some ⟨b2, 0, none⟩))), (30, fEq (.pointer (some ⟨b2, 0, none⟩))), (31, aA .i64 y1.Op), (32, aJ (decide (y1.Op ≠ 4))), (33, aG eA w0), (34, fEq (.pointer (some ⟨b2, 1, none⟩))), (35, aA .i64 y1.N), (36, dD 101 [aG (fA eA) y4.1, aG (aB .i64) y4.2])] (Sc (Sc (Sc (Sc (Sc (Sc (Sc (Sc (Sc (Sc fJ.nil)))))))))) ?_
 revert H; refine bs fun y5 h6 H => ?_
 refine xS (s := x1) (s' := y5) (fun (x : Int) => [aA .i64 x]) (fun (x : Int) (t : σ) => rP Y x t) (fun (t : σ) => [aC b1 158 [iC Tryz.prog (fun (x : Int) => [aA .i64 x]) Y J], aC b2 51 [aA .i64 y1.Op, aA .i64 y1.N, fSl aU y1.Args, fSl (aB .i64) y1.Kids], J t]) (has rfl) (cb rfl) rfl (fun _ => rfl) rfl (fun J => yS fuel J (fun (x : Int) (t : σ) => rP Y x t) x1 y4.1 y4.2 y5 h6) (fun β' l rec x6 t t' hs hp hY => ?_) (fun rb => ?_)
 generalize t = x8 at *
 have H : rP Y x6 x8 = some t' := hY; clear hY; unfold rP at H; try dsimp only at H
 show T β' _ _ (pJ [37] ((fun (x : Int) => [aA .i64 x]) x6) [(1, aG (fA eA) w0), (3, fEq (.pointer (some ⟨b1, 0, none⟩))), (4, fEq (.pointer (some ⟨b2, 0, none⟩))), (30, fEq (.pointer (some ⟨b2, 0, none⟩))), (31, aA .i64 y1.Op), (32, aJ (decide (y1.Op ≠ 4))), (33, aG eA w0), (34, fEq (.pointer (some ⟨b2, 1, none⟩))), (35, aA .i64 y1.N), (36, dD 101 [aG (fA eA) y4.1, aG (aB .i64) y4.2])]) (tObj l (.loop rec) :: [aC b1 158 [iC Tryz.prog (fun (x : Int) => [aA .i64 x]) Y J], aC b2 51 [aA .i64 y1.Op, aA .i64 y1.N, fSl aU y1.Args, fSl (aB .i64) y1.Kids], J x8]) _
 refine Z3 ?_
 refine xW hs ?_
 refine Z4 ?_
 refine dA ?_
 revert H; refine bs fun y6 h7 H => ?_
 refine wC x6 trivial rfl rfl rfl (has rfl) (aD.cons (has rfl) aD.nil) h7 ?_
 refine Z5 ?_
 refine aH [2, 3, 0, 1] (by decide) ?_
 cases H
 refine aH [3, 0, 1, 2] (by decide) ?_
 exact vM hs hp rfl
 generalize rb = rb1
 show T β _ _ [(1, aG (fA eA) w0), (3, fEq (.pointer (some ⟨b1, 0, none⟩))), (4, fEq (.pointer (some ⟨b2, 0, none⟩))), (30, fEq (.pointer (some ⟨b2, 0, none⟩))), (31, aA .i64 y1.Op), (32, aJ (decide (y1.Op ≠ 4))), (33, aG eA w0), (34, fEq (.pointer (some ⟨b2, 1, none⟩))), (35, aA .i64 y1.N), (36, dD 101 [aG (fA eA) y4.1, aG (aB .i64) y4.2])] ([iN rb1] ++ [aC b1 158 [iC Tryz.prog (fun (x : Int) => [aA .i64 x]) Y J], aC b2 51 [aA .i64 y1.Op, aA .i64 y1.N, fSl aU y1.Args, fSl (aB .i64) y1.Kids], J y5]) _
 dsimp only [List.append, List.cons_append, List.nil_append]
 refine Z2 ?_
 refine aI ?_
 revert H; refine bs fun y7 h8 H => ?_
 apply bB (ods := [_, _, _, _, _, _, _, _, _, _, _, _]) 12 0 4 bC rfl rfl rfl
 dsimp only [aY, List.take, List.replicate, List.append, List.drop]
 refine M8 ?_
 intros
 refine M4 ?_
 intros
 refine Z3 ?_
 refine aH [1, 2, 0, 3] (by decide) ?_
 refine Tl (ι := Nat × Int × σ) (fun i => mH Y y7 i.1 i.2.1 i.2.2 = _) (fun i => i.1) (fun i => [(3, fEq (.pointer (some ⟨b1, 0, none⟩))), (51, fSl bD y7.Rules), (52, aA .i64 (y7.Rules.length : Int)), (53, aA .i64 i.2.1)]) (fun i => [aC b1 158 [iC Tryz.prog (fun (x : Int) => [aA .i64 x]) Y J], aC b2 51 [aA .i64 y1.Op, aA .i64 y1.N, fSl aU y1.Args, fSl (aB .i64) y1.Kids], iN rb1, J i.2.2]) (fuel, 0, y5) H ?_
 clear H; rintro ⟨k2, x12, x13⟩ H
 replace H : mH Y y7 k2 x12 x13 = _ := H
 try dsimp only
 obtain _ | k2 := k2
 rw [mH] at H; cases H
 rw [mH] at H
 refine Z3 ?_
 refine aI ?_
 revert H; refine is (fun c3 H => ?_) fun c3 H => ?_
 refine Z3 ?_
 refine aI ?_
 refine Z2 ?_
 revert H; refine bs fun y8 h9 H => ?_
 refine Z2 ?_
 refine aQ trivial rfl rfl (cF rfl rU rfl) (fun b3 => ?_)
 refine dB (φs' := [aA .i64 y8.At, fSl (aB .i64) y8.Joins, aA .i64 y8.Node]) trivial rfl rfl (has rfl) (has rfl) (aM (aF trivial) (aM (bA) (aM (aF trivial) bS))) (sz rfl) rfl rfl rfl ?_
 refine Z5 ?_
 refine bM ?_
 revert H; refine bs fun y9 h10 H => ?_
 refine wC y8.Node trivial rfl rfl rfl (has rfl) (aD.cons (has rfl) aD.nil) h10 ?_
 refine Z7 ?_
 revert H; refine bs fun z2 h11 H => ?_
 refine Z3 ?_
 refine aH [2, 3, 4, 0] (by decide) ?_
 exact Tm ((k2, z2, y9)) ⟨H, ls⟩
 refine Z5 ?_
 cases H
 refine aH [2, 3] (by decide) ?_
 exact aAN [rb1] (.inr rfl) rfl rfl rfl
 exact fk
 kernel_rfl
 exact fk
 kernel_rfl
def wR (a0 : Usage_text) (a1 : Int) : Option (Usage_text × Int) :=
 some (a0, a1)
theorem aDM  (a0 : Usage_text) (a1 : Int) (r : Usage_text × Int) (H : wR a0 a1 = some r) : FnS Tryz.prog 99 [aG eA a0, aA .i64 a1] [] (dD 114 [aG (fA eA) r.1, aG (aB .i64) r.2]) (fun _ => []) := by
 unfold wR at H
 refine bI Tryz.func99 rfl Tryz.ntmps99 rfl (fun β => ?_)
 refine Z1 ?_
 refine aQ trivial rfl rfl (cC rfl (has rfl) (aT (qD))) (fun b1 => ?_)
 refine aQ trivial rfl rfl (cC rfl (has rfl) (aT (aF trivial))) (fun b2 => ?_)
 refine Z3 ?_
 refine cZ ?_
 refine cS (φ := aG (fA eA) a0) (v := ptr b1) [2] (gI aO.rfl) (by intro s hs; simp only [List.mem_cons, List.not_mem_nil, or_false] at hs; rcases hs with rfl <;> rfl) ?_
 refine cT ?_
 refine cS (φ := aG (aB .i64) a1) (v := ptr b2) [3] (gI aO.rfl) (by intro s hs; simp only [List.mem_cons, List.not_mem_nil, or_false] at hs; rcases hs with rfl <;> rfl) ?_
 refine cT ?_
 refine Yy (pW rfl (aD.cons hh (aD.cons hh aD.nil))) ?_
 refine Z3 ?_
 cases H
 exact To
end Go.Proofs.YtmnbfgeljmhekaaGreat
set_option maxRecDepth 100000
set_option maxHeartbeats 2000000
namespace Go.Proofs.YtmnbfgeljmhekaaGreat
open Go.SX Go.SW Go.Dt
attribute [local irreducible] Code.wpIn wpListIn Exit.then Exit.inBlock
def kC (a0 : Usage_text) (a1 : Int) (y2 : ScopeNode) (y5 : ScopeDef) : Nat → Int → (aS Int Usage_channel) → Option (aS Int Usage_channel)
| 0, _, _ => none
| k + 1, x7, x8 =>
 if x7 < (y5.Chans.length : Int) then
  (idx a0.sizes a1).bind fun y6 =>
  (chk (y6 + x7)).bind fun z1 =>
  (chk (x7 + 1)).bind fun z2 =>
  kC a0 a1 y2 y5 k z2 (aS.upd x8 z1 (⟨y2.N, x7⟩ : Usage_channel))
 else
  some x8
def oP (rec_usage_text_fill : Usage_text → Int → (aS Int Usage_channel) → Option (List (aS Int Usage_channel) × List Int)) (a0 : Usage_text) (x1 : aS Int Usage_channel) (x9 : Int) (x12 : List (aS Int Usage_channel)) (x13 : List Int) : Option (List (aS Int Usage_channel) × List Int) :=
 (rec_usage_text_fill ({ a0 with denotes := x12, heads := x13 }) x9 x1).bind fun y9 =>
 some (y9.1, y9.2)
def jB : Nat → Usage_text → Int → (aS Int Usage_channel) → Option (List (aS Int Usage_channel) × List Int)
| 0, _, _, _ => none
| fuel + 1, a0, a1, a2 =>
 (idx a0.denotes a1).bind fun y1 =>
 (idx a0.ScopeProg.Nodes a1).bind fun y2 =>
 (if y2.Op = 4 then
  (idx a0.heads y2.N).bind fun y3 =>
  (some ()).bind fun _ =>
  ((idx a0.ScopeProg.Defs y2.N).bind fun y5 =>
  kC a0 a1 y2 y5 fuel 0 a2).bind fun x4 =>
  some (x4, a0.heads.set y2.N.toNat a1)
 else
  some (a2, a0.heads)).bind fun (x1, x2) =>
 (wR a0 a1).bind fun y7 =>
 (uU fuel (fun (x : Int) (t : List (aS Int Usage_channel) × List Int) => oP (jB fuel) a0 x1 x t.1 t.2) (a0.denotes.set a1.toNat a2, x2) y7.1 y7.2).bind fun y8 => match y8 with
 | (x14, x15) =>
 some (x14, x15)
theorem aEf : ∀ (fuel : Nat), (∀ (h0_0 : Value) (h0_1 : Value) (a0 : Usage_text) (a1 : Int) (a2 : aS Int Usage_channel) (r : List (aS Int Usage_channel) × List Int) (H : jB fuel a0 a1 a2 = some r), FnS Tryz.prog 79 [aG fI (⟨a0.ScopeProg, h0_0, a0.sizes, h0_1⟩ : Usage_text_R), aA .i64 a1, fF cR (fun y => fSt dK y) a2] [aE h0_0 123 (fW cR (fun y => fSt dK y)) a0.denotes, aE h0_1 3 (aB .i64) a0.heads] (cQ []) (fun _ => [aE h0_0 123 (fW cR (fun y => fSt dK y)) r.1, aE h0_1 3 (aB .i64) r.2])) := by
 intro fuel
 induction fuel with
 | zero => exact fun h0_0 h0_1 a0 a1 a2 r H => (by rw [jB] at H; cases H)
 | succ fuel ih =>
 have ih_usage_text_fill := ih
 refine ?_
 intro h0_0 h0_1 a0 a1 a2 r H
 rw [jB] at H
 refine qY Tryz.func79 rfl Tryz.ntmps79 rfl (fun β => ?_)
 refine Z1 ?_
 refine aQ trivial rfl rfl (cC rfl (has rfl) (aT (qD))) (fun b1 => ?_)
 refine aQ trivial rfl rfl (cC rfl (has rfl) (aT (xZ))) (fun b2 => ?_)
 refine Z1 ?_
 refine aI ?_
 revert H; refine bs fun y1 h1 H => ?_
 apply bB (ods := [_, _, _, _, _, _, _, _]) 8 0 4 bC rfl rfl rfl
 dsimp only [aY, List.take, List.replicate, List.append, List.drop]
 refine M3 ?_
 intros
 refine My (aBn rfl hh (sc rfl) rfl gC) fun _ => ?_
 refine M3 ?_
 intros
 refine nP (od := odC [2] true (fAny) [aE h0_0 123 (fW cR (fun y => fSt dK y)) (a0.denotes.set a1.toNat a2)]) (p := 2) (z' := a2) rfl (fun _ => rfl) (fun _ => rfl) trivial rfl rfl rfl rfl (has rfl) (has rfl) (xZ) (sz rfl) (cH h1) rfl rfl (fun _ => ?_)
 refine Z9 ?_
 revert H; refine bs fun y2 h2 H => ?_
 refine Z2 ?_
 refine aQ trivial rfl rfl (cF rfl hO rfl) (fun b3 => ?_)
 refine dB (φs' := [aA .i64 y2.Op, aA .i64 y2.N, fSl aU y2.Args, fSl (aB .i64) y2.Kids]) trivial rfl rfl (has rfl) (has rfl) (aM (aF trivial) (aM (aF trivial) (aM (bA) (aM (bA) bS)))) (sz rfl) rfl rfl rfl ?_
 refine Z1 ?_
 revert H; refine bs fun o1 H Hr1 => ?_
 refine aW (ι := aS Int Usage_channel × List Int) (fun i => o1 = (i.1, i.2)) (fun i => [(0, aG fI (⟨a0.ScopeProg, h0_0, a0.sizes, h0_1⟩ : Usage_text_R)), (1, aA .i64 a1), (3, fEq (.pointer (some ⟨b1, 0, none⟩))), (5, fEq (.pointer (some ⟨b2, 0, none⟩)))]) (fun i => [aC b2 123 [fF cR (fun y => fSt dK y) i.1], aC b3 51 [aA .i64 y2.Op, aA .i64 y2.N, fSl aU y2.Args, fSl (aB .i64) y2.Kids], aC b1 64 [aG fI (⟨a0.ScopeProg, h0_0, a0.sizes, h0_1⟩ : Usage_text_R)], aE h0_0 123 (fW cR (fun y => fSt dK y)) (a0.denotes.set a1.toNat a2), aE h0_1 3 (aB .i64) i.2]) ?_ ?_
 refine Z5 ?_
 revert H; refine is (fun c1 H => ?_) fun c1 H => ?_
 refine Z1 ?_
 refine aI ?_
 revert H; refine bs fun y3 h3 H => ?_
 apply bB (ods := [_, _, _, _, _, _, _, _, _]) 9 0 5 bC rfl rfl rfl
 dsimp only [aY, List.take, List.replicate, List.append, List.drop]
 refine M3 ?_
 intros
 refine My (aBn rfl hh (sc rfl) rfl gC) fun _ => ?_
 refine M4 ?_
 intros
 refine nP (od := odC [4] true (fAny) [aE h0_1 3 (aB .i64) (a0.heads.set y2.N.toNat a1)]) (p := 4) (z' := a1) rfl (fun _ => rfl) (fun _ => rfl) trivial rfl rfl rfl rfl (has rfl) (has rfl) (aF trivial) (sz rfl) (cH h3) rfl rfl (fun _ => ?_)
 refine Z3 ?_
 refine aQ trivial rfl rfl (vH (fun y => fSt dK y) cR rfl) (fun b4 => ?_)
 refine Z2 ?_
 revert H; refine bs fun o2 H Hr2 => ?_
 refine aW (ι := Unit) (fun i => o2 = ()) (fun i => [(0, aG fI (⟨a0.ScopeProg, h0_0, a0.sizes, h0_1⟩ : Usage_text_R)), (1, aA .i64 a1), (3, fEq (.pointer (some ⟨b1, 0, none⟩))), (5, fEq (.pointer (some ⟨b2, 0, none⟩))), (6, fEq (.pointer (some ⟨b3, 0, none⟩))), (7, fEq (.map (some b4)))]) (fun i => [aC b3 51 [aA .i64 y2.Op, aA .i64 y2.N, fSl aU y2.Args, fSl (aB .i64) y2.Kids], aC b2 123 [fF cR (fun y => fSt dK y) a2], aC b1 64 [aG fI (⟨a0.ScopeProg, h0_0, a0.sizes, h0_1⟩ : Usage_text_R)], gK cR (fun y => fSt dK y) b4 a2, aE h0_0 123 (fW cR (fun y => fSt dK y)) (a0.denotes.set a1.toNat a2), aE h0_1 3 (aB .i64) (a0.heads.set y2.N.toNat a1)]) ?_ ?_
 refine Z2 ?_
 refine aQ trivial rfl rfl (n_range (kd := cR) (vf := (fun y => fSt dK y)) (g := a2) rfl (has rfl) uO) (fun b5 => ?_)
 refine Z2 ?_
 refine aH [2, 3, 4, 1, 5, 6, 0] (by decide) ?_
 refine Tl (ι := aS Int Usage_channel) (fun _ => True) (fun i => a2.size - i.size) (fun i => [(0, aG fI (⟨a0.ScopeProg, h0_0, a0.sizes, h0_1⟩ : Usage_text_R)), (1, aA .i64 a1), (3, fEq (.pointer (some ⟨b1, 0, none⟩))), (5, fEq (.pointer (some ⟨b2, 0, none⟩))), (6, fEq (.pointer (some ⟨b3, 0, none⟩))), (7, fEq (.map (some b4))), (40, fEq (ptr b5))]) (fun i => [aC b3 51 [aA .i64 y2.Op, aA .i64 y2.N, fSl aU y2.Args, fSl (aB .i64) y2.Kids], aC b2 123 [fF cR (fun y => fSt dK y) a2], aC b1 64 [aG fI (⟨a0.ScopeProg, h0_0, a0.sizes, h0_1⟩ : Usage_text_R)], gK cR (fun y => fSt dK y) b4 i, aE h0_0 123 (fW cR (fun y => fSt dK y)) (a0.denotes.set a1.toNat a2), aE h0_1 3 (aB .i64) (a0.heads.set y2.N.toNat a1), tD cR (fun y => fSt dK y) b5 a2 i]) aS.none trivial ?_
 intro g1 _
 try dsimp only
 refine Z1 ?_
 refine lW ?_
 refine T_next trivial rfl rfl rfl (has rfl) (fun hg => ?_) (fun x3 y4 h4 h5 h6 => ?_)
 subst hg
 refine Z2 ?_
 refine aI ?_
 refine Z6 ?_
 refine aH [1, 2, 3, 4, 5, 6] (by decide) ?_
 exact Tm (()) (ij H)
 refine Z2 ?_
 refine aI ?_
 refine Z5 ?_
 refine Yo 0 rfl (o_entry rfl hh) ?_
 refine Z2 ?_
 refine aQ trivial rfl rfl (cF rfl aAC rfl) (fun b6 => ?_)
 refine Z1 ?_
 refine dB (φs' := [aA .i64 y4.def_, aA .i64 y4.index]) trivial rfl rfl (has rfl) (has rfl) (aM (aF trivial) (aM (aF trivial) bS)) (sz rfl) rfl rfl rfl ?_
 refine Z5 ?_
 refine lJ ?_
 refine iI (k := x3) (y := (⟨y4.def_, y4.index⟩ : Usage_channel)) trivial (.inl rfl) rfl (has rfl) (has rfl) rfl (has rfl) rfl uO ?_
 refine Z3 ?_
 refine dX ?_
 refine T_iterC ?_
 refine aH [3, 4, 5, 1, 6, 7, 0] (by decide) ?_
 exact Tm (aS.upd g1 x3 y4) ⟨trivial, upd_meas h5 h6⟩
 clear H; intro i hi; subst o2; have H := Hr2; clear Hr2; try dsimp only at H
 try dsimp only
 revert H; refine bs fun o3 H Hr3 => ?_
 refine aW (ι := aS Int Usage_channel) (fun i => o3 = i) (fun i => [(0, aG fI (⟨a0.ScopeProg, h0_0, a0.sizes, h0_1⟩ : Usage_text_R)), (1, aA .i64 a1), (3, fEq (.pointer (some ⟨b1, 0, none⟩))), (5, fEq (.pointer (some ⟨b2, 0, none⟩))), (7, fEq (.map (some b4)))]) (fun i => [aC b3 51 [aA .i64 y2.Op, aA .i64 y2.N, fSl aU y2.Args, fSl (aB .i64) y2.Kids], aC b2 123 [fF cR (fun y => fSt dK y) a2], aC b1 64 [aG fI (⟨a0.ScopeProg, h0_0, a0.sizes, h0_1⟩ : Usage_text_R)], gK cR (fun y => fSt dK y) b4 i, aE h0_0 123 (fW cR (fun y => fSt dK y)) (a0.denotes.set a1.toNat a2), aE h0_1 3 (aB .i64) (a0.heads.set y2.N.toNat a1)]) ?_ ?_
 refine aI ?_
 revert H; refine bs fun y5 h7 H => ?_
 apply bB (ods := [_, _, _, _, _, _, _, _, _, _, _, _]) 12 0 6 bC rfl rfl rfl
 dsimp only [aY, List.take, List.replicate, List.append, List.drop]
 refine M8 ?_
 intros
 refine M4 ?_
 intros
 refine Z3 ?_
 refine Tl (ι := Nat × Int × aS Int Usage_channel) (fun i => kC a0 a1 y2 y5 i.1 i.2.1 i.2.2 = _) (fun i => i.1) (fun i => [(0, aG fI (⟨a0.ScopeProg, h0_0, a0.sizes, h0_1⟩ : Usage_text_R)), (1, aA .i64 a1), (3, fEq (.pointer (some ⟨b1, 0, none⟩))), (5, fEq (.pointer (some ⟨b2, 0, none⟩))), (6, fEq (.pointer (some ⟨b3, 0, none⟩))), (7, fEq (.map (some b4))), (59, aA .i64 (y5.Chans.length : Int)), (60, aA .i64 i.2.1)]) (fun i => [aC b3 51 [aA .i64 y2.Op, aA .i64 y2.N, fSl aU y2.Args, fSl (aB .i64) y2.Kids], aC b2 123 [fF cR (fun y => fSt dK y) a2], aC b1 64 [aG fI (⟨a0.ScopeProg, h0_0, a0.sizes, h0_1⟩ : Usage_text_R)], gK cR (fun y => fSt dK y) b4 i.2.2, aE h0_0 123 (fW cR (fun y => fSt dK y)) (a0.denotes.set a1.toNat a2), aE h0_1 3 (aB .i64) (a0.heads.set y2.N.toNat a1)]) (fuel, 0, a2) H ?_
 clear H; rintro ⟨k1, x7, x8⟩ H
 replace H : kC a0 a1 y2 y5 k1 x7 x8 = _ := H
 try dsimp only
 obtain _ | k1 := k1
 rw [kC] at H; cases H
 rw [kC] at H
 refine Z3 ?_
 refine aI ?_
 revert H; refine is (fun c2 H => ?_) fun c2 H => ?_
 refine Z3 ?_
 refine aI ?_
 refine Z5 ?_
 revert H; refine bs fun y6 h8 H => ?_
 revert H; refine bs fun z1 h9 H => ?_
 apply bB (ods := [_, _, _, _, _, _, _, _, _, _, _, _, _, _]) 14 0 6 bC rfl rfl rfl
 dsimp only [aY, List.take, List.replicate, List.append, List.drop]
 refine M8 ?_
 intros
 refine M5 ?_
 intros
 refine My (dM (ψs := [aA .i64 y2.N, aA .i64 x7]) rfl aDZ rfl (aV.cons (has rfl) (aT (aF trivial)) (aV.cons (has rfl) (aT (aF trivial)) aV.nil)) rfl) fun _ => ?_
 refine Z1 ?_
 refine dA ?_
 refine iI (k := z1) (y := (⟨y2.N, x7⟩ : Usage_channel)) trivial (.inl rfl) rfl (has rfl) (has rfl) rfl (has rfl) rfl uO ?_
 refine Z4 ?_
 revert H; refine bs fun z2 h10 H => ?_
 refine Z3 ?_
 refine aH [1, 2, 3, 0, 4, 5] (by decide) ?_
 exact Tm ((k1, z2, aS.upd x8 z1 (⟨y2.N, x7⟩ : Usage_channel))) ⟨H, ls⟩
 exact fk
 kernel_rfl
 refine Z6 ?_
 exact Tm (x8) (ij H)
 exact fk
 kernel_rfl
 clear H; intro x4 hi; subst o3; have H := Hr3; clear Hr3; try dsimp only at H
 try dsimp only
 refine Z2 ?_
 refine cZ ?_
 refine dH (φs' := [fEq (.map (some b4))]) trivial rfl rfl (has rfl) (has rfl) (aF trivial) (sz rfl) rfl rfl ?_
 refine Z1 ?_
 refine dA ?_
 refine cS (φ := fF cR (fun y => fSt dK y) x4) (v := .map (some b4)) [7, 78] aAK (by intro s hs; simp only [List.mem_cons, List.not_mem_nil, or_false] at hs; rcases hs with rfl | rfl <;> rfl) ?_
 refine gJ (φs' := [fF cR (fun y => fSt dK y) x4]) (i := 0) rfl rfl ?_
 refine cT ?_
 exact Tm ((x4, a0.heads.set y2.N.toNat a1)) (ij H)
 exact fk
 kernel_rfl
 refine Z3 ?_
 refine aH [1, 0, 2, 3, 4] (by decide) ?_
 exact Tm ((a2, a0.heads)) (ij H)
 clear H; intro i hi; obtain ⟨x1, x2⟩ := i; subst o1; have H := Hr1; clear Hr1; try dsimp only at H
 try dsimp only
 refine Z3 ?_
 revert H; refine bs fun y7 h11 H => ?_
 refine iH trivial rfl rfl rfl (has rfl) (aD.cons (dJ rfl (aEm)) (aD.cons (has rfl) aD.nil)) rfl (cb rfl) (aDM a0 a1 y7 h11) rfl ?_
 refine Z2 ?_
 refine T_sub [(0, aG fI (⟨a0.ScopeProg, h0_0, a0.sizes, h0_1⟩ : Usage_text_R)), (1, aA .i64 a1), (3, fEq (.pointer (some ⟨b1, 0, none⟩))), (5, fEq (.pointer (some ⟨b2, 0, none⟩))), (79, aG fI (⟨a0.ScopeProg, h0_0, a0.sizes, h0_1⟩ : Usage_text_R)), (80, aA .i64 a1), (81, dD 114 [aG (fA eA) y7.1, aG (aB .i64) y7.2])] (Sc (Sc (Sc (Sc (Sc (Sc (Sc fJ.nil))))))) ?_
 revert H; refine bs fun y8 h12 H => ?_
 refine xS (s := (a0.denotes.set a1.toNat a2, x2)) (s' := y8) (fun (x : Int) => [aA .i64 x]) (fun (x : Int) (t : List (aS Int Usage_channel) × List Int) => oP (jB fuel) a0 x1 x t.1 t.2) (fun (t : List (aS Int Usage_channel) × List Int) => [aC b2 123 [fF cR (fun y => fSt dK y) x1], aC b3 51 [aA .i64 y2.Op, aA .i64 y2.N, fSl aU y2.Args, fSl (aB .i64) y2.Kids], aC b1 64 [aG fI (⟨a0.ScopeProg, h0_0, a0.sizes, h0_1⟩ : Usage_text_R)], aE h0_0 123 (fW cR (fun y => fSt dK y)) t.1, aE h0_1 3 (aB .i64) t.2]) (has rfl) (cb rfl) rfl (fun _ => rfl) rfl (fun J => aFG fuel J (fun (x : Int) (t : List (aS Int Usage_channel) × List Int) => oP (jB fuel) a0 x1 x t.1 t.2) (a0.denotes.set a1.toNat a2, x2) y7.1 y7.2 y8 h12) (fun β' l rec x9 t t' hs hp hY => ?_) (fun rb => ?_)
 obtain ⟨x12, x13⟩ := t
 have H : oP (jB fuel) a0 x1 x9 x12 x13 = some t' := hY; clear hY; unfold oP at H; try dsimp only at H
 show T β' _ _ (pJ [82] ((fun (x : Int) => [aA .i64 x]) x9) [(0, aG fI (⟨a0.ScopeProg, h0_0, a0.sizes, h0_1⟩ : Usage_text_R)), (1, aA .i64 a1), (3, fEq (.pointer (some ⟨b1, 0, none⟩))), (5, fEq (.pointer (some ⟨b2, 0, none⟩))), (79, aG fI (⟨a0.ScopeProg, h0_0, a0.sizes, h0_1⟩ : Usage_text_R)), (80, aA .i64 a1), (81, dD 114 [aG (fA eA) y7.1, aG (aB .i64) y7.2])]) (tObj l (.loop rec) :: [aC b2 123 [fF cR (fun y => fSt dK y) x1], aC b3 51 [aA .i64 y2.Op, aA .i64 y2.N, fSl aU y2.Args, fSl (aB .i64) y2.Kids], aC b1 64 [aG fI (⟨a0.ScopeProg, h0_0, a0.sizes, h0_1⟩ : Usage_text_R)], aE h0_0 123 (fW cR (fun y => fSt dK y)) x12, aE h0_1 3 (aB .i64) x13]) _
 refine Z3 ?_
 refine xW hs ?_
 refine Z5 ?_
 refine lJ ?_
 refine lJ ?_
 revert H; refine bs fun y9 h13 H => ?_
 refine Tc (ih_usage_text_fill _ _ _ _ _ _ h13) ?_
 refine Z2 ?_
 refine aH [3, 4, 5, 0, 1, 2] (by decide) ?_
 cases H
 refine aH [5, 0, 1, 2, 3, 4] (by decide) ?_
 exact vM hs hp rfl
 obtain ⟨x14, x15⟩ := y8; dsimp only at H
 generalize rb = rb1
 show T β _ _ [(0, aG fI (⟨a0.ScopeProg, h0_0, a0.sizes, h0_1⟩ : Usage_text_R)), (1, aA .i64 a1), (3, fEq (.pointer (some ⟨b1, 0, none⟩))), (5, fEq (.pointer (some ⟨b2, 0, none⟩))), (79, aG fI (⟨a0.ScopeProg, h0_0, a0.sizes, h0_1⟩ : Usage_text_R)), (80, aA .i64 a1), (81, dD 114 [aG (fA eA) y7.1, aG (aB .i64) y7.2])] ([iN rb1] ++ [aC b2 123 [fF cR (fun y => fSt dK y) x1], aC b3 51 [aA .i64 y2.Op, aA .i64 y2.N, fSl aU y2.Args, fSl (aB .i64) y2.Kids], aC b1 64 [aG fI (⟨a0.ScopeProg, h0_0, a0.sizes, h0_1⟩ : Usage_text_R)], aE h0_0 123 (fW cR (fun y => fSt dK y)) x14, aE h0_1 3 (aB .i64) x15]) _
 dsimp only [List.append, List.cons_append, List.nil_append]
 refine Z1 ?_
 cases H
 refine aH [0, 4, 5] (by decide) ?_
 exact aAN [rb1] (.inr rfl) rfl rfl rfl
 exact fk
 kernel_rfl
def nC (fuel : Nat) (a0 : ScopeProg) : Option (Usage_text) :=
 (mk aS.none (a0.Nodes.length : Int)).bind fun y1 =>
 (mk 0 (a0.Defs.length : Int)).bind fun y2 =>
 (qH fuel (⟨a0.Free, a0.Nodes, a0.Defs, a0.Main⟩ : ScopeProg)).bind fun y3 =>
 (jB fuel ({ (⟨(⟨a0.Free, a0.Nodes, a0.Defs, a0.Main⟩ : ScopeProg), y1, y3.1, y2⟩ : Usage_text) with denotes := y1, heads := y2 }) a0.Main (aS.none : aS Int Usage_channel)).bind fun y4 =>
 some (⟨(⟨((⟨(⟨a0.Free, a0.Nodes, a0.Defs, a0.Main⟩ : ScopeProg), y1, y3.1, y2⟩ : Usage_text).ScopeProg).Free, ((⟨(⟨a0.Free, a0.Nodes, a0.Defs, a0.Main⟩ : ScopeProg), y1, y3.1, y2⟩ : Usage_text).ScopeProg).Nodes, ((⟨(⟨a0.Free, a0.Nodes, a0.Defs, a0.Main⟩ : ScopeProg), y1, y3.1, y2⟩ : Usage_text).ScopeProg).Defs, ((⟨(⟨a0.Free, a0.Nodes, a0.Defs, a0.Main⟩ : ScopeProg), y1, y3.1, y2⟩ : Usage_text).ScopeProg).Main⟩ : ScopeProg), y4.1, (⟨(⟨a0.Free, a0.Nodes, a0.Defs, a0.Main⟩ : ScopeProg), y1, y3.1, y2⟩ : Usage_text).sizes, y4.2⟩ : Usage_text)
theorem aAH (fuel : Nat)  (a0 : ScopeProg) (r : Usage_text) (H : nC fuel a0 = some r) : FnS Tryz.prog 36 [fSt cY a0] [] (aG bP r) (fun _ => []) := by
 unfold nC at H
 refine bI Tryz.func36 rfl Tryz.ntmps36 rfl (fun β => ?_)
 refine Z1 ?_
 refine aQ trivial rfl rfl (cC rfl (has rfl) bQ) (fun b1 => ?_)
 refine Z2 ?_
 refine aI ?_
 revert H; refine bs fun y1 h1 H => ?_
 revert H; refine bs fun y2 h2 H => ?_
 apply bB (ods := [_, _, _, _, _, _, _, _, _, _, _, _]) 12 3 4 bC rfl rfl rfl
 dsimp only [aY, List.take, List.replicate, List.append, List.drop]
 refine M4 ?_
 intros
 refine Mn 1 (fun b2 => .slice (some ⟨b2, 0, none⟩) y1.length y1.length) (fun b2 => aE (.slice (some ⟨b2, 0, none⟩) y1.length y1.length) 123 (fW cR (fun y => fSt dK y)) y1) rfl (n_makeE (t := (fW cR (fun y => fSt dK y))) (z := aS.none) rfl (has rfl) (et rfl) rfl aDE (aO.cons aFn aO.nil) h1) (fun b2 u1 => ?_)
 refine M3 ?_
 intros
 refine Mn 2 (fun b3 => .slice (some ⟨b3, 0, none⟩) y2.length y2.length) (fun b3 => aE (.slice (some ⟨b3, 0, none⟩) y2.length y2.length) 3 (aB .i64) y2) rfl (jT (t := (aB .i64)) (z := 0) rfl (has rfl) (et rfl) rfl oS rfl h2) (fun b3 u2 => ?_)
 refine D2 4 8 b2 _ b3 _ (fun b2 _ b3 _ => eU [fSl aN a0.Free, fSl aL a0.Nodes, fSl aK a0.Defs, aA .i64 a0.Main, fEq (.slice (some ⟨b2, 0, none⟩) y1.length y1.length), fEq (.slice none 0 0), fEq (.slice (some ⟨b3, 0, none⟩) y2.length y2.length)]) rfl rfl (dM (ψs := [fSl aN a0.Free, fSl aL a0.Nodes, fSl aK a0.Defs, aA .i64 a0.Main, fEq (.slice (some ⟨b2, 0, none⟩) y1.length y1.length), fEq (.slice none 0 0), fEq (.slice (some ⟨b3, 0, none⟩) y2.length y2.length)]) rfl ty_bu_84 rfl (aV.cons (has rfl) bQ (aV.cons (has rfl) (aT (aF trivial)) (aV.cons (has rfl) (aT (aF trivial)) aV.nil))) rfl) (fun _ => ?_)
 refine N_new (od := odN2 4 8 [3] true (fun b2 _ b3 _ b4 _ => fEq (ptr b4)) (fun b2 _ b3 _ b4 _ => [aC b4 84 [fSl aN a0.Free, fSl aL a0.Nodes, fSl aK a0.Defs, aA .i64 a0.Main, fEq (.slice (some ⟨b2, 0, none⟩) y1.length y1.length), fEq (.slice none 0 0), fEq (.slice (some ⟨b3, 0, none⟩) y2.length y2.length)]])) (p := 3) (f := fun b4 => ptr b4) (τ := fun b4 => aC b4 84 [fSl aN a0.Free, fSl aL a0.Nodes, fSl aK a0.Defs, aA .i64 a0.Main, fEq (.slice (some ⟨b2, 0, none⟩) y1.length y1.length), fEq (.slice none 0 0), fEq (.slice (some ⟨b3, 0, none⟩) y2.length y2.length)]) rfl (fun _ => rfl) (fun _ => rfl) trivial rfl rfl (cC rfl (has rfl) bQ) (fun b4 u3 => ?_)
 refine D1 10 b4 _ (fun b4 _ => fEq (.pointer (some ⟨b4, 0, none⟩))) rfl (tU rfl hh) (fun _ => ?_)
 refine Z1 ?_
 generalize hv_v1 : (Value.slice (some ⟨b2, 0, none⟩) _ _) = v1; clear hv_v1
 refine aP 1 rfl (fun hc_v1 => ?_)
 generalize hv_v2 : (Value.slice (some ⟨b3, 0, none⟩) _ _) = v2; clear hv_v2
 refine aP 2 rfl (fun hc_v2 => ?_)
 refine Z4 ?_
 revert H; refine bs fun y3 h3 H => ?_
 refine Tc (aE9 _ _ _ h3) ?_
 refine Z5 ?_
 refine dA ?_
 refine dH (φs' := [fSl aN a0.Free, fSl aL a0.Nodes, fSl aK a0.Defs, aA .i64 a0.Main, fEq v1, fSl (aB .i64) y3.1, fEq v2]) trivial rfl rfl (has rfl) (has rfl) (bA) (sz rfl) rfl rfl ?_
 refine Z5 ?_
 refine aQ trivial rfl rfl (vH (fun y => fSt dK y) cR rfl) (fun b5 => ?_)
 refine cZ ?_
 refine cS (φ := aG fI (⟨(⟨a0.Free, a0.Nodes, a0.Defs, a0.Main⟩ : ScopeProg), v1, y3.1, v2⟩ : Usage_text_R)) (v := ptr b4) [14, 3, 16, 21, 23] (gI (aO.cons Ent.rfl (aO.cons Ent.rfl (aO.cons Ent.rfl (aO.cons Ent.rfl (aO.cons (aBU hc_v1) (aO.cons Ent.rfl (aO.cons (aBU hc_v2) aO.nil)))))))) (by intro s hs; simp only [List.mem_cons, List.not_mem_nil, or_false] at hs; rcases hs with rfl | rfl | rfl | rfl | rfl <;> rfl) ?_
 refine cT ?_
 refine cS (φ := fF cR (fun y => fSt dK y) (aS.none : aS Int Usage_channel)) (v := .map (some b5)) [26] aAK (by intro s hs; simp only [List.mem_cons, List.not_mem_nil, or_false] at hs; rcases hs with rfl <;> rfl) ?_
 refine cT ?_
 refine dX ?_
 refine dX ?_
 revert H; refine bs fun y4 h4 H => ?_
 refine Tc (aEf _ _ _ _ _ _ _ h4) ?_
 refine Z6 ?_
 refine cS (φ := fSl (fW cR (fun y => fSt dK y)) y4.1) (v := v1) [8] cP (by intro s hs; simp only [List.mem_cons, List.not_mem_nil, or_false] at hs; rcases hs with rfl <;> rfl) ?_
 refine aBj 2 (i := 4) (φs := [fSl aN (((⟨(⟨a0.Free, a0.Nodes, a0.Defs, a0.Main⟩ : ScopeProg), y1, y3.1, y2⟩ : Usage_text).ScopeProg).Free), fSl aL (((⟨(⟨a0.Free, a0.Nodes, a0.Defs, a0.Main⟩ : ScopeProg), y1, y3.1, y2⟩ : Usage_text).ScopeProg).Nodes), fSl aK (((⟨(⟨a0.Free, a0.Nodes, a0.Defs, a0.Main⟩ : ScopeProg), y1, y3.1, y2⟩ : Usage_text).ScopeProg).Defs), aA .i64 (((⟨(⟨a0.Free, a0.Nodes, a0.Defs, a0.Main⟩ : ScopeProg), y1, y3.1, y2⟩ : Usage_text).ScopeProg).Main), dZ v1, fSl (aB .i64) ((⟨(⟨a0.Free, a0.Nodes, a0.Defs, a0.Main⟩ : ScopeProg), y1, y3.1, y2⟩ : Usage_text).sizes), dZ v2]) (φs' := [fSl aN (((⟨(⟨a0.Free, a0.Nodes, a0.Defs, a0.Main⟩ : ScopeProg), y1, y3.1, y2⟩ : Usage_text).ScopeProg).Free), fSl aL (((⟨(⟨a0.Free, a0.Nodes, a0.Defs, a0.Main⟩ : ScopeProg), y1, y3.1, y2⟩ : Usage_text).ScopeProg).Nodes), fSl aK (((⟨(⟨a0.Free, a0.Nodes, a0.Defs, a0.Main⟩ : ScopeProg), y1, y3.1, y2⟩ : Usage_text).ScopeProg).Defs), aA .i64 (((⟨(⟨a0.Free, a0.Nodes, a0.Defs, a0.Main⟩ : ScopeProg), y1, y3.1, y2⟩ : Usage_text).ScopeProg).Main), fSl (fW cR (fun y => fSt dK y)) y4.1, fSl (aB .i64) ((⟨(⟨a0.Free, a0.Nodes, a0.Defs, a0.Main⟩ : ScopeProg), y1, y3.1, y2⟩ : Usage_text).sizes), dZ v2]) rfl rfl rfl ?_
 refine cT ?_
 refine cS (φ := fSl (aB .i64) y4.2) (v := v2) [12] cP (by intro s hs; simp only [List.mem_cons, List.not_mem_nil, or_false] at hs; rcases hs with rfl <;> rfl) ?_
 refine aBj 2 (i := 6) (φs := [fSl aN (((⟨(⟨a0.Free, a0.Nodes, a0.Defs, a0.Main⟩ : ScopeProg), y1, y3.1, y2⟩ : Usage_text).ScopeProg).Free), fSl aL (((⟨(⟨a0.Free, a0.Nodes, a0.Defs, a0.Main⟩ : ScopeProg), y1, y3.1, y2⟩ : Usage_text).ScopeProg).Nodes), fSl aK (((⟨(⟨a0.Free, a0.Nodes, a0.Defs, a0.Main⟩ : ScopeProg), y1, y3.1, y2⟩ : Usage_text).ScopeProg).Defs), aA .i64 (((⟨(⟨a0.Free, a0.Nodes, a0.Defs, a0.Main⟩ : ScopeProg), y1, y3.1, y2⟩ : Usage_text).ScopeProg).Main), fSl (fW cR (fun y => fSt dK y)) y4.1, fSl (aB .i64) ((⟨(⟨a0.Free, a0.Nodes, a0.Defs, a0.Main⟩ : ScopeProg), y1, y3.1, y2⟩ : Usage_text).sizes), dZ v2]) (φs' := [fSl aN (((⟨(⟨a0.Free, a0.Nodes, a0.Defs, a0.Main⟩ : ScopeProg), y1, y3.1, y2⟩ : Usage_text).ScopeProg).Free), fSl aL (((⟨(⟨a0.Free, a0.Nodes, a0.Defs, a0.Main⟩ : ScopeProg), y1, y3.1, y2⟩ : Usage_text).ScopeProg).Nodes), fSl aK (((⟨(⟨a0.Free, a0.Nodes, a0.Defs, a0.Main⟩ : ScopeProg), y1, y3.1, y2⟩ : Usage_text).ScopeProg).Defs), aA .i64 (((⟨(⟨a0.Free, a0.Nodes, a0.Defs, a0.Main⟩ : ScopeProg), y1, y3.1, y2⟩ : Usage_text).ScopeProg).Main), fSl (fW cR (fun y => fSt dK y)) y4.1, fSl (aB .i64) ((⟨(⟨a0.Free, a0.Nodes, a0.Defs, a0.Main⟩ : ScopeProg), y1, y3.1, y2⟩ : Usage_text).sizes), fSl (aB .i64) y4.2]) rfl rfl rfl ?_
 refine cT ?_
 cases H
 refine aH [] (by decide) ?_
 exact To
 exact fk
 kernel_rfl
def sC (fuel : Nat) (a0 : ScopeProg) (a1 : Int) (a2 : Int) : Option ((Option Usage_text) × Bool) :=
 (pP fuel (⟨a0.Free, a0.Nodes, a0.Defs, a0.Main⟩ : ScopeProg)).bind fun y1 =>
 if y1 ≠ 0 then
  some (none, false)
 else
  if a1 < 0 then
   some (none, false)
  else
   if (a0.Nodes.length : Int) ≤ a1 then
    some (none, false)
   else
    (nC fuel (⟨a0.Free, a0.Nodes, a0.Defs, a0.Main⟩ : ScopeProg)).bind fun y2 =>
    (if 0 ≤ a2 then
     (idx y2.sizes a1).bind fun y3 =>
     some (decide (a2 < y3))
    else
     some false).bind fun x1 =>
    some (some y2, x1)
theorem aBy (fuel : Nat)  (a0 : ScopeProg) (a1 : Int) (a2 : Int) (r : (Option Usage_text) × Bool) (H : sC fuel a0 a1 a2 = some r) : FnS Tryz.prog 25 [fSt cY a0, aA .i64 a1, aA .i64 a2] [] (cQ [fOpt bP r.1, aJ r.2]) (fun _ => []) := by
 unfold sC at H
 refine bI Tryz.func25 rfl Tryz.ntmps25 rfl (fun β => ?_)
 refine Z1 ?_
 refine aQ trivial rfl rfl (cC rfl (has rfl) bQ) (fun b1 => ?_)
 refine Z3 ?_
 refine aI ?_
 refine Z2 ?_
 revert H; refine bs fun y1 h1 H => ?_
 refine Tc (zS _ _ _ h1) ?_
 refine Z2 ?_
 revert H; refine is (fun c1 H => ?_) fun c1 H => ?_
 refine Z12 ?_
 refine Z5 ?_
 cases H
 refine aH [] (by decide) ?_
 exact dY rfl (jE rfl yR) (bJ rfl) rfl
 refine Z4 ?_
 revert H; refine is (fun c2 H => ?_) fun c2 H => ?_
 refine Z12 ?_
 refine Z1 ?_
 cases H
 refine aH [] (by decide) ?_
 exact dY rfl (jE rfl yR) (bJ rfl) rfl
 refine Z7 ?_
 revert H; refine is (fun c3 H => ?_) fun c3 H => ?_
 refine Z6 ?_
 cases H
 refine aH [] (by decide) ?_
 exact dY rfl (jE rfl yR) (bJ rfl) rfl
 refine Z5 ?_
 revert H; refine bs fun y2 h2 H => ?_
 refine Tc (aAH _ _ _ h2) ?_
 refine Z2 ?_
 revert H; refine bs fun o1 H Hr1 => ?_
 refine aW (ι := Bool) (fun i => o1 = i) (fun i => [(6, aG bP y2), (7, aJ i)]) (fun i => [aC b1 26 [fSl aN a0.Free, fSl aL a0.Nodes, fSl aK a0.Defs, aA .i64 a0.Main]]) ?_ ?_
 revert H; refine is (fun c4 H => ?_) fun c4 H => ?_
 revert H; refine bs fun y3 h3 H => ?_
 apply bB (ods := [_, _, _, _, _, _, _, _, _, _, _, _, _, _, _, _]) 16 0 1 bC rfl rfl rfl
 dsimp only [aY, List.take, List.replicate, List.append, List.drop]
 refine M8 ?_
 intros
 refine M8 ?_
 intros
 refine Z2 ?_
 exact Tm (decide (a2 < y3)) (ij H)
 exact fk
 kernel_rfl
 apply bB (ods := [_, _, _, _, _, _, _, _, _, _, _, _, _, _, _, _]) 16 0 1 bC rfl rfl rfl
 dsimp only [aY, List.take, List.replicate, List.append, List.drop]
 refine M8 ?_
 intros
 refine M8 ?_
 intros
 refine Z2 ?_
 exact Tm (false) (ij H)
 exact fk
 kernel_rfl
 clear H; intro x1 hi; subst o1; have H := Hr1; clear Hr1; try dsimp only at H
 try dsimp only
 refine Z1 ?_
 cases H
 refine aH [] (by decide) ?_
 exact dY rfl (jE rfl ent_optS) (bJ rfl) rfl
def lE (a0 : List Int) (a1 : List Int) (a2 : Bool) (w0 : Int × Int × Bool → Option Bool) : Nat → Int → Option ((Unit) ⊕ (Bool))
| 0, _ => none
| k + 1, x2 =>
 if x2 < (a0.length : Int) then
  (idx a0 x2).bind fun y1 =>
  (idx a1 x2).bind fun y2 =>
  (w0 (y1, y2, a2)).bind fun y3 =>
  bif y3 then
   (chk (x2 + 1)).bind fun z1 =>
   lE a0 a1 a2 w0 k z1
  else
   (some false).bind fun r => some (Sum.inr r)
 else
  some (Sum.inl ())
def oL (fuel : Nat) (a0 : List Int) (a1 : List Int) (a2 : Bool) (w0 : Int × Int × Bool → Option Bool) : Option (Bool) :=
 (lE a0 a1 a2 w0 fuel 0).bind fun o => match o with
 | Sum.inr r => some r
 | Sum.inl _ =>
 some true
theorem vP (fuel : Nat)  (a0 : List Int) (a1 : List Int) (a2 : Bool) (w0 : Int × Int × Bool → Option Bool) (r : Bool) (H : oL fuel a0 a1 a2 w0 = some r) : FnS Tryz.prog 82 [fSl (aB .i64) a0, fSl (aB .i64) a1, aJ a2, aG (tFn Tryz.prog (fun (x : Int × Int × Bool) => [aA .i64 x.1, aA .i64 x.2.1, aJ x.2.2]) (fun (r : Bool) => aJ r)) w0] [] (aJ r) (fun _ => []) := by
 unfold oL at H
 refine bI Tryz.func82 rfl Tryz.ntmps82 rfl (fun β => ?_)
 refine Z3 ?_
 revert H; refine bs fun o1 H Hr1 => ?_
 refine aW (ι := Unit) (fun i => o1 = Sum.inl ()) (fun i => []) (fun i => []) ?_ ?_
 refine Z6 ?_
 refine Tl (ι := Nat × Int) (fun i => lE a0 a1 a2 w0 i.1 i.2 = _) (fun i => i.1) (fun i => [(0, fSl (aB .i64) a0), (1, fSl (aB .i64) a1), (2, aJ a2), (3, aG (tFn Tryz.prog (fun (x : Int × Int × Bool) => [aA .i64 x.1, aA .i64 x.2.1, aJ x.2.2]) (fun (r : Bool) => aJ r)) w0), (10, aA .i64 (a0.length : Int)), (11, aA .i64 i.2)]) (fun i => []) (fuel, 0) H ?_
 clear H; rintro ⟨k1, x2⟩ H
 replace H : lE a0 a1 a2 w0 k1 x2 = _ := H
 try dsimp only
 obtain _ | k1 := k1
 rw [lE] at H; cases H
 rw [lE] at H
 refine Z3 ?_
 refine aI ?_
 revert H; refine is (fun c1 H => ?_) fun c1 H => ?_
 refine Z3 ?_
 refine aI ?_
 refine Z5 ?_
 refine aI ?_
 revert H; refine bs fun y1 h1 H => ?_
 revert H; refine bs fun y2 h2 H => ?_
 revert H; refine bs fun y3 h3 H => ?_
 apply bB (ods := [_, _, _, _, _, _, _, _, _, _, _, _]) 12 0 0 bC rfl rfl rfl
 dsimp only [aY, List.take, List.replicate, List.append, List.drop]
 refine M8 ?_
 intros
 refine M2 ?_
 intros
 refine aDn (od := odC [] true (aJ y3) []) (Φ := aJ y3) (y1, y2, a2) rfl (fun _ => rfl) trivial rfl rfl (has rfl) (aD.cons (has rfl) (aD.cons (has rfl) (aD.cons (has rfl) aD.nil))) h3 rfl (fun _ => ?_)
 refine M1 ?_
 intros
 refine Z2 ?_
 revert H; refine cs (fun c2 H => ?_) fun c2 H => ?_
 refine Z5 ?_
 revert H; refine bs fun z1 h4 H => ?_
 refine Z3 ?_
 exact Tm ((k1, z1)) ⟨H, ls⟩
 refine Z10 ?_
 revert H; refine bs fun r1 H e1 => ?_
 cases e1; cases Hr1
 cases H
 exact To
 exact fk
 kernel_rfl
 refine Z6 ?_
 exact Tm (()) (ij H)
 clear H; intro i hi; subst o1; have H := Hr1; clear Hr1; try dsimp only at H
 try dsimp only
 refine Z4 ?_
 cases H
 exact To
def lN (fuel : Nat) (a0 : List UsageDef) (a1 : List UsageDef) (a2 : Int × Int × Bool → Option Bool) (x2 : Int) (y7 : UsageDef) : Nat → Int → Option ((Unit) ⊕ ((Unit) ⊕ (Bool)))
| 0, _ => none
| k + 1, x4 =>
 if x4 < (y7.Args.length : Int) then
  (idx a0 x2).bind fun y8 =>
  (idx y8.Args x4).bind fun y9 =>
  (idx a1 x2).bind fun y10 =>
  (idx y10.Args x4).bind fun y11 =>
  (oL fuel y9 y11 false a2).bind fun y12 =>
  bif y12 then
   (chk (x4 + 1)).bind fun z1 =>
   lN fuel a0 a1 a2 x2 y7 k z1
  else
   ((some false).bind fun r => some (Sum.inr r)).bind fun r => some (Sum.inr r)
 else
  some (Sum.inl ())
def kW (fuel : Nat) (a0 : List UsageDef) (a1 : List UsageDef) (a2 : Int × Int × Bool → Option Bool) : Nat → Int → Option ((Unit) ⊕ (Bool))
| 0, _ => none
| k + 1, x2 =>
 if x2 < (a0.length : Int) then
  ((idx a0 x2).bind fun y1 =>
  (idx a1 x2).bind fun y2 =>
  (oL fuel y1.Chans y2.Chans true a2).bind fun y3 =>
  bif !y3 then
   ((some false).bind fun r => some (Sum.inr r)).bind fun r => some (Sum.inr r)
  else
   (idx a0 x2).bind fun y4 =>
   (idx a1 x2).bind fun y5 =>
   (oL fuel y4.Rules y5.Rules false a2).bind fun y6 =>
   bif y6 then
    (idx a0 x2).bind fun y7 =>
    lN fuel a0 a1 a2 x2 y7 fuel 0
   else
    ((some false).bind fun r => some (Sum.inr r)).bind fun r => some (Sum.inr r)).bind fun o => match o with
  | Sum.inr r => some r
  | Sum.inl _ =>
  (chk (x2 + 1)).bind fun z2 =>
  kW fuel a0 a1 a2 k z2
 else
  some (Sum.inl ())
def pI (fuel : Nat) (a0 : List UsageDef) (a1 : List UsageDef) (a2 : Int × Int × Bool → Option Bool) : Option (Bool) :=
 (kW fuel a0 a1 a2 fuel 0).bind fun o => match o with
 | Sum.inr r => some r
 | Sum.inl _ =>
 some true
theorem zF (fuel : Nat)  (a0 : List UsageDef) (a1 : List UsageDef) (a2 : Int × Int × Bool → Option Bool) (r : Bool) (H : pI fuel a0 a1 a2 = some r) : FnS Tryz.prog 39 [fSl bG a0, fSl bG a1, fFn Tryz.prog (fun (x : Int × Int × Bool) => [aA .i64 x.1, aA .i64 x.2.1, aJ x.2.2]) (fun (r : Bool) => aJ r) a2] [] (aJ r) (fun _ => []) := by
 unfold pI at H
 refine bI Tryz.func39 rfl Tryz.ntmps39 rfl (fun β => ?_)
 refine Z1 ?_
 refine aQ trivial rfl rfl (cC rfl (has rfl) (aT (yE))) (fun b1 => ?_)
 refine Z3 ?_
 refine cS (φ := aG (tFn Tryz.prog (fun (x : Int × Int × Bool) => [aA .i64 x.1, aA .i64 x.2.1, aJ x.2.2]) (fun (r : Bool) => aJ r)) a2) (v := ptr b1) [5] (gI aO.rfl) (by intro s hs; simp only [List.mem_cons, List.not_mem_nil, or_false] at hs; rcases hs with rfl <;> rfl) ?_
 refine cT ?_
 refine Yy (pW rfl (aD.cons hh aD.nil)) ?_
 refine Z2 ?_
 revert H; refine bs fun o1 H Hr1 => ?_
 refine aW (ι := Unit) (fun i => o1 = Sum.inl ()) (fun i => []) (fun i => []) ?_ ?_
 refine Z6 ?_
 refine Tl (ι := Nat × Int) (fun i => kW fuel a0 a1 a2 i.1 i.2 = _) (fun i => i.1) (fun i => [(0, fSl bG a0), (1, fSl bG a1), (7, dD 82 [aG (tFn Tryz.prog (fun (x : Int × Int × Bool) => [aA .i64 x.1, aA .i64 x.2.1, aJ x.2.2]) (fun (r : Bool) => aJ r)) a2]), (12, aA .i64 (a0.length : Int)), (13, aA .i64 i.2)]) (fun i => []) (fuel, 0) H ?_
 clear H; rintro ⟨k1, x2⟩ H
 replace H : kW fuel a0 a1 a2 k1 x2 = _ := H
 try dsimp only
 obtain _ | k1 := k1
 rw [kW] at H; cases H
 rw [kW] at H
 refine Z3 ?_
 refine aI ?_
 revert H; refine is (fun c1 H => ?_) fun c1 H => ?_
 refine cV (has rfl) c1 ?_
 refine Z2 ?_
 revert H; refine bs fun o2 H Hr2 => ?_
 refine aW (ι := Unit) (fun i => o2 = Sum.inl ()) (fun i => [(0, fSl bG a0), (1, fSl bG a1), (7, dD 82 [aG (tFn Tryz.prog (fun (x : Int × Int × Bool) => [aA .i64 x.1, aA .i64 x.2.1, aJ x.2.2]) (fun (r : Bool) => aJ r)) a2]), (12, aA .i64 (a0.length : Int)), (13, aA .i64 x2)]) (fun i => []) ?_ ?_
 refine Z5 ?_
 refine aI ?_
 refine aI ?_
 revert H; refine bs fun y1 h1 H => ?_
 revert H; refine bs fun y2 h2 H => ?_
 revert H; refine bs fun y3 h3 H => ?_
 revert H; refine cs (fun c2 H => ?_) fun c2 H => ?_
 apply bB (ods := [_, _, _, _, _, _, _, _, _, _, _, _, _, _, _, _, _, _, _, _, _, _, _, _, _, _, _, _]) 28 0 0 bC rfl rfl rfl
 dsimp only [aY, List.take, List.replicate, List.append, List.drop]
 refine M3 ?_
 intros
 refine My (bO rfl hh hh (el rfl) h1) fun _ => ?_
 refine M4 ?_
 intros
 refine My (bO rfl hh hh (el rfl) h2) fun _ => ?_
 refine M2 ?_
 intros
 refine xP (od := odC [] true (aJ y3) []) (Φ := aJ y3) rfl (fun _ => rfl) trivial rfl rfl (has rfl) (aD.cons (has rfl) (aD.cons (has rfl) (aD.cons (has rfl) aD.nil))) rfl (cb rfl) (vP fuel y1.Chans y2.Chans true a2 y3 h3) (fun _ => ?_)
 refine M2 ?_
 intros
 refine Mt c2 fun _ => ?_
 refine Mt c2 fun _ => ?_
 refine Mt c2 fun _ => ?_
 refine Mt c2 fun _ => ?_
 refine Mt c2 fun _ => ?_
 refine Mt c2 fun _ => ?_
 refine Mt c2 fun _ => ?_
 refine Mt c2 fun _ => ?_
 refine Mt c2 fun _ => ?_
 refine Mt c2 fun _ => ?_
 refine Mt c2 fun _ => ?_
 refine Mt c2 fun _ => ?_
 refine Mt c2 fun _ => ?_
 refine My (cX rfl hh c2 hh) fun _ => ?_
 refine Z9 ?_
 revert H; refine bs fun r1 H e1 => ?_
 cases e1; cases Hr2
 refine Z3 ?_
 revert H; refine bs fun r2 H e2 => ?_
 cases e2; cases Hr1
 cases H
 exact To
 exact fk
 kernel_rfl
 revert H; refine bs fun y4 h4 H => ?_
 revert H; refine bs fun y5 h5 H => ?_
 revert H; refine bs fun y6 h6 H => ?_
 apply bB (ods := [_, _, _, _, _, _, _, _, _, _, _, _, _, _, _, _, _, _, _, _, _, _, _, _, _, _, _, _]) 28 0 0 bC rfl rfl rfl
 dsimp only [aY, List.take, List.replicate, List.append, List.drop]
 refine M3 ?_
 intros
 refine My (bO rfl hh hh (el rfl) h1) fun _ => ?_
 refine M4 ?_
 intros
 refine My (bO rfl hh hh (el rfl) h2) fun _ => ?_
 refine M2 ?_
 intros
 refine xP (od := odC [] true (aJ y3) []) (Φ := aJ y3) rfl (fun _ => rfl) trivial rfl rfl (has rfl) (aD.cons (has rfl) (aD.cons (has rfl) (aD.cons (has rfl) aD.nil))) rfl (cb rfl) (vP fuel y1.Chans y2.Chans true a2 y3 h3) (fun _ => ?_)
 refine M2 ?_
 intros
 refine Mg c2 (bL rfl hh) fun _ => ?_
 refine Mg c2 (bL rfl hh) fun _ => ?_
 refine Mg c2 (bL rfl hh) fun _ => ?_
 refine Mg c2 (bO rfl hh hh (el rfl) h4) fun _ => ?_
 refine Mg c2 (dU (t' := (tSl (aB .i64))) (z := y4.Rules) rfl hh (fa rfl) rfl) fun _ => ?_
 refine Mg c2 (dP rfl hh (sc rfl) rfl) fun _ => ?_
 refine Mg c2 (bL rfl hh) fun _ => ?_
 refine Mg c2 (bL rfl hh) fun _ => ?_
 refine Mg c2 (bO rfl hh hh (el rfl) h5) fun _ => ?_
 refine Mg c2 (dU (t' := (tSl (aB .i64))) (z := y5.Rules) rfl hh (fa rfl) rfl) fun _ => ?_
 refine Mg c2 (dP rfl hh (sc rfl) rfl) fun _ => ?_
 refine xP (od := odC [] true (aJ y6) []) (Φ := aJ y6) rfl (fun _ => rfl) ⟨_, _, rfl, rfl, c2⟩ rfl rfl (has rfl) (aD.cons (has rfl) (aD.cons (has rfl) (aD.cons (has rfl) aD.nil))) rfl (cb rfl) (vP fuel y4.Rules y5.Rules false a2 y6 h6) (fun _ => ?_)
 refine Mg c2 (gN rfl hh) fun _ => ?_
 refine My (bY rfl hh c2 hh) fun _ => ?_
 refine Z2 ?_
 revert H; refine cs (fun c3 H => ?_) fun c3 H => ?_
 refine cU (has rfl) (jS c3) ?_
 refine Z5 ?_
 revert H; refine bs fun y7 h7 H => ?_
 refine Yy (bO rfl hh hh (el rfl) h7) ?_
 refine Z6 ?_
 refine Tl (ι := Nat × Int) (fun i => lN fuel a0 a1 a2 x2 y7 i.1 i.2 = _) (fun i => i.1) (fun i => [(0, fSl bG a0), (1, fSl bG a1), (7, dD 82 [aG (tFn Tryz.prog (fun (x : Int × Int × Bool) => [aA .i64 x.1, aA .i64 x.2.1, aJ x.2.2]) (fun (r : Bool) => aJ r)) a2]), (12, aA .i64 (a0.length : Int)), (13, aA .i64 x2), (8, aA .i64 x2), (49, aA .i64 (y7.Args.length : Int)), (50, aA .i64 i.2)]) (fun i => []) (fuel, 0) H ?_
 clear H; rintro ⟨k2, x4⟩ H
 replace H : lN fuel a0 a1 a2 x2 y7 k2 x4 = _ := H
 try dsimp only
 obtain _ | k2 := k2
 rw [lN] at H; cases H
 rw [lN] at H
 refine Z3 ?_
 refine aI ?_
 revert H; refine is (fun c4 H => ?_) fun c4 H => ?_
 refine cV (has rfl) c4 ?_
 refine Z2 ?_
 refine aI ?_
 refine Z5 ?_
 refine aI ?_
 revert H; refine bs fun y8 h8 H => ?_
 revert H; refine bs fun y9 h9 H => ?_
 revert H; refine bs fun y10 h10 H => ?_
 revert H; refine bs fun y11 h11 H => ?_
 revert H; refine bs fun y12 h12 H => ?_
 apply bB (ods := [_, _, _, _, _, _, _, _, _, _, _, _, _, _, _, _, _, _, _]) 19 0 0 bC rfl rfl rfl
 dsimp only [aY, List.take, List.replicate, List.append, List.drop]
 refine M3 ?_
 intros
 refine My (bO rfl hh hh (el rfl) h8) fun _ => ?_
 refine M3 ?_
 intros
 refine My (bO rfl hh hh (el rfl) h9) fun _ => ?_
 refine M3 ?_
 intros
 refine My (bO rfl hh hh (el rfl) h10) fun _ => ?_
 refine M3 ?_
 intros
 refine My (bO rfl hh hh (el rfl) h11) fun _ => ?_
 refine M1 ?_
 intros
 refine xP (od := odC [] true (aJ y12) []) (Φ := aJ y12) rfl (fun _ => rfl) trivial rfl rfl (has rfl) (aD.cons (has rfl) (aD.cons (has rfl) (aD.cons (has rfl) aD.nil))) rfl (cb rfl) (vP fuel y9 y11 false a2 y12 h12) (fun _ => ?_)
 refine M1 ?_
 intros
 refine Z2 ?_
 revert H; refine cs (fun c5 H => ?_) fun c5 H => ?_
 refine cU (has rfl) (jS c5) ?_
 refine Z4 ?_
 revert H; refine bs fun z1 h13 H => ?_
 refine Yy (eQ rfl hh hh h13) ?_
 refine Z2 ?_
 exact Tm ((k2, z1)) ⟨H, ls⟩
 refine cV (has rfl) (jV c5) ?_
 refine Z10 ?_
 revert H; refine bs fun r3 H e3 => ?_
 cases e3; cases Hr2
 refine Z3 ?_
 revert H; refine bs fun r4 H e4 => ?_
 cases e4; cases Hr1
 cases H
 exact To
 exact fk
 kernel_rfl
 refine cU (has rfl) c4 ?_
 refine Z6 ?_
 exact Tm (()) (ij H)
 refine cV (has rfl) (jV c3) ?_
 refine Z6 ?_
 revert H; refine bs fun r5 H e5 => ?_
 cases e5; cases Hr2
 refine Z3 ?_
 revert H; refine bs fun r6 H e6 => ?_
 cases e6; cases Hr1
 cases H
 exact To
 exact fk
 kernel_rfl
 clear H; intro i hi; subst o2; have H := Hr2; clear Hr2; try dsimp only at H
 try dsimp only
 refine Z1 ?_
 revert H; refine bs fun z2 h14 H => ?_
 refine Yy (eQ rfl hh hh h14) ?_
 refine Z2 ?_
 exact Tm ((k1, z2)) ⟨H, ls⟩
 refine cU (has rfl) c1 ?_
 refine Z5 ?_
 exact Tm (()) (ij H)
 clear H; intro i hi; subst o1; have H := Hr1; clear Hr1; try dsimp only at H
 try dsimp only
 refine Z4 ?_
 cases H
 exact To
def qG (a0 : Int) (a1 : Int) (a2 : Bool) : Option (Bool) :=
 (if 1 ≤ a0 then
  if a0 ≤ 4 then
   bif a2 then
    some true
   else
    some (decide (a0 ≠ 2))
  else
   some false
 else
  some false).bind fun x1 =>
 some x1
theorem aDI  (a0 : Int) (a1 : Int) (a2 : Bool) (r : Bool) (H : qG a0 a1 a2 = some r) : FnS Tryz.prog 63 [aA .i64 a0, aA .i64 a1, aJ a2] [] (aJ r) (fun _ => []) := by
 unfold qG at H
 refine bI Tryz.func63 rfl Tryz.ntmps63 rfl (fun β => ?_)
 refine Z3 ?_
 revert H; refine bs fun o1 H Hr1 => ?_
 refine aW (ι := Bool) (fun i => o1 = i) (fun i => [(6, aJ i)]) (fun i => []) ?_ ?_
 refine Z4 ?_
 revert H; refine is (fun c1 H => ?_) fun c1 H => ?_
 refine Z4 ?_
 revert H; refine is (fun c2 H => ?_) fun c2 H => ?_
 refine Z2 ?_
 revert H; refine cs (fun c3 H => ?_) fun c3 H => ?_
 refine Z6 ?_
 exact Tm (true) (ij H)
 refine Z6 ?_
 exact Tm (decide (a0 ≠ 2)) (ij H)
 refine Z2 ?_
 refine dF (⟨_, _, _, _, rfl, rfl, rfl, nu⟩) rfl rfl ?_
 refine dF (⟨_, _, _, _, rfl, rfl, rfl, nu⟩) rfl rfl ?_
 refine Z4 ?_
 exact Tm (false) (ij H)
 refine Z6 ?_
 refine dF (⟨_, _, _, _, rfl, rfl, rfl, nu⟩) rfl rfl ?_
 refine dF (⟨_, _, _, _, rfl, rfl, rfl, nu⟩) rfl rfl ?_
 refine Z4 ?_
 exact Tm (false) (ij H)
 clear H; intro x1 hi; subst o1; have H := Hr1; clear Hr1; try dsimp only at H
 try dsimp only
 refine Z1 ?_
 cases H
 exact To
end Go.Proofs.YtmnbfgeljmhekaaGreat
set_option maxRecDepth 100000
set_option maxHeartbeats 2000000
namespace Go.Proofs.YtmnbfgeljmhekaaGreat
open Go.SX Go.SW Go.Dt
attribute [local irreducible] Code.wpIn wpListIn Exit.then Exit.inBlock
def kD (y1 : ScopeDef) (y2 : UsageDef) : Nat → Int → Option ((Unit) ⊕ ((Unit) ⊕ (Bool)))
| 0, _ => none
| k + 1, x4 =>
 if x4 < (y2.Args.length : Int) then
  (idx y2.Args x4).bind fun y3 =>
  (idx y1.Chans x4).bind fun y4 =>
  if (y3.length : Int) ≠ y4.Many then
   ((some false).bind fun r => some (Sum.inr r)).bind fun r => some (Sum.inr r)
  else
   (chk (x4 + 1)).bind fun z1 =>
   kD y1 y2 k z1
 else
  some (Sum.inl ())
def kT (fuel : Nat) (a0 : Usage_text) (a1 : List UsageDef) : Nat → Int → Option ((Unit) ⊕ (Bool))
| 0, _ => none
| k + 1, x2 =>
 if x2 < (a0.ScopeProg.Defs.length : Int) then
  ((idx a0.ScopeProg.Defs x2).bind fun y1 =>
  (idx a1 x2).bind fun y2 =>
  if (y2.Chans.length : Int) ≠ (y1.Chans.length : Int) then
   ((some false).bind fun r => some (Sum.inr r)).bind fun r => some (Sum.inr r)
  else
   if (y2.Rules.length : Int) ≠ (y1.Rules.length : Int) then
    ((some false).bind fun r => some (Sum.inr r)).bind fun r => some (Sum.inr r)
   else
    if (y2.Args.length : Int) ≠ (y1.Chans.length : Int) then
     ((some false).bind fun r => some (Sum.inr r)).bind fun r => some (Sum.inr r)
    else
     kD y1 y2 fuel 0).bind fun o => match o with
  | Sum.inr r => some r
  | Sum.inl _ =>
  (chk (x2 + 1)).bind fun z2 =>
  kT fuel a0 a1 k z2
 else
  some (Sum.inl ())
def rG (fuel : Nat) (a0 : Usage_text) (a1 : List UsageDef) : Option (Bool) :=
 if (a1.length : Int) ≠ (a0.ScopeProg.Defs.length : Int) then
  some false
 else
  (kT fuel a0 a1 fuel 0).bind fun o => match o with
  | Sum.inr r => some r
  | Sum.inl _ =>
  (pI fuel a1 a1 (fun x => qG x.1 x.2.1 x.2.2)).bind fun y5 =>
  some y5
theorem aBf (fuel : Nat)  (a0 : Usage_text) (a1 : List UsageDef) (r : Bool) (H : rG fuel a0 a1 = some r) : FnS Tryz.prog 26 [aG bP a0, fSl bG a1] [] (aJ r) (fun _ => []) := by
 unfold rG at H
 refine bI Tryz.func26 rfl Tryz.ntmps26 rfl (fun β => ?_)
 refine Z3 ?_
 refine aI ?_
 refine Z11 ?_
 revert H; refine is (fun c1 H => ?_) fun c1 H => ?_
 refine Z5 ?_
 cases H
 exact To
 refine Z3 ?_
 revert H; refine bs fun o1 H Hr1 => ?_
 refine aW (ι := Unit) (fun i => o1 = Sum.inl ()) (fun i => [(1, fSl bG a1)]) (fun i => []) ?_ ?_
 refine Z10 ?_
 refine Tl (ι := Nat × Int) (fun i => kT fuel a0 a1 i.1 i.2 = _) (fun i => i.1) (fun i => [(1, fSl bG a1), (23, fSl aK a0.ScopeProg.Defs), (24, aA .i64 (a0.ScopeProg.Defs.length : Int)), (25, aA .i64 i.2)]) (fun i => []) (fuel, 0) H ?_
 clear H; rintro ⟨k1, x2⟩ H
 replace H : kT fuel a0 a1 k1 x2 = _ := H
 try dsimp only
 obtain _ | k1 := k1
 rw [kT] at H; cases H
 rw [kT] at H
 refine Z3 ?_
 refine aI ?_
 revert H; refine is (fun c2 H => ?_) fun c2 H => ?_
 refine Z3 ?_
 revert H; refine bs fun o2 H Hr2 => ?_
 refine aW (ι := Unit) (fun i => o2 = Sum.inl ()) (fun i => [(1, fSl bG a1), (23, fSl aK a0.ScopeProg.Defs), (24, aA .i64 (a0.ScopeProg.Defs.length : Int)), (25, aA .i64 x2)]) (fun i => []) ?_ ?_
 refine Z3 ?_
 revert H; refine bs fun y1 h1 H => ?_
 refine Z2 ?_
 refine aQ trivial rfl rfl (cF rfl kX rfl) (fun b1 => ?_)
 refine Z1 ?_
 refine dB (φs' := [fSl aZ y1.Chans, fSl bN y1.Spots, fSl bD y1.Rules]) trivial rfl rfl (has rfl) (has rfl) (aM (bA) (aM (bA) (aM (bA) bS))) (sz rfl) rfl rfl rfl ?_
 refine Z4 ?_
 revert H; refine bs fun y2 h2 H => ?_
 refine Z2 ?_
 refine aQ trivial rfl rfl (cF rfl wX rfl) (fun b2 => ?_)
 refine dB (φs' := [fSl (aB .i64) y2.Chans, fSl (aB .i64) y2.Rules, fSl (tSl (aB .i64)) y2.Args]) trivial rfl rfl (has rfl) (has rfl) (aM (bA) (aM (bA) (aM (bA) bS))) (sz rfl) rfl rfl rfl ?_
 refine Z1 ?_
 refine aI ?_
 refine Z9 ?_
 revert H; refine is (fun c3 H => ?_) fun c3 H => ?_
 refine Z12 ?_
 refine Z12 ?_
 refine Z1 ?_
 revert H; refine bs fun r1 H e1 => ?_
 cases e1; cases Hr2
 refine Z3 ?_
 revert H; refine bs fun r2 H e2 => ?_
 cases e2; cases Hr1
 cases H
 refine aH [] (by decide) ?_
 exact To
 refine Z9 ?_
 revert H; refine is (fun c4 H => ?_) fun c4 H => ?_
 refine Z12 ?_
 refine Z4 ?_
 revert H; refine bs fun r3 H e3 => ?_
 cases e3; cases Hr2
 refine Z3 ?_
 revert H; refine bs fun r4 H e4 => ?_
 cases e4; cases Hr1
 cases H
 refine aH [] (by decide) ?_
 exact To
 refine Z9 ?_
 revert H; refine is (fun c5 H => ?_) fun c5 H => ?_
 refine Z7 ?_
 revert H; refine bs fun r5 H e5 => ?_
 cases e5; cases Hr2
 refine Z3 ?_
 revert H; refine bs fun r6 H e6 => ?_
 cases e6; cases Hr1
 cases H
 refine aH [] (by decide) ?_
 exact To
 refine Z10 ?_
 refine Tl (ι := Nat × Int) (fun i => kD y1 y2 i.1 i.2 = _) (fun i => i.1) (fun i => [(1, fSl bG a1), (23, fSl aK a0.ScopeProg.Defs), (24, aA .i64 (a0.ScopeProg.Defs.length : Int)), (25, aA .i64 x2), (6, fEq (.pointer (some ⟨b1, 0, none⟩))), (60, fSl (tSl (aB .i64)) y2.Args), (61, aA .i64 (y2.Args.length : Int)), (62, aA .i64 i.2)]) (fun i => [aC b2 61 [fSl (aB .i64) y2.Chans, fSl (aB .i64) y2.Rules, fSl (tSl (aB .i64)) y2.Args], aC b1 99 [fSl aZ y1.Chans, fSl bN y1.Spots, fSl bD y1.Rules]]) (fuel, 0) H ?_
 clear H; rintro ⟨k2, x4⟩ H
 replace H : kD y1 y2 k2 x4 = _ := H
 try dsimp only
 obtain _ | k2 := k2
 rw [kD] at H; cases H
 rw [kD] at H
 refine Z3 ?_
 refine aI ?_
 revert H; refine is (fun c6 H => ?_) fun c6 H => ?_
 refine Z3 ?_
 refine aI ?_
 refine Z3 ?_
 revert H; refine bs fun y3 h3 H => ?_
 refine Z11 ?_
 revert H; refine bs fun y4 h4 H => ?_
 refine Z5 ?_
 revert H; refine is (fun c7 H => ?_) fun c7 H => ?_
 refine Z11 ?_
 revert H; refine bs fun r7 H e7 => ?_
 cases e7; cases Hr2
 refine Z3 ?_
 revert H; refine bs fun r8 H e8 => ?_
 cases e8; cases Hr1
 cases H
 refine aH [] (by decide) ?_
 exact To
 refine Z5 ?_
 revert H; refine bs fun z1 h5 H => ?_
 refine Z3 ?_
 exact Tm ((k2, z1)) ⟨H, ls⟩
 refine Z7 ?_
 refine aH [] (by decide) ?_
 exact Tm (()) (ij H)
 clear H; intro i hi; subst o2; have H := Hr2; clear Hr2; try dsimp only at H
 try dsimp only
 refine Z1 ?_
 revert H; refine bs fun z2 h6 H => ?_
 refine Z3 ?_
 exact Tm ((k1, z2)) ⟨H, ls⟩
 refine Z6 ?_
 exact Tm (()) (ij H)
 clear H; intro i hi; subst o1; have H := Hr1; clear Hr1; try dsimp only at H
 try dsimp only
 refine Z3 ?_
 revert H; refine bs fun y5 h7 H => ?_
 refine iH trivial rfl rfl rfl (has rfl) (aD.cons (has rfl) (aD.cons (has rfl) (aD.cons (dJ rfl (pG (cb rfl) (fun x r hx => aDI x.1 x.2.1 x.2.2 r hx))) aD.nil))) rfl (cb rfl) (zF fuel a1 a1 (fun x => qG x.1 x.2.1 x.2.2) y5 h7) rfl ?_
 refine Z3 ?_
 cases H
 exact To
def lH (a0 : Int) : Option (Int) :=
 if a0 = 1 then
  some 0
 else
  if a0 = 4 then
   some 2
  else
   some 1
theorem rC  (a0 : Int) (r : Int) (H : lH a0 = some r) : FnS Tryz.prog 46 [aA .i64 a0] [] (aA .i64 r) (fun _ => []) := by
 unfold lH at H
 refine bI Tryz.func46 rfl Tryz.ntmps46 rfl (fun β => ?_)
 refine Z3 ?_
 refine aI ?_
 refine Z8 ?_
 revert H; refine is (fun c1 H => ?_) fun c1 H => ?_
 refine Z7 ?_
 cases H
 exact To
 refine Z5 ?_
 revert H; refine is (fun c2 H => ?_) fun c2 H => ?_
 refine Z7 ?_
 cases H
 exact To
 refine Z8 ?_
 cases H
 exact To
def mS (a0 : Int) (a1 : Int) : Option (Int) :=
 (chk (a0 + a1)).bind fun z1 =>
 some (min z1 2)
theorem xY  (a0 : Int) (a1 : Int) (r : Int) (H : mS a0 a1 = some r) : FnS Tryz.prog 66 [aA .i64 a0, aA .i64 a1] [] (aA .i64 r) (fun _ => []) := by
 unfold mS at H
 refine bI Tryz.func66 rfl Tryz.ntmps66 rfl (fun β => ?_)
 refine Z6 ?_
 revert H; refine bs fun z1 h1 H => ?_
 refine Z5 ?_
 cases H
 exact To
def nH (a0 : Usage_text) (a1 : Usage_channel) (a2 : Int) : Option (Bool) :=
 (idx a0.ScopeProg.Defs a1.def_).bind fun y1 =>
 (idx y1.Chans a1.index).bind fun y2 =>
 (idx a0.ScopeProg.Nodes a2).bind fun y3 =>
 some (decide (y2.Many = (y3.Args.length : Int)))
theorem aCK  (a0 : Usage_text) (a1 : Usage_channel) (a2 : Int) (r : Bool) (H : nH a0 a1 a2 = some r) : FnS Tryz.prog 75 [aG bP a0, fSt dK a1, aA .i64 a2] [] (aJ r) (fun _ => []) := by
 unfold nH at H
 refine bI Tryz.func75 rfl Tryz.ntmps75 rfl (fun β => ?_)
 refine Z1 ?_
 refine aQ trivial rfl rfl (cC rfl (has rfl) bQ) (fun b1 => ?_)
 refine Z2 ?_
 refine aI ?_
 revert H; refine bs fun y1 h1 H => ?_
 revert H; refine bs fun y2 h2 H => ?_
 revert H; refine bs fun y3 h3 H => ?_
 apply bB (ods := [_, _, _, _, _, _, _, _, _, _, _, _, _, _, _, _, _, _, _, _, _, _, _, _, _, _, _]) 27 0 1 bC rfl rfl rfl
 dsimp only [aY, List.take, List.replicate, List.append, List.drop]
 refine M8 ?_
 intros
 refine M8 ?_
 intros
 refine M8 ?_
 intros
 refine M3 ?_
 intros
 refine Z3 ?_
 cases H
 refine aH [] (by decide) ?_
 exact To
 exact fk
 kernel_rfl
def jU (a1 : List UsageDef) (a3 : Int) (y1 : ScopeNode) (y2 : aS Int Usage_channel) : Nat → Int → Int → Option (Int)
| 0, _, _ => none
| k + 1, x5, x6 =>
 if x6 < (y1.Args.length : Int) then
  ((idx y1.Args x6).bind fun y4 =>
  if y4.Op ≠ 2 then
   some x5
  else
   if y4.N ≠ a3 then
    some x5
   else
    bif (y2.get y1.N).isSome then
     (idx a1 (((y2.get y1.N).getD (⟨0, 0⟩ : Usage_channel)).def_)).bind fun y5 =>
     (idx y5.Args (((y2.get y1.N).getD (⟨0, 0⟩ : Usage_channel)).index)).bind fun y6 =>
     (idx y6 x6).bind fun y7 =>
     (lH y7).bind fun y8 =>
     (mS x5 y8).bind fun y9 =>
     some y9
    else
     some 2).bind fun x7 =>
  (chk (x6 + 1)).bind fun z1 =>
  jU a1 a3 y1 y2 k x7 z1
 else
  some x5
def uB (fuel : Nat) (a0 : Usage_text) (a1 : List UsageDef) (a2 : Int) (a3 : Int) : Option (Int) :=
 (idx a0.ScopeProg.Nodes a2).bind fun y1 =>
 (idx a0.denotes a2).bind fun y2 =>
 (bif (y2.get y1.N).isSome then
  (nH a0 (⟨((y2.get y1.N).getD (⟨0, 0⟩ : Usage_channel)).def_, ((y2.get y1.N).getD (⟨0, 0⟩ : Usage_channel)).index⟩ : Usage_channel) a2).bind fun y3 =>
  bif y3 then
   some (Sum.inl ())
  else
   (some 0).bind fun r => some (Sum.inr r)
 else
  some (Sum.inl ())).bind fun o => match o with
 | Sum.inr r => some r
 | Sum.inl _ =>
 (if y1.N = a3 then
  some 1
 else
  some 0).bind fun x1 =>
 (jU a1 a3 y1 y2 fuel x1 0).bind fun x2 =>
 some x2
theorem aDV (fuel : Nat)  (a0 : Usage_text) (a1 : List UsageDef) (a2 : Int) (a3 : Int) (r : Int) (H : uB fuel a0 a1 a2 a3 = some r) : FnS Tryz.prog 64 [aG bP a0, fSl bG a1, aA .i64 a2, aA .i64 a3] [] (aA .i64 r) (fun _ => []) := by
 unfold uB at H
 refine bI Tryz.func64 rfl Tryz.ntmps64 rfl (fun β => ?_)
 refine Z10 ?_
 revert H; refine bs fun y1 h1 H => ?_
 refine Z2 ?_
 refine aQ trivial rfl rfl (cF rfl hO rfl) (fun b1 => ?_)
 refine dB (φs' := [aA .i64 y1.Op, aA .i64 y1.N, fSl aU y1.Args, fSl (aB .i64) y1.Kids]) trivial rfl rfl (has rfl) (has rfl) (aM (aF trivial) (aM (aF trivial) (aM (bA) (aM (bA) bS)))) (sz rfl) rfl rfl rfl ?_
 refine Z1 ?_
 refine aI ?_
 revert H; refine bs fun y2 h2 H => ?_
 apply bB (ods := [_, _, _, _, _, _, _, _, _, _, _, _, _, _, _, _]) 16 1 2 bC rfl rfl rfl
 dsimp only [aY, List.take, List.replicate, List.append, List.drop]
 refine M8 ?_
 intros
 refine M1 ?_
 intros
 refine My (aCy (zα := (⟨0, 0⟩ : Usage_channel)) (k := y1.N) rfl hh hh rfl uO (oU [(.int .i64 0), (.int .i64 0)])) fun _ => ?_
 refine M3 ?_
 intros
 refine Mn 1 (fun b2 => ptr b2) (fun b2 => aC b2 121 [aA .i64 0, aA .i64 0]) rfl (cF rfl aAC rfl) (fun b2 u1 => ?_)
 refine mA (od := od1 13 [1] true (fun b2 _ => fAny) (fun b2 _ => [aC b2 121 [aA .i64 (((y2.get y1.N).getD (⟨0, 0⟩ : Usage_channel)).def_), aA .i64 (((y2.get y1.N).getD (⟨0, 0⟩ : Usage_channel)).index)]])) (p := 1) (φs' := [aA .i64 (((y2.get y1.N).getD (⟨0, 0⟩ : Usage_channel)).def_), aA .i64 (((y2.get y1.N).getD (⟨0, 0⟩ : Usage_channel)).index)]) rfl (fun _ => rfl) (fun _ => rfl) trivial rfl rfl rfl (has rfl) (has rfl) (aM (aF trivial) (aM (aF trivial) bS)) (sz rfl) rfl rfl rfl (fun _ => ?_)
 refine M1 ?_
 intros
 refine Z2 ?_
 revert H; refine bs fun o1 H Hr1 => ?_
 refine aW (ι := Unit) (fun i => o1 = Sum.inl ()) (fun i => [(1, fSl bG a1), (3, aA .i64 a3), (9, fEq (.pointer (some ⟨b1, 0, none⟩))), (10, fEq (.pointer (some ⟨b2, 0, none⟩))), (11, aJ ((y2.get y1.N).isSome))]) (fun i => [aC b1 51 [aA .i64 y1.Op, aA .i64 y1.N, fSl aU y1.Args, fSl (aB .i64) y1.Kids], aC b2 121 [aA .i64 (((y2.get y1.N).getD (⟨0, 0⟩ : Usage_channel)).def_), aA .i64 (((y2.get y1.N).getD (⟨0, 0⟩ : Usage_channel)).index)]]) ?_ ?_
 refine Z3 ?_
 revert H; refine cs (fun c1 H => ?_) fun c1 H => ?_
 refine Z3 ?_
 revert H; refine bs fun y3 h3 H => ?_
 refine Tc (aCK _ _ _ _ h3) ?_
 refine Z3 ?_
 revert H; refine cs (fun c2 H => ?_) fun c2 H => ?_
 refine Z3 ?_
 exact Tm (()) (ij H)
 refine Z5 ?_
 revert H; refine bs fun r1 H e1 => ?_
 cases e1; cases Hr1
 cases H
 refine aH [] (by decide) ?_
 exact To
 refine Z10 ?_
 exact Tm (()) (ij H)
 clear H; intro i hi; subst o1; have H := Hr1; clear Hr1; try dsimp only at H
 try dsimp only
 refine Z3 ?_
 revert H; refine bs fun o2 H Hr2 => ?_
 refine aW (ι := Int) (fun i => o2 = i) (fun i => [(1, fSl bG a1), (3, aA .i64 a3), (9, fEq (.pointer (some ⟨b1, 0, none⟩))), (10, fEq (.pointer (some ⟨b2, 0, none⟩))), (11, aJ ((y2.get y1.N).isSome)), (12, aA .i64 i)]) (fun i => [aC b1 51 [aA .i64 y1.Op, aA .i64 y1.N, fSl aU y1.Args, fSl (aB .i64) y1.Kids], aC b2 121 [aA .i64 (((y2.get y1.N).getD (⟨0, 0⟩ : Usage_channel)).def_), aA .i64 (((y2.get y1.N).getD (⟨0, 0⟩ : Usage_channel)).index)]]) ?_ ?_
 refine Z6 ?_
 revert H; refine is (fun c3 H => ?_) fun c3 H => ?_
 refine Z4 ?_
 exact Tm (1) (ij H)
 refine Z3 ?_
 exact Tm (0) (ij H)
 clear H; intro x1 hi; subst o2; have H := Hr2; clear Hr2; try dsimp only at H
 try dsimp only
 revert H; refine bs fun o3 H Hr3 => ?_
 refine aW (ι := Int) (fun i => o3 = i) (fun i => [(12, aA .i64 i)]) (fun i => [aC b1 51 [aA .i64 y1.Op, aA .i64 y1.N, fSl aU y1.Args, fSl (aB .i64) y1.Kids], aC b2 121 [aA .i64 (((y2.get y1.N).getD (⟨0, 0⟩ : Usage_channel)).def_), aA .i64 (((y2.get y1.N).getD (⟨0, 0⟩ : Usage_channel)).index)]]) ?_ ?_
 refine Z7 ?_
 refine Tl (ι := Nat × Int × Int) (fun i => jU a1 a3 y1 y2 i.1 i.2.1 i.2.2 = _) (fun i => i.1) (fun i => [(1, fSl bG a1), (3, aA .i64 a3), (10, fEq (.pointer (some ⟨b2, 0, none⟩))), (11, aJ ((y2.get y1.N).isSome)), (12, aA .i64 i.2.1), (49, fSl aU y1.Args), (50, aA .i64 (y1.Args.length : Int)), (51, aA .i64 i.2.2)]) (fun i => [aC b1 51 [aA .i64 y1.Op, aA .i64 y1.N, fSl aU y1.Args, fSl (aB .i64) y1.Kids], aC b2 121 [aA .i64 (((y2.get y1.N).getD (⟨0, 0⟩ : Usage_channel)).def_), aA .i64 (((y2.get y1.N).getD (⟨0, 0⟩ : Usage_channel)).index)]]) (fuel, x1, 0) H ?_
 clear H; rintro ⟨k1, x5, x6⟩ H
 replace H : jU a1 a3 y1 y2 k1 x5 x6 = _ := H
 try dsimp only
 obtain _ | k1 := k1
 rw [jU] at H; cases H
 rw [jU] at H
 refine Z3 ?_
 refine aI ?_
 revert H; refine is (fun c4 H => ?_) fun c4 H => ?_
 refine Z3 ?_
 revert H; refine bs fun o4 H Hr4 => ?_
 refine aW (ι := Int) (fun i => o4 = i) (fun i => [(1, fSl bG a1), (3, aA .i64 a3), (10, fEq (.pointer (some ⟨b2, 0, none⟩))), (11, aJ ((y2.get y1.N).isSome)), (12, aA .i64 i), (49, fSl aU y1.Args), (50, aA .i64 (y1.Args.length : Int)), (51, aA .i64 x6)]) (fun i => [aC b1 51 [aA .i64 y1.Op, aA .i64 y1.N, fSl aU y1.Args, fSl (aB .i64) y1.Kids], aC b2 121 [aA .i64 (((y2.get y1.N).getD (⟨0, 0⟩ : Usage_channel)).def_), aA .i64 (((y2.get y1.N).getD (⟨0, 0⟩ : Usage_channel)).index)]]) ?_ ?_
 refine Z3 ?_
 revert H; refine bs fun y4 h4 H => ?_
 refine Z2 ?_
 refine aQ trivial rfl rfl (cF rfl yI rfl) (fun b3 => ?_)
 refine Z1 ?_
 refine dB (φs' := [aA .i64 y4.Op, aA .i64 y4.N, fN y4.Kids]) trivial rfl rfl (has rfl) (has rfl) (aM (aF trivial) (aM (aF trivial) (aM (xG) bS))) (sz rfl) rfl rfl rfl ?_
 refine Z7 ?_
 revert H; refine is (fun c5 H => ?_) fun c5 H => ?_
 refine Z12 ?_
 refine aH [1, 2] (by decide) ?_
 exact Tm (x5) (ij H)
 refine Z7 ?_
 revert H; refine is (fun c6 H => ?_) fun c6 H => ?_
 refine Z5 ?_
 refine aH [1, 2] (by decide) ?_
 exact Tm (x5) (ij H)
 refine Z5 ?_
 revert H; refine cs (fun c7 H => ?_) fun c7 H => ?_
 refine Z1 ?_
 revert H; refine bs fun y5 h5 H => ?_
 revert H; refine bs fun y6 h6 H => ?_
 revert H; refine bs fun y7 h7 H => ?_
 revert H; refine bs fun y8 h8 H => ?_
 revert H; refine bs fun y9 h9 H => ?_
 apply bB (ods := [_, _, _, _, _, _, _, _, _, _, _, _, _, _, _, _, _]) 17 0 3 bC rfl rfl rfl
 dsimp only [aY, List.take, List.replicate, List.append, List.drop]
 refine M8 ?_
 intros
 refine M6 ?_
 intros
 refine bT (od := odC [] true (aA .i64 y8) []) (Φ := aA .i64 y8) rfl (fun _ => rfl) trivial rfl rfl (has rfl) (aD.cons (has rfl) aD.nil) rfl (cb rfl) (rC y7 y8 h8) (fun _ => ?_)
 refine bT (od := odC [] true (aA .i64 y9) []) (Φ := aA .i64 y9) rfl (fun _ => rfl) trivial rfl rfl (has rfl) (aD.cons (has rfl) (aD.cons (has rfl) aD.nil)) rfl (cb rfl) (xY x5 y8 y9 h9) (fun _ => ?_)
 refine M1 ?_
 intros
 refine Z5 ?_
 refine aH [1, 2] (by decide) ?_
 exact Tm (y9) (ij H)
 exact fk
 kernel_rfl
 refine Z7 ?_
 refine aH [1, 2] (by decide) ?_
 exact Tm (2) (ij H)
 clear H; intro x7 hi; subst o4; have H := Hr4; clear Hr4; try dsimp only at H
 try dsimp only
 refine Z1 ?_
 revert H; refine bs fun z1 h10 H => ?_
 refine Z3 ?_
 exact Tm ((k1, x7, z1)) ⟨H, ls⟩
 refine Z6 ?_
 exact Tm (x5) (ij H)
 clear H; intro x2 hi; subst o3; have H := Hr3; clear Hr3; try dsimp only at H
 try dsimp only
 refine Z5 ?_
 cases H
 refine aH [] (by decide) ?_
 exact To
 exact fk
 kernel_rfl
def pF (a0 : Int) (a1 : Int) : Option (Int) :=
 if a0 < a1 then
  some a1
 else
  some a0
theorem aCx  (a0 : Int) (a1 : Int) (r : Int) (H : pF a0 a1 = some r) : FnS Tryz.prog 67 [aA .i64 a0, aA .i64 a1] [] (aA .i64 r) (fun _ => []) := by
 unfold pF at H
 refine bI Tryz.func67 rfl Tryz.ntmps67 rfl (fun β => ?_)
 refine Z3 ?_
 refine aI ?_
 refine Z5 ?_
 revert H; refine is (fun c1 H => ?_) fun c1 H => ?_
 refine Z6 ?_
 cases H
 exact To
 refine Z8 ?_
 cases H
 exact To
def tX (a0 : Int) (a1 : Int) : Option (Int) :=
 (chk (a0 * a1)).bind fun z1 =>
 some (min z1 2)
theorem aEz  (a0 : Int) (a1 : Int) (r : Int) (H : tX a0 a1 = some r) : FnS Tryz.prog 93 [aA .i64 a0, aA .i64 a1] [] (aA .i64 r) (fun _ => []) := by
 unfold tX at H
 refine bI Tryz.func93 rfl Tryz.ntmps93 rfl (fun β => ?_)
 refine Z6 ?_
 revert H; refine bs fun z1 h1 H => ?_
 refine Z5 ?_
 cases H
 exact To
end Go.Proofs.YtmnbfgeljmhekaaGreat
set_option maxRecDepth 100000
set_option maxHeartbeats 2000000
namespace Go.Proofs.YtmnbfgeljmhekaaGreat
open Go.SX Go.SW Go.Dt
attribute [local irreducible] Code.wpIn wpListIn Exit.then Exit.inBlock
def oX (rec_usage_text_sends : Usage_text → (List UsageDef) → Int → Int → Option (Int)) (a0 : Usage_text) (a1 : List UsageDef) (a3 : Int) (x1 : Int) (x3 : Int) : Option (Int) :=
 (rec_usage_text_sends a0 a1 x1 a3).bind fun y6 =>
 (mS x3 y6).bind fun y7 =>
 some y7
def mI (rec_usage_text_sends : Usage_text → (List UsageDef) → Int → Int → Option (Int)) (a0 : Usage_text) (a1 : List UsageDef) (a3 : Int) (y1 : ScopeNode) (y8 : ScopeDef) : Nat → Int → Int → Option (Int)
| 0, _, _ => none
| k + 1, x8, x9 =>
 if x8 < (y8.Rules.length : Int) then
  (idx y8.Rules x8).bind fun y9 =>
  (idx a1 y1.N).bind fun y10 =>
  (idx y10.Rules x8).bind fun y11 =>
  (lH y11).bind fun y12 =>
  (rec_usage_text_sends a0 a1 y9.Node a3).bind fun y13 =>
  (tX y12 y13).bind fun y14 =>
  (mS x9 y14).bind fun y15 =>
  (chk (x8 + 1)).bind fun z1 =>
  mI rec_usage_text_sends a0 a1 a3 y1 y8 k z1 y15
 else
  some x9
mutual
def fH : Nat → Usage_text → (List UsageDef) → Int → Int → Option (Int)
| 0, _, _, _, _ => none
| fuel + 1, a0, a1, a2, a3 =>
 (idx a0.ScopeProg.Nodes a2).bind fun y1 =>
 if y1.Op = 2 then
  (uB fuel a0 a1 a2 a3).bind fun y2 =>
  some y2
 else
  if y1.Op = 3 then
   ((oZ fuel) a0 a1 a2 a3 (fun x => mS x.1 x.2)).bind fun y3 =>
   some y3
  else
   if y1.Op = 5 then
    ((oZ fuel) a0 a1 a2 a3 (fun x => pF x.1 x.2)).bind fun y4 =>
    some y4
   else
    (if y1.Op = 6 then
     some (decide (y1.Op = 6))
    else
     some (decide (y1.Op = 8))).bind fun x1 =>
    bif x1 then
     (idx a0.ScopeProg.Nodes a2).bind fun y5 =>
     (idx y5.Kids 0).bind fun y6 =>
     ((fH fuel) a0 a1 y6 a3).bind fun y7 =>
     some y7
    else
     if y1.Op = 4 then
      ((nW fuel) a0 a1 a2 a3).bind fun y8 =>
      some y8
     else
      some 0
def oZ : Nat → Usage_text → (List UsageDef) → Int → Int → (Int × Int → Option Int) → Option (Int)
| 0, _, _, _, _, _ => none
| fuel + 1, a0, a1, a2, a3, a4 =>
 (idx a0.ScopeProg.Nodes a2).bind fun y1 =>
 (idx y1.Kids 0).bind fun y2 =>
 ((fH fuel) a0 a1 y2 a3).bind fun y3 =>
 (idx y1.Kids 1).bind fun y4 =>
 ((fH fuel) a0 a1 y4 a3).bind fun y5 =>
 (a4 (y3, y5)).bind fun y6 =>
 some y6
def nW : Nat → Usage_text → (List UsageDef) → Int → Int → Option (Int)
| 0, _, _, _, _ => none
| fuel + 1, a0, a1, a2, a3 =>
 (idx a0.ScopeProg.Nodes a2).bind fun y1 =>
 (idx y1.Kids 0).bind fun y2 =>
 ((fH fuel) a0 a1 y2 a3).bind fun y3 =>
 (oA a0 y1.N).bind fun y4 =>
 (pU fuel (fun (x : Int) (t : Int) => oX (fH fuel) a0 a1 a3 x t) y3 y4.1 y4.2).bind fun y5 =>
 ((idx a0.ScopeProg.Defs y1.N).bind fun y8 =>
 mI (fH fuel) a0 a1 a3 y1 y8 fuel 0 y5).bind fun x5 =>
 some x5
end
theorem aB7 : ∀ (fuel : Nat), (∀  (a0 : Usage_text) (a1 : List UsageDef) (a2 : Int) (a3 : Int) (r : Int) (H : fH fuel a0 a1 a2 a3 = some r), FnS Tryz.prog 27 [aG bP a0, fSl bG a1, aA .i64 a2, aA .i64 a3] [] (aA .i64 r) (fun _ => [])) ∧ (∀  (a0 : Usage_text) (a1 : List UsageDef) (a2 : Int) (a3 : Int) (a4 : Int × Int → Option Int) (r : Int) (H : oZ fuel a0 a1 a2 a3 a4 = some r), FnS Tryz.prog 65 [aG bP a0, fSl bG a1, aA .i64 a2, aA .i64 a3, fFn Tryz.prog (fun (x : Int × Int) => [aA .i64 x.1, aA .i64 x.2]) (fun (r : Int) => aA .i64 r) a4] [] (aA .i64 r) (fun _ => [])) ∧ (∀  (a0 : Usage_text) (a1 : List UsageDef) (a2 : Int) (a3 : Int) (r : Int) (H : nW fuel a0 a1 a2 a3 = some r), FnS Tryz.prog 68 [aG bP a0, fSl bG a1, aA .i64 a2, aA .i64 a3] [] (aA .i64 r) (fun _ => [])) := by
 intro fuel
 induction fuel with
 | zero => exact ⟨fun a0 a1 a2 a3 r H => (by rw [fH] at H; cases H), fun a0 a1 a2 a3 a4 r H => (by rw [oZ] at H; cases H), fun a0 a1 a2 a3 r H => (by rw [nW] at H; cases H)⟩
 | succ fuel ih =>
 obtain ⟨ih_usage_text_sends, ih_usage_text_both, ih_usage_text_inner⟩ := ih
 refine ⟨?_, ?_, ?_⟩
 intro a0 a1 a2 a3 r H
 rw [fH] at H
 refine bI Tryz.func27 rfl Tryz.ntmps27 rfl (fun β => ?_)
 refine Z3 ?_
 refine aI ?_
 refine Z7 ?_
 revert H; refine bs fun y1 h1 H => ?_
 refine Z9 ?_
 revert H; refine is (fun c1 H => ?_) fun c1 H => ?_
 refine Z6 ?_
 revert H; refine bs fun y2 h2 H => ?_
 refine Tc (aDV _ _ _ _ _ _ h2) ?_
 refine Z5 ?_
 cases H
 exact To
 refine Z5 ?_
 revert H; refine is (fun c2 H => ?_) fun c2 H => ?_
 refine Z6 ?_
 revert H; refine bs fun y3 h3 H => ?_
 refine iH trivial rfl rfl rfl (has rfl) (aD.cons (has rfl) (aD.cons (has rfl) (aD.cons (has rfl) (aD.cons (has rfl) (aD.cons (dJ rfl (pG (cb rfl) (fun x r hx => xY x.1 x.2 r hx))) aD.nil))))) rfl (cb rfl) (ih_usage_text_both a0 a1 a2 a3 (fun x => mS x.1 x.2) y3 h3) rfl ?_
 refine Z5 ?_
 cases H
 exact To
 refine Z5 ?_
 revert H; refine is (fun c3 H => ?_) fun c3 H => ?_
 refine Z6 ?_
 revert H; refine bs fun y4 h4 H => ?_
 refine iH trivial rfl rfl rfl (has rfl) (aD.cons (has rfl) (aD.cons (has rfl) (aD.cons (has rfl) (aD.cons (has rfl) (aD.cons (dJ rfl (pG (cb rfl) (fun x r hx => aCx x.1 x.2 r hx))) aD.nil))))) rfl (cb rfl) (ih_usage_text_both a0 a1 a2 a3 (fun x => pF x.1 x.2) y4 h4) rfl ?_
 refine Z5 ?_
 cases H
 exact To
 refine Z1 ?_
 revert H; refine bs fun o1 H Hr1 => ?_
 refine aW (ι := Bool) (fun i => o1 = i) (fun i => [(0, aG bP a0), (1, fSl bG a1), (2, aA .i64 a2), (3, aA .i64 a3), (17, aA .i64 y1.Op), (39, aJ i)]) (fun i => []) ?_ ?_
 refine Z4 ?_
 revert H; refine is (fun c4 H => ?_) fun c4 H => ?_
 refine Z3 ?_
 exact Tm (decide (y1.Op = 6)) (ij H)
 refine Z5 ?_
 exact Tm (decide (y1.Op = 8)) (ij H)
 clear H; intro x1 hi; subst o1; have H := Hr1; clear Hr1; try dsimp only at H
 try dsimp only
 revert H; refine cs (fun c5 H => ?_) fun c5 H => ?_
 refine Z10 ?_
 revert H; refine bs fun y5 h5 H => ?_
 refine Z3 ?_
 revert H; refine bs fun y6 h6 H => ?_
 refine Z3 ?_
 revert H; refine bs fun y7 h7 H => ?_
 refine Tc (ih_usage_text_sends _ _ _ _ _ h7) ?_
 refine Z5 ?_
 cases H
 exact To
 refine Z5 ?_
 revert H; refine is (fun c6 H => ?_) fun c6 H => ?_
 refine Z6 ?_
 revert H; refine bs fun y8 h8 H => ?_
 refine Tc (ih_usage_text_inner _ _ _ _ _ h8) ?_
 refine Z5 ?_
 cases H
 exact To
 refine Z8 ?_
 cases H
 exact To
 intro a0 a1 a2 a3 a4 r H
 rw [oZ] at H
 refine bI Tryz.func65 rfl Tryz.ntmps65 rfl (fun β => ?_)
 refine Z10 ?_
 revert H; refine bs fun y1 h1 H => ?_
 refine Z5 ?_
 refine aI ?_
 revert H; refine bs fun y2 h2 H => ?_
 revert H; refine bs fun y3 h3 H => ?_
 revert H; refine bs fun y4 h4 H => ?_
 revert H; refine bs fun y5 h5 H => ?_
 revert H; refine bs fun y6 h6 H => ?_
 apply bB (ods := [_, _, _, _, _, _, _, _, _, _, _, _, _, _, _, _, _]) 17 0 0 bC rfl rfl rfl
 dsimp only [aY, List.take, List.replicate, List.append, List.drop]
 refine M7 ?_
 intros
 refine bT (od := odC [] true (aA .i64 y3) []) (Φ := aA .i64 y3) rfl (fun _ => rfl) trivial rfl rfl (has rfl) (aD.cons (has rfl) (aD.cons (has rfl) (aD.cons (has rfl) (aD.cons (has rfl) aD.nil)))) rfl (cb rfl) (ih_usage_text_sends a0 a1 y2 a3 y3 h3) (fun _ => ?_)
 refine M6 ?_
 intros
 refine bT (od := odC [] true (aA .i64 y5) []) (Φ := aA .i64 y5) rfl (fun _ => rfl) trivial rfl rfl (has rfl) (aD.cons (has rfl) (aD.cons (has rfl) (aD.cons (has rfl) (aD.cons (has rfl) aD.nil)))) rfl (cb rfl) (ih_usage_text_sends a0 a1 y4 a3 y5 h5) (fun _ => ?_)
 refine aDn (od := odC [] true (aA .i64 y6) []) (Φ := aA .i64 y6) (y3, y5) rfl (fun _ => rfl) trivial rfl rfl (has rfl) (aD.cons (has rfl) (aD.cons (has rfl) aD.nil)) h6 rfl (fun _ => ?_)
 refine M1 ?_
 intros
 refine Z3 ?_
 cases H
 exact To
 exact fk
 kernel_rfl
 intro a0 a1 a2 a3 r H
 rw [nW] at H
 refine qY Tryz.func68 rfl Tryz.ntmps68 rfl (fun β => ?_)
 refine Z1 ?_
 refine aQ trivial rfl rfl (cC rfl (has rfl) (aT (qD))) (fun b1 => ?_)
 refine aQ trivial rfl rfl (cC rfl (has rfl) (aT (bA))) (fun b2 => ?_)
 refine aQ trivial rfl rfl (cC rfl (has rfl) (aT (aF trivial))) (fun b3 => ?_)
 refine Z9 ?_
 revert H; refine bs fun y1 h1 H => ?_
 refine Z2 ?_
 refine aQ trivial rfl rfl (cF rfl hO rfl) (fun b4 => ?_)
 refine dB (φs' := [aA .i64 y1.Op, aA .i64 y1.N, fSl aU y1.Args, fSl (aB .i64) y1.Kids]) trivial rfl rfl (has rfl) (has rfl) (aM (aF trivial) (aM (aF trivial) (aM (bA) (aM (bA) bS)))) (sz rfl) rfl rfl rfl ?_
 refine Z1 ?_
 refine aI ?_
 revert H; refine bs fun y2 h2 H => ?_
 revert H; refine bs fun y3 h3 H => ?_
 apply bB (ods := [_, _, _, _, _, _, _, _, _, _]) 10 1 5 bC rfl rfl rfl
 dsimp only [aY, List.take, List.replicate, List.append, List.drop]
 refine M7 ?_
 intros
 refine bT (od := odC [] true (aA .i64 y3) []) (Φ := aA .i64 y3) rfl (fun _ => rfl) trivial rfl rfl (has rfl) (aD.cons (has rfl) (aD.cons (has rfl) (aD.cons (has rfl) (aD.cons (has rfl) aD.nil)))) rfl (cb rfl) (ih_usage_text_sends a0 a1 y2 a3 y3 h3) (fun _ => ?_)
 refine Mn 4 (fun b5 => ptr b5) (fun b5 => aC b5 67 [aA .i64 0]) rfl (cF rfl aC2 rfl) (fun b5 u1 => ?_)
 refine jF (od := od1 8 [4] true (fun b5 _ => fAny) (fun b5 _ => [aC b5 67 [aA .i64 y3]])) (p := 4) (φs' := [aA .i64 y3]) rfl (fun _ => rfl) (fun _ => rfl) trivial rfl rfl rfl (has rfl) (has rfl) (aF trivial) (sz rfl) rfl rfl (fun _ => ?_)
 refine Z2 ?_
 refine aI ?_
 refine Z4 ?_
 revert H; refine bs fun y4 h4 H => ?_
 refine iH trivial rfl rfl rfl (has rfl) (aD.cons (dJ rfl aCM) (aD.cons (has rfl) aD.nil)) rfl (cb rfl) (yM a0 y1.N y4 h4) rfl ?_
 refine Z2 ?_
 refine T_sub [(0, aG bP a0), (1, fSl bG a1), (2, aA .i64 a2), (3, aA .i64 a3), (4, fEq (.pointer (some ⟨b1, 0, none⟩))), (5, fEq (.pointer (some ⟨b2, 0, none⟩))), (7, fEq (.pointer (some ⟨b3, 0, none⟩))), (8, aA .i64 0), (14, aG bP a0), (15, aG bP a0), (16, aG cY a0.ScopeProg), (17, aG (tSl aL) a0.ScopeProg.Nodes), (18, fSl aL a0.ScopeProg.Nodes), (19, aA .i64 a2), (20, aG aL y1), (21, fSt aL y1), (9, fEq (.pointer (some ⟨b4, 0, none⟩))), (22, aG bP a0), (23, fSl bG a1), (24, fEq (.pointer (some ⟨b4, 3, none⟩))), (25, fSl (aB .i64) y1.Kids), (26, aG (aB .i64) y2), (27, aA .i64 y2), (28, aA .i64 a3), (29, aA .i64 y3), (10, fEq (.pointer (some ⟨b5, 0, none⟩))), (30, aG bP a0), (31, fEq (.pointer (some ⟨b4, 1, none⟩))), (32, aA .i64 y1.N), (33, dD 101 [aG (fA eA) y4.1, aG (aB .i64) y4.2])] (Sc (Sc (Sc (Sc (Sc (Sc (Sc (Sc (Sc (Sc (Sc (Sc (Sc (Sc (Sc (Sc (Sc (Sc (Sc (Sc (Sc (Sc (Sc (Sc (Sc (Sc (Sc (Sc (Sc (Sc fJ.nil)))))))))))))))))))))))))))))) ?_
 revert H; refine bs fun y5 h5 H => ?_
 refine xS (s := y3) (s' := y5) (fun (x : Int) => [aA .i64 x]) (fun (x : Int) (t : Int) => oX (fH fuel) a0 a1 a3 x t) (fun (t : Int) => [aC b4 51 [aA .i64 y1.Op, aA .i64 y1.N, fSl aU y1.Args, fSl (aB .i64) y1.Kids], aC b3 3 [aA .i64 a3], aC b2 27 [fSl bG a1], aC b1 64 [aG bP a0], aC b5 67 [aA .i64 t]]) (has rfl) (cb rfl) rfl (fun _ => rfl) rfl (fun J => yS fuel J (fun (x : Int) (t : Int) => oX (fH fuel) a0 a1 a3 x t) y3 y4.1 y4.2 y5 h5) (fun β' l rec x1 t t' hs hp hY => ?_) (fun rb => ?_)
 generalize t = x3 at *
 have H : oX (fH fuel) a0 a1 a3 x1 x3 = some t' := hY; clear hY; unfold oX at H; try dsimp only at H
 show T β' _ _ (pJ [34] ((fun (x : Int) => [aA .i64 x]) x1) [(0, aG bP a0), (1, fSl bG a1), (2, aA .i64 a2), (3, aA .i64 a3), (4, fEq (.pointer (some ⟨b1, 0, none⟩))), (5, fEq (.pointer (some ⟨b2, 0, none⟩))), (7, fEq (.pointer (some ⟨b3, 0, none⟩))), (8, aA .i64 0), (14, aG bP a0), (15, aG bP a0), (16, aG cY a0.ScopeProg), (17, aG (tSl aL) a0.ScopeProg.Nodes), (18, fSl aL a0.ScopeProg.Nodes), (19, aA .i64 a2), (20, aG aL y1), (21, fSt aL y1), (9, fEq (.pointer (some ⟨b4, 0, none⟩))), (22, aG bP a0), (23, fSl bG a1), (24, fEq (.pointer (some ⟨b4, 3, none⟩))), (25, fSl (aB .i64) y1.Kids), (26, aG (aB .i64) y2), (27, aA .i64 y2), (28, aA .i64 a3), (29, aA .i64 y3), (10, fEq (.pointer (some ⟨b5, 0, none⟩))), (30, aG bP a0), (31, fEq (.pointer (some ⟨b4, 1, none⟩))), (32, aA .i64 y1.N), (33, dD 101 [aG (fA eA) y4.1, aG (aB .i64) y4.2])]) (tObj l (.loop rec) :: [aC b4 51 [aA .i64 y1.Op, aA .i64 y1.N, fSl aU y1.Args, fSl (aB .i64) y1.Kids], aC b3 3 [aA .i64 a3], aC b2 27 [fSl bG a1], aC b1 64 [aG bP a0], aC b5 67 [aA .i64 x3]]) _
 refine Z3 ?_
 refine xW hs ?_
 refine Z1 ?_
 revert H; refine bs fun y6 h6 H => ?_
 revert H; refine bs fun y7 h7 H => ?_
 apply bB (ods := [_, _, _, _, _, _, _, _]) 8 0 6 bC rfl rfl rfl
 dsimp only [aY, List.take, List.replicate, List.append, List.drop]
 refine M5 ?_
 intros
 refine bT (od := odC [] true (aA .i64 y6) []) (Φ := aA .i64 y6) rfl (fun _ => rfl) trivial rfl rfl (has rfl) (aD.cons (has rfl) (aD.cons (has rfl) (aD.cons (has rfl) (aD.cons (has rfl) aD.nil)))) rfl (cb rfl) (ih_usage_text_sends a0 a1 x1 a3 y6 h6) (fun _ => ?_)
 refine bT (od := odC [] true (aA .i64 y7) []) (Φ := aA .i64 y7) rfl (fun _ => rfl) trivial rfl rfl (has rfl) (aD.cons (has rfl) (aD.cons (has rfl) aD.nil)) rfl (cb rfl) (xY x3 y6 y7 h7) (fun _ => ?_)
 refine jF (od := odC [5] true (fAny) [aC b5 67 [aA .i64 y7]]) (p := 5) (φs' := [aA .i64 y7]) rfl (fun _ => rfl) (fun _ => rfl) trivial rfl rfl rfl (has rfl) (has rfl) (aF trivial) (sz rfl) rfl rfl (fun _ => ?_)
 refine Z3 ?_
 refine aH [1, 2, 3, 4, 5, 0] (by decide) ?_
 cases H
 refine aH [5, 0, 1, 2, 3, 4] (by decide) ?_
 exact vM hs hp rfl
 exact fk
 kernel_rfl
 generalize rb = rb1
 show T β _ _ [(0, aG bP a0), (1, fSl bG a1), (2, aA .i64 a2), (3, aA .i64 a3), (4, fEq (.pointer (some ⟨b1, 0, none⟩))), (5, fEq (.pointer (some ⟨b2, 0, none⟩))), (7, fEq (.pointer (some ⟨b3, 0, none⟩))), (8, aA .i64 0), (14, aG bP a0), (15, aG bP a0), (16, aG cY a0.ScopeProg), (17, aG (tSl aL) a0.ScopeProg.Nodes), (18, fSl aL a0.ScopeProg.Nodes), (19, aA .i64 a2), (20, aG aL y1), (21, fSt aL y1), (9, fEq (.pointer (some ⟨b4, 0, none⟩))), (22, aG bP a0), (23, fSl bG a1), (24, fEq (.pointer (some ⟨b4, 3, none⟩))), (25, fSl (aB .i64) y1.Kids), (26, aG (aB .i64) y2), (27, aA .i64 y2), (28, aA .i64 a3), (29, aA .i64 y3), (10, fEq (.pointer (some ⟨b5, 0, none⟩))), (30, aG bP a0), (31, fEq (.pointer (some ⟨b4, 1, none⟩))), (32, aA .i64 y1.N), (33, dD 101 [aG (fA eA) y4.1, aG (aB .i64) y4.2])] ([iN rb1] ++ [aC b4 51 [aA .i64 y1.Op, aA .i64 y1.N, fSl aU y1.Args, fSl (aB .i64) y1.Kids], aC b3 3 [aA .i64 a3], aC b2 27 [fSl bG a1], aC b1 64 [aG bP a0], aC b5 67 [aA .i64 y5]]) _
 dsimp only [List.append, List.cons_append, List.nil_append]
 refine Z2 ?_
 revert H; refine bs fun o1 H Hr1 => ?_
 refine aW (ι := Int) (fun i => o1 = i) (fun i => [(10, fEq (.pointer (some ⟨b5, 0, none⟩)))]) (fun i => [aC b4 51 [aA .i64 y1.Op, aA .i64 y1.N, fSl aU y1.Args, fSl (aB .i64) y1.Kids], aC b3 3 [aA .i64 a3], aC b2 27 [fSl bG a1], aC b1 64 [aG bP a0], aC b5 67 [aA .i64 i], iN rb1]) ?_ ?_
 refine aI ?_
 revert H; refine bs fun y8 h8 H => ?_
 apply bB (ods := [_, _, _, _, _, _, _, _, _, _, _, _]) 12 0 6 bC rfl rfl rfl
 dsimp only [aY, List.take, List.replicate, List.append, List.drop]
 refine M8 ?_
 intros
 refine M4 ?_
 intros
 refine Z3 ?_
 refine aH [1, 2, 3, 4, 5, 0] (by decide) ?_
 refine Tl (ι := Nat × Int × Int) (fun i => mI (fH fuel) a0 a1 a3 y1 y8 i.1 i.2.1 i.2.2 = _) (fun i => i.1) (fun i => [(4, fEq (.pointer (some ⟨b1, 0, none⟩))), (5, fEq (.pointer (some ⟨b2, 0, none⟩))), (7, fEq (.pointer (some ⟨b3, 0, none⟩))), (9, fEq (.pointer (some ⟨b4, 0, none⟩))), (10, fEq (.pointer (some ⟨b5, 0, none⟩))), (51, fSl bD y8.Rules), (52, aA .i64 (y8.Rules.length : Int)), (53, aA .i64 i.2.1)]) (fun i => [aC b4 51 [aA .i64 y1.Op, aA .i64 y1.N, fSl aU y1.Args, fSl (aB .i64) y1.Kids], aC b3 3 [aA .i64 a3], aC b2 27 [fSl bG a1], aC b1 64 [aG bP a0], aC b5 67 [aA .i64 i.2.2], iN rb1]) (fuel, 0, y5) H ?_
 clear H; rintro ⟨k1, x8, x9⟩ H
 replace H : mI (fH fuel) a0 a1 a3 y1 y8 k1 x8 x9 = _ := H
 try dsimp only
 obtain _ | k1 := k1
 rw [mI] at H; cases H
 rw [mI] at H
 refine Z3 ?_
 refine aI ?_
 revert H; refine is (fun c1 H => ?_) fun c1 H => ?_
 refine Z3 ?_
 refine aI ?_
 refine Z3 ?_
 revert H; refine bs fun y9 h9 H => ?_
 refine Z2 ?_
 refine aQ trivial rfl rfl (cF rfl rU rfl) (fun b6 => ?_)
 refine Z1 ?_
 refine dB (φs' := [aA .i64 y9.At, fSl (aB .i64) y9.Joins, aA .i64 y9.Node]) trivial rfl rfl (has rfl) (has rfl) (aM (aF trivial) (aM (bA) (aM (aF trivial) bS))) (sz rfl) rfl rfl rfl ?_
 refine Z1 ?_
 revert H; refine bs fun y10 h10 H => ?_
 revert H; refine bs fun y11 h11 H => ?_
 revert H; refine bs fun y12 h12 H => ?_
 revert H; refine bs fun y13 h13 H => ?_
 revert H; refine bs fun y14 h14 H => ?_
 revert H; refine bs fun y15 h15 H => ?_
 apply bB (ods := [_, _, _, _, _, _, _, _, _, _, _, _, _, _, _, _, _, _, _, _]) 20 0 7 bC rfl rfl rfl
 dsimp only [aY, List.take, List.replicate, List.append, List.drop]
 refine M8 ?_
 intros
 refine M2 ?_
 intros
 refine bT (od := odC [] true (aA .i64 y12) []) (Φ := aA .i64 y12) rfl (fun _ => rfl) trivial rfl rfl (has rfl) (aD.cons (has rfl) aD.nil) rfl (cb rfl) (rC y11 y12 h12) (fun _ => ?_)
 refine M5 ?_
 intros
 refine bT (od := odC [] true (aA .i64 y13) []) (Φ := aA .i64 y13) rfl (fun _ => rfl) trivial rfl rfl (has rfl) (aD.cons (has rfl) (aD.cons (has rfl) (aD.cons (has rfl) (aD.cons (has rfl) aD.nil)))) rfl (cb rfl) (ih_usage_text_sends a0 a1 y9.Node a3 y13 h13) (fun _ => ?_)
 refine bT (od := odC [] true (aA .i64 y14) []) (Φ := aA .i64 y14) rfl (fun _ => rfl) trivial rfl rfl (has rfl) (aD.cons (has rfl) (aD.cons (has rfl) aD.nil)) rfl (cb rfl) (aEz y12 y13 y14 h14) (fun _ => ?_)
 refine bT (od := odC [] true (aA .i64 y15) []) (Φ := aA .i64 y15) rfl (fun _ => rfl) trivial rfl rfl (has rfl) (aD.cons (has rfl) (aD.cons (has rfl) aD.nil)) rfl (cb rfl) (xY x9 y14 y15 h15) (fun _ => ?_)
 refine jF (od := odC [5] true (fAny) [aC b5 67 [aA .i64 y15]]) (p := 5) (φs' := [aA .i64 y15]) rfl (fun _ => rfl) (fun _ => rfl) trivial rfl rfl rfl (has rfl) (has rfl) (aF trivial) (sz rfl) rfl rfl (fun _ => ?_)
 refine Z5 ?_
 revert H; refine bs fun z1 h16 H => ?_
 refine Z3 ?_
 refine aH [1, 2, 3, 4, 5, 6] (by decide) ?_
 exact Tm ((k1, z1, y15)) ⟨H, ls⟩
 exact fk
 kernel_rfl
 refine Z6 ?_
 exact Tm (x9) (ij H)
 exact fk
 kernel_rfl
 clear H; intro x5 hi; subst o1; have H := Hr1; clear Hr1; try dsimp only at H
 try dsimp only
 refine Z5 ?_
 cases H
 refine aH [5] (by decide) ?_
 exact aA9 [rb1] rfl (bJ rfl) rfl rfl
 exact fk
 kernel_rfl
theorem aDt (fuel : Nat)  (a0 : Usage_text) (a1 : List UsageDef) (a2 : Int) (a3 : Int) (r : Int) (H : fH fuel a0 a1 a2 a3 = some r) : FnS Tryz.prog 27 [aG bP a0, fSl bG a1, aA .i64 a2, aA .i64 a3] [] (aA .i64 r) (fun _ => []) := (aB7 fuel).1 a0 a1 a2 a3 r H
theorem aFf (fuel : Nat)  (a0 : Usage_text) (a1 : List UsageDef) (a2 : Int) (a3 : Int) (r : Int) (H : nW fuel a0 a1 a2 a3 = some r) : FnS Tryz.prog 68 [aG bP a0, fSl bG a1, aA .i64 a2, aA .i64 a3] [] (aA .i64 r) (fun _ => []) := (aB7 fuel).2.2 a0 a1 a2 a3 r H
def oB (a0 : Int) : Option (Int) :=
 if a0 = 0 then
  some 1
 else
  if a0 = 1 then
   some 3
  else
   some 4
theorem vW  (a0 : Int) (r : Int) (H : oB a0 = some r) : FnS Tryz.prog 28 [aA .i64 a0] [] (aA .i64 r) (fun _ => []) := by
 unfold oB at H
 refine bI Tryz.func28 rfl Tryz.ntmps28 rfl (fun β => ?_)
 refine Z3 ?_
 refine aI ?_
 refine Z8 ?_
 revert H; refine is (fun c1 H => ?_) fun c1 H => ?_
 refine Z7 ?_
 cases H
 exact To
 refine Z5 ?_
 revert H; refine is (fun c2 H => ?_) fun c2 H => ?_
 refine Z7 ?_
 cases H
 exact To
 refine Z8 ?_
 cases H
 exact To
def qW (fuel : Nat) (a0 : ScopeProg) (a1 : List UsageDef) (a2 : Int) (a3 : Int) : Option (Int × Int) :=
 (sC fuel (⟨a0.Free, a0.Nodes, a0.Defs, a0.Main⟩ : ScopeProg) a2 a3).bind fun y1 =>
 bif !y1.2 then
  some (0, 2)
 else
  (y1.1).bind fun y2 =>
  (rG fuel y2 a1).bind fun y3 =>
  bif y3 then
   (fH fuel y2 a1 a2 a3).bind fun y4 =>
   (oB y4).bind fun y5 =>
   some (y5, 0)
  else
   some (0, 2)
theorem aBT (fuel : Nat)  (a0 : ScopeProg) (a1 : List UsageDef) (a2 : Int) (a3 : Int) (r : Int × Int) (H : qW fuel a0 a1 a2 a3 = some r) : FnS Tryz.prog 10 [fSt cY a0, fSl bG a1, aA .i64 a2, aA .i64 a3] [] (cQ [aA .i64 r.1, aA .i64 r.2]) (fun _ => []) := by
 unfold qW at H
 refine bI Tryz.func10 rfl Tryz.ntmps10 rfl (fun β => ?_)
 refine Z1 ?_
 refine aQ trivial rfl rfl (cC rfl (has rfl) bQ) (fun b1 => ?_)
 refine Z7 ?_
 revert H; refine bs fun y1 h1 H => ?_
 refine Tc (aBy _ _ _ _ _ h1) ?_
 refine Z6 ?_
 refine aI ?_
 refine Z4 ?_
 revert H; refine cs (fun c1 H => ?_) fun c1 H => ?_
 refine Z12 ?_
 cases H
 refine aH [] (by decide) ?_
 exact dY rfl (bJ rfl) (bJ rfl) rfl
 refine Z2 ?_
 revert H; refine bs fun y2 h2 H => ?_
 refine jZ 17 rfl (qR h2) ?_
 refine jZ 10 rfl (qR h2) ?_
 refine jZ 22 rfl (qR h2) ?_
 revert H; refine bs fun y3 h3 H => ?_
 refine Tc (aBf _ _ _ _ h3) ?_
 refine Z3 ?_
 revert H; refine cs (fun c2 H => ?_) fun c2 H => ?_
 refine Z8 ?_
 revert H; refine bs fun y4 h4 H => ?_
 refine Tc (aDt _ _ _ _ _ _ h4) ?_
 revert H; refine bs fun y5 h5 H => ?_
 refine Tc (vW _ _ h5) ?_
 refine Z4 ?_
 cases H
 refine aH [] (by decide) ?_
 exact dY rfl (bJ rfl) (bJ rfl) rfl
 refine Z6 ?_
 cases H
 refine aH [] (by decide) ?_
 exact dY rfl (bJ rfl) (bJ rfl) rfl
def oV (rec_usage_text_sure : Usage_text → Int → Int → Option (Int)) (a0 : Usage_text) (a2 : Int) (x1 : Int) (x3 : Int) : Option (Int) :=
 (rec_usage_text_sure a0 x1 a2).bind fun y6 =>
 (chk (x3 + y6)).bind fun z1 =>
 some z1
mutual
def fV : Nat → Usage_text → Int → Int → Option (Int)
| 0, _, _, _ => none
| fuel + 1, a0, a1, a2 =>
 (idx a0.ScopeProg.Nodes a1).bind fun y1 =>
 (if y1.Op = 2 then
  (idx a0.denotes a1).bind fun y2 =>
  bif (y2.get a2).isSome then
   if y1.N = a2 then
    (nH a0 (⟨((y2.get a2).getD (⟨0, 0⟩ : Usage_channel)).def_, ((y2.get a2).getD (⟨0, 0⟩ : Usage_channel)).index⟩ : Usage_channel) a1).bind fun y3 =>
    bif y3 then
     (some 1).bind fun r => some (Sum.inr r)
    else
     some (Sum.inl ())
   else
    some (Sum.inl ())
  else
   some (Sum.inl ())
 else
  if y1.Op = 3 then
   (idx y1.Kids 0).bind fun y4 =>
   ((fV fuel) a0 y4 a2).bind fun y5 =>
   (idx y1.Kids 1).bind fun y6 =>
   ((fV fuel) a0 y6 a2).bind fun y7 =>
   (chk (y5 + y7)).bind fun z1 =>
   (some z1).bind fun r => some (Sum.inr r)
  else
   if y1.Op = 5 then
    (idx y1.Kids 0).bind fun y8 =>
    ((fV fuel) a0 y8 a2).bind fun y9 =>
    (idx y1.Kids 1).bind fun y10 =>
    ((fV fuel) a0 y10 a2).bind fun y11 =>
    (some (min y9 y11)).bind fun r => some (Sum.inr r)
   else
    if y1.Op = 4 then
     ((mV fuel) a0 a1 a2).bind fun y12 =>
     (some y12).bind fun r => some (Sum.inr r)
    else
     some (Sum.inl ())).bind fun o => match o with
 | Sum.inr r => some r
 | Sum.inl _ =>
 some 0
def mV : Nat → Usage_text → Int → Int → Option (Int)
| 0, _, _, _ => none
| fuel + 1, a0, a1, a2 =>
 (idx a0.ScopeProg.Nodes a1).bind fun y1 =>
 (idx y1.Kids 0).bind fun y2 =>
 ((fV fuel) a0 y2 a2).bind fun y3 =>
 (oA a0 y1.N).bind fun y4 =>
 (pU fuel (fun (x : Int) (t : Int) => oV (fV fuel) a0 a2 x t) y3 y4.1 y4.2).bind fun y5 =>
 some y5
end
theorem aBe : ∀ (fuel : Nat), (∀  (a0 : Usage_text) (a1 : Int) (a2 : Int) (r : Int) (H : fV fuel a0 a1 a2 = some r), FnS Tryz.prog 33 [aG bP a0, aA .i64 a1, aA .i64 a2] [] (aA .i64 r) (fun _ => [])) ∧ (∀  (a0 : Usage_text) (a1 : Int) (a2 : Int) (r : Int) (H : mV fuel a0 a1 a2 = some r), FnS Tryz.prog 41 [aG bP a0, aA .i64 a1, aA .i64 a2] [] (aA .i64 r) (fun _ => [])) := by
 intro fuel
 induction fuel with
 | zero => exact ⟨fun a0 a1 a2 r H => (by rw [fV] at H; cases H), fun a0 a1 a2 r H => (by rw [mV] at H; cases H)⟩
 | succ fuel ih =>
 obtain ⟨ih_usage_text_sure, ih_usage_text_begun⟩ := ih
 refine ⟨?_, ?_⟩
 intro a0 a1 a2 r H
 rw [fV] at H
 refine bI Tryz.func33 rfl Tryz.ntmps33 rfl (fun β => ?_)
 refine Z10 ?_
 revert H; refine bs fun y1 h1 H => ?_
 refine Z2 ?_
 refine aQ trivial rfl rfl (cF rfl hO rfl) (fun b1 => ?_)
 refine dB (φs' := [aA .i64 y1.Op, aA .i64 y1.N, fSl aU y1.Args, fSl (aB .i64) y1.Kids]) trivial rfl rfl (has rfl) (has rfl) (aM (aF trivial) (aM (aF trivial) (aM (bA) (aM (bA) bS)))) (sz rfl) rfl rfl rfl ?_
 refine Z1 ?_
 revert H; refine bs fun o1 H Hr1 => ?_
 refine aW (ι := Unit) (fun i => o1 = Sum.inl ()) (fun i => []) (fun i => [aC b1 51 [aA .i64 y1.Op, aA .i64 y1.N, fSl aU y1.Args, fSl (aB .i64) y1.Kids]]) ?_ ?_
 refine Z9 ?_
 revert H; refine is (fun c1 H => ?_) fun c1 H => ?_
 refine Z7 ?_
 revert H; refine bs fun y2 h2 H => ?_
 refine Z3 ?_
 refine Yy (aCy (zα := (⟨0, 0⟩ : Usage_channel)) (k := a2) rfl hh hh rfl uO (oU [(.int .i64 0), (.int .i64 0)])) ?_
 refine Z3 ?_
 refine aQ trivial rfl rfl (cF rfl aAC rfl) (fun b2 => ?_)
 refine dB (φs' := [aA .i64 (((y2.get a2).getD (⟨0, 0⟩ : Usage_channel)).def_), aA .i64 (((y2.get a2).getD (⟨0, 0⟩ : Usage_channel)).index)]) trivial rfl rfl (has rfl) (has rfl) (aM (aF trivial) (aM (aF trivial) bS)) (sz rfl) rfl rfl rfl ?_
 refine Z5 ?_
 revert H; refine cs (fun c2 H => ?_) fun c2 H => ?_
 refine Z6 ?_
 revert H; refine is (fun c3 H => ?_) fun c3 H => ?_
 refine Z3 ?_
 revert H; refine bs fun y3 h3 H => ?_
 refine Tc (aCK _ _ _ _ h3) ?_
 refine Z2 ?_
 revert H; refine cs (fun c4 H => ?_) fun c4 H => ?_
 refine Z7 ?_
 revert H; refine bs fun r1 H e1 => ?_
 cases e1; cases Hr1
 cases H
 refine aH [] (by decide) ?_
 exact To
 refine Z4 ?_
 refine aH [1] (by decide) ?_
 exact Tm (()) (ij H)
 refine Z10 ?_
 refine aH [1] (by decide) ?_
 exact Tm (()) (ij H)
 refine Z12 ?_
 refine Z4 ?_
 refine aH [1] (by decide) ?_
 exact Tm (()) (ij H)
 refine Z5 ?_
 revert H; refine is (fun c5 H => ?_) fun c5 H => ?_
 refine Z1 ?_
 refine aI ?_
 revert H; refine bs fun y4 h4 H => ?_
 revert H; refine bs fun y5 h5 H => ?_
 revert H; refine bs fun y6 h6 H => ?_
 revert H; refine bs fun y7 h7 H => ?_
 revert H; refine bs fun z1 h8 H => ?_
 apply bB (ods := [_, _, _, _, _, _, _, _, _, _, _, _, _, _, _, _]) 16 0 1 bC rfl rfl rfl
 dsimp only [aY, List.take, List.replicate, List.append, List.drop]
 refine M6 ?_
 intros
 refine bT (od := odC [] true (aA .i64 y5) []) (Φ := aA .i64 y5) rfl (fun _ => rfl) trivial rfl rfl (has rfl) (aD.cons (has rfl) (aD.cons (has rfl) (aD.cons (has rfl) aD.nil))) rfl (cb rfl) (ih_usage_text_sure a0 y4 a2 y5 h5) (fun _ => ?_)
 refine M6 ?_
 intros
 refine bT (od := odC [] true (aA .i64 y7) []) (Φ := aA .i64 y7) rfl (fun _ => rfl) trivial rfl rfl (has rfl) (aD.cons (has rfl) (aD.cons (has rfl) (aD.cons (has rfl) aD.nil))) rfl (cb rfl) (ih_usage_text_sure a0 y6 a2 y7 h7) (fun _ => ?_)
 refine M2 ?_
 intros
 refine Z5 ?_
 revert H; refine bs fun r2 H e2 => ?_
 cases e2; cases Hr1
 cases H
 refine aH [] (by decide) ?_
 exact To
 exact fk
 kernel_rfl
 refine Z5 ?_
 revert H; refine is (fun c6 H => ?_) fun c6 H => ?_
 refine Z1 ?_
 refine aI ?_
 revert H; refine bs fun y8 h9 H => ?_
 revert H; refine bs fun y9 h10 H => ?_
 revert H; refine bs fun y10 h11 H => ?_
 revert H; refine bs fun y11 h12 H => ?_
 apply bB (ods := [_, _, _, _, _, _, _, _, _, _, _, _, _, _, _, _]) 16 0 1 bC rfl rfl rfl
 dsimp only [aY, List.take, List.replicate, List.append, List.drop]
 refine M6 ?_
 intros
 refine bT (od := odC [] true (aA .i64 y9) []) (Φ := aA .i64 y9) rfl (fun _ => rfl) trivial rfl rfl (has rfl) (aD.cons (has rfl) (aD.cons (has rfl) (aD.cons (has rfl) aD.nil))) rfl (cb rfl) (ih_usage_text_sure a0 y8 a2 y9 h10) (fun _ => ?_)
 refine M6 ?_
 intros
 refine bT (od := odC [] true (aA .i64 y11) []) (Φ := aA .i64 y11) rfl (fun _ => rfl) trivial rfl rfl (has rfl) (aD.cons (has rfl) (aD.cons (has rfl) (aD.cons (has rfl) aD.nil))) rfl (cb rfl) (ih_usage_text_sure a0 y10 a2 y11 h12) (fun _ => ?_)
 refine M2 ?_
 intros
 refine Z5 ?_
 revert H; refine bs fun r3 H e3 => ?_
 cases e3; cases Hr1
 cases H
 refine aH [] (by decide) ?_
 exact To
 exact fk
 kernel_rfl
 refine Z5 ?_
 revert H; refine is (fun c7 H => ?_) fun c7 H => ?_
 refine Z5 ?_
 revert H; refine bs fun y12 h13 H => ?_
 refine Tc (ih_usage_text_begun _ _ _ _ h13) ?_
 refine Z5 ?_
 revert H; refine bs fun r4 H e4 => ?_
 cases e4; cases Hr1
 cases H
 refine aH [] (by decide) ?_
 exact To
 refine Z4 ?_
 exact Tm (()) (ij H)
 clear H; intro i hi; subst o1; have H := Hr1; clear Hr1; try dsimp only at H
 try dsimp only
 refine Z4 ?_
 cases H
 refine aH [] (by decide) ?_
 exact To
 intro a0 a1 a2 r H
 rw [mV] at H
 refine qY Tryz.func41 rfl Tryz.ntmps41 rfl (fun β => ?_)
 refine Z1 ?_
 refine aQ trivial rfl rfl (cC rfl (has rfl) (aT (qD))) (fun b1 => ?_)
 refine aQ trivial rfl rfl (cC rfl (has rfl) (aT (aF trivial))) (fun b2 => ?_)
 refine Z9 ?_
 revert H; refine bs fun y1 h1 H => ?_
 refine Z2 ?_
 refine aQ trivial rfl rfl (cF rfl hO rfl) (fun b3 => ?_)
 refine dB (φs' := [aA .i64 y1.Op, aA .i64 y1.N, fSl aU y1.Args, fSl (aB .i64) y1.Kids]) trivial rfl rfl (has rfl) (has rfl) (aM (aF trivial) (aM (aF trivial) (aM (bA) (aM (bA) bS)))) (sz rfl) rfl rfl rfl ?_
 refine Z1 ?_
 refine aI ?_
 revert H; refine bs fun y2 h2 H => ?_
 revert H; refine bs fun y3 h3 H => ?_
 apply bB (ods := [_, _, _, _, _, _, _, _, _]) 9 1 4 bC rfl rfl rfl
 dsimp only [aY, List.take, List.replicate, List.append, List.drop]
 refine M6 ?_
 intros
 refine bT (od := odC [] true (aA .i64 y3) []) (Φ := aA .i64 y3) rfl (fun _ => rfl) trivial rfl rfl (has rfl) (aD.cons (has rfl) (aD.cons (has rfl) (aD.cons (has rfl) aD.nil))) rfl (cb rfl) (ih_usage_text_sure a0 y2 a2 y3 h3) (fun _ => ?_)
 refine Mn 3 (fun b4 => ptr b4) (fun b4 => aC b4 3 [aA .i64 0]) rfl (cF rfl oS rfl) (fun b4 u1 => ?_)
 refine jF (od := od1 7 [3] true (fun b4 _ => fAny) (fun b4 _ => [aC b4 3 [aA .i64 y3]])) (p := 3) (φs' := [aA .i64 y3]) rfl (fun _ => rfl) (fun _ => rfl) trivial rfl rfl rfl (has rfl) (has rfl) (aF trivial) (sz rfl) rfl rfl (fun _ => ?_)
 refine Z2 ?_
 refine aI ?_
 refine Z4 ?_
 revert H; refine bs fun y4 h4 H => ?_
 refine iH trivial rfl rfl rfl (has rfl) (aD.cons (dJ rfl aCM) (aD.cons (has rfl) aD.nil)) rfl (cb rfl) (yM a0 y1.N y4 h4) rfl ?_
 refine Z2 ?_
 refine T_sub [(0, aG bP a0), (1, aA .i64 a1), (2, aA .i64 a2), (3, fEq (.pointer (some ⟨b1, 0, none⟩))), (5, fEq (.pointer (some ⟨b2, 0, none⟩))), (6, aA .i64 0), (10, aG bP a0), (11, aG bP a0), (12, aG cY a0.ScopeProg), (13, aG (tSl aL) a0.ScopeProg.Nodes), (14, fSl aL a0.ScopeProg.Nodes), (15, aA .i64 a1), (16, aG aL y1), (17, fSt aL y1), (7, fEq (.pointer (some ⟨b3, 0, none⟩))), (18, aG bP a0), (19, fEq (.pointer (some ⟨b3, 3, none⟩))), (20, fSl (aB .i64) y1.Kids), (21, aG (aB .i64) y2), (22, aA .i64 y2), (23, aA .i64 a2), (24, aA .i64 y3), (8, fEq (.pointer (some ⟨b4, 0, none⟩))), (25, aG bP a0), (26, fEq (.pointer (some ⟨b3, 1, none⟩))), (27, aA .i64 y1.N), (28, dD 101 [aG (fA eA) y4.1, aG (aB .i64) y4.2])] (Sc (Sc (Sc (Sc (Sc (Sc (Sc (Sc (Sc (Sc (Sc (Sc (Sc (Sc (Sc (Sc (Sc (Sc (Sc (Sc (Sc (Sc (Sc (Sc (Sc (Sc (Sc fJ.nil))))))))))))))))))))))))))) ?_
 revert H; refine bs fun y5 h5 H => ?_
 refine xS (s := y3) (s' := y5) (fun (x : Int) => [aA .i64 x]) (fun (x : Int) (t : Int) => oV (fV fuel) a0 a2 x t) (fun (t : Int) => [aC b3 51 [aA .i64 y1.Op, aA .i64 y1.N, fSl aU y1.Args, fSl (aB .i64) y1.Kids], aC b2 3 [aA .i64 a2], aC b1 64 [aG bP a0], aC b4 3 [aA .i64 t]]) (has rfl) (cb rfl) rfl (fun _ => rfl) rfl (fun J => yS fuel J (fun (x : Int) (t : Int) => oV (fV fuel) a0 a2 x t) y3 y4.1 y4.2 y5 h5) (fun β' l rec x1 t t' hs hp hY => ?_) (fun rb => ?_)
 generalize t = x3 at *
 have H : oV (fV fuel) a0 a2 x1 x3 = some t' := hY; clear hY; unfold oV at H; try dsimp only at H
 show T β' _ _ (pJ [29] ((fun (x : Int) => [aA .i64 x]) x1) [(0, aG bP a0), (1, aA .i64 a1), (2, aA .i64 a2), (3, fEq (.pointer (some ⟨b1, 0, none⟩))), (5, fEq (.pointer (some ⟨b2, 0, none⟩))), (6, aA .i64 0), (10, aG bP a0), (11, aG bP a0), (12, aG cY a0.ScopeProg), (13, aG (tSl aL) a0.ScopeProg.Nodes), (14, fSl aL a0.ScopeProg.Nodes), (15, aA .i64 a1), (16, aG aL y1), (17, fSt aL y1), (7, fEq (.pointer (some ⟨b3, 0, none⟩))), (18, aG bP a0), (19, fEq (.pointer (some ⟨b3, 3, none⟩))), (20, fSl (aB .i64) y1.Kids), (21, aG (aB .i64) y2), (22, aA .i64 y2), (23, aA .i64 a2), (24, aA .i64 y3), (8, fEq (.pointer (some ⟨b4, 0, none⟩))), (25, aG bP a0), (26, fEq (.pointer (some ⟨b3, 1, none⟩))), (27, aA .i64 y1.N), (28, dD 101 [aG (fA eA) y4.1, aG (aB .i64) y4.2])]) (tObj l (.loop rec) :: [aC b3 51 [aA .i64 y1.Op, aA .i64 y1.N, fSl aU y1.Args, fSl (aB .i64) y1.Kids], aC b2 3 [aA .i64 a2], aC b1 64 [aG bP a0], aC b4 3 [aA .i64 x3]]) _
 refine Z3 ?_
 refine xW hs ?_
 refine Z1 ?_
 revert H; refine bs fun y6 h6 H => ?_
 revert H; refine bs fun z1 h7 H => ?_
 apply bB (ods := [_, _, _, _, _, _, _]) 7 0 5 bC rfl rfl rfl
 dsimp only [aY, List.take, List.replicate, List.append, List.drop]
 refine M4 ?_
 intros
 refine bT (od := odC [] true (aA .i64 y6) []) (Φ := aA .i64 y6) rfl (fun _ => rfl) trivial rfl rfl (has rfl) (aD.cons (has rfl) (aD.cons (has rfl) (aD.cons (has rfl) aD.nil))) rfl (cb rfl) (ih_usage_text_sure a0 x1 a2 y6 h6) (fun _ => ?_)
 refine M1 ?_
 intros
 refine jF (od := odC [4] true (fAny) [aC b4 3 [aA .i64 z1]]) (p := 4) (φs' := [aA .i64 z1]) rfl (fun _ => rfl) (fun _ => rfl) trivial rfl rfl rfl (has rfl) (has rfl) (aF trivial) (sz rfl) rfl rfl (fun _ => ?_)
 refine Z3 ?_
 refine aH [1, 2, 3, 4, 0] (by decide) ?_
 cases H
 refine aH [4, 0, 1, 2, 3] (by decide) ?_
 exact vM hs hp rfl
 exact fk
 kernel_rfl
 generalize rb = rb1
 show T β _ _ [(0, aG bP a0), (1, aA .i64 a1), (2, aA .i64 a2), (3, fEq (.pointer (some ⟨b1, 0, none⟩))), (5, fEq (.pointer (some ⟨b2, 0, none⟩))), (6, aA .i64 0), (10, aG bP a0), (11, aG bP a0), (12, aG cY a0.ScopeProg), (13, aG (tSl aL) a0.ScopeProg.Nodes), (14, fSl aL a0.ScopeProg.Nodes), (15, aA .i64 a1), (16, aG aL y1), (17, fSt aL y1), (7, fEq (.pointer (some ⟨b3, 0, none⟩))), (18, aG bP a0), (19, fEq (.pointer (some ⟨b3, 3, none⟩))), (20, fSl (aB .i64) y1.Kids), (21, aG (aB .i64) y2), (22, aA .i64 y2), (23, aA .i64 a2), (24, aA .i64 y3), (8, fEq (.pointer (some ⟨b4, 0, none⟩))), (25, aG bP a0), (26, fEq (.pointer (some ⟨b3, 1, none⟩))), (27, aA .i64 y1.N), (28, dD 101 [aG (fA eA) y4.1, aG (aB .i64) y4.2])] ([iN rb1] ++ [aC b3 51 [aA .i64 y1.Op, aA .i64 y1.N, fSl aU y1.Args, fSl (aB .i64) y1.Kids], aC b2 3 [aA .i64 a2], aC b1 64 [aG bP a0], aC b4 3 [aA .i64 y5]]) _
 dsimp only [List.append, List.cons_append, List.nil_append]
 refine Z7 ?_
 cases H
 refine aH [0] (by decide) ?_
 exact aA9 [rb1] rfl (bJ rfl) rfl rfl
 exact fk
 kernel_rfl
theorem aFh (fuel : Nat)  (a0 : Usage_text) (a1 : Int) (a2 : Int) (r : Int) (H : fV fuel a0 a1 a2 = some r) : FnS Tryz.prog 33 [aG bP a0, aA .i64 a1, aA .i64 a2] [] (aA .i64 r) (fun _ => []) := (aBe fuel).1 a0 a1 a2 r H
theorem aCA (fuel : Nat)  (a0 : Usage_text) (a1 : Int) (a2 : Int) (r : Int) (H : mV fuel a0 a1 a2 = some r) : FnS Tryz.prog 41 [aG bP a0, aA .i64 a1, aA .i64 a2] [] (aA .i64 r) (fun _ => []) := (aBe fuel).2 a0 a1 a2 r H
def qF (fuel : Nat) (a0 : ScopeProg) (a1 : Int) (a2 : Int) : Option (Int × Int) :=
 (sC fuel (⟨a0.Free, a0.Nodes, a0.Defs, a0.Main⟩ : ScopeProg) a1 a2).bind fun y1 =>
 bif y1.2 then
  (y1.1).bind fun y2 =>
  (fV fuel y2 a1 a2).bind fun y3 =>
  some (y3, 0)
 else
  some (0, 2)
theorem aCT (fuel : Nat)  (a0 : ScopeProg) (a1 : Int) (a2 : Int) (r : Int × Int) (H : qF fuel a0 a1 a2 = some r) : FnS Tryz.prog 12 [fSt cY a0, aA .i64 a1, aA .i64 a2] [] (cQ [aA .i64 r.1, aA .i64 r.2]) (fun _ => []) := by
 unfold qF at H
 refine bI Tryz.func12 rfl Tryz.ntmps12 rfl (fun β => ?_)
 refine Z1 ?_
 refine aQ trivial rfl rfl (cC rfl (has rfl) bQ) (fun b1 => ?_)
 refine Z7 ?_
 revert H; refine bs fun y1 h1 H => ?_
 refine Tc (aBy _ _ _ _ _ h1) ?_
 refine Z6 ?_
 refine aI ?_
 refine Z4 ?_
 revert H; refine cs (fun c1 H => ?_) fun c1 H => ?_
 refine Z7 ?_
 revert H; refine bs fun y2 h2 H => ?_
 refine jZ 15 rfl (qR h2) ?_
 refine jZ 8 rfl (qR h2) ?_
 refine jZ 19 rfl (qR h2) ?_
 revert H; refine bs fun y3 h3 H => ?_
 refine Tc (aFh _ _ _ _ _ h3) ?_
 refine Z4 ?_
 cases H
 refine aH [] (by decide) ?_
 exact dY rfl (bJ rfl) (bJ rfl) rfl
 refine Z6 ?_
 cases H
 refine aH [] (by decide) ?_
 exact dY rfl (bJ rfl) (bJ rfl) rfl
def yU (a0 : Int) (a1 : Int) : Option (Int × Int) :=
 (shrI .u64 a0 32).bind fun z1 =>
 (shrI .u64 a1 32).bind fun z2 =>
 (shrI .u64 (IntKind.wrap .u64 ((andI .u64 a0 4294967295) * (andI .u64 a1 4294967295))) 32).bind fun z3 =>
 (shrI .u64 (IntKind.wrap .u64 ((IntKind.wrap .u64 (z1 * (andI .u64 a1 4294967295))) + z3)) 32).bind fun z4 =>
 (shrI .u64 (IntKind.wrap .u64 ((andI .u64 (IntKind.wrap .u64 ((IntKind.wrap .u64 (z1 * (andI .u64 a1 4294967295))) + z3)) 4294967295) + (IntKind.wrap .u64 ((andI .u64 a0 4294967295) * z2)))) 32).bind fun z5 =>
 some (IntKind.wrap .u64 ((IntKind.wrap .u64 ((IntKind.wrap .u64 (z1 * z2)) + z4)) + z5), IntKind.wrap .u64 (a0 * a1))
theorem aFY  (a0 : Int) (a1 : Int) (r : Int × Int) (H : yU a0 a1 = some r) : FnS Tryz.prog 116 [aA .u64 a0, aA .u64 a1] [] (cQ [aA .u64 r.1, aA .u64 r.2]) (fun _ => []) := by
 unfold yU at H
 refine bI Tryz.func116 rfl Tryz.ntmps116 rfl (fun β => ?_)
 refine Z11 ?_
 revert H; refine bs fun z1 h1 H => ?_
 refine Z10 ?_
 revert H; refine bs fun z2 h2 H => ?_
 refine Z12 ?_
 refine Z2 ?_
 revert H; refine bs fun z3 h3 H => ?_
 refine Z11 ?_
 revert H; refine bs fun z4 h4 H => ?_
 refine Z12 ?_
 refine Z6 ?_
 revert H; refine bs fun z5 h5 H => ?_
 refine Z11 ?_
 cases H
 exact dY rfl (bJ rfl) (bJ rfl) rfl
def yL (a0 : Int) (a1 : Int) : Option (Int × Int) :=
 (yU a0 a1).bind fun y1 =>
 some (y1.1, y1.2)
theorem aD9  (a0 : Int) (a1 : Int) (r : Int × Int) (H : yL a0 a1 = some r) : FnS Tryz.prog 100 [aA .u64 a0, aA .u64 a1] [] (cQ [aA .u64 r.1, aA .u64 r.2]) (fun _ => []) := by
 unfold yL at H
 refine bI Tryz.func100 rfl Tryz.ntmps100 rfl (fun β => ?_)
 refine Z4 ?_
 refine aI ?_
 refine Z6 ?_
 revert H; refine bs fun y1 h1 H => ?_
 refine Tc (aFY _ _ _ h1) ?_
 refine Z12 ?_
 refine Z1 ?_
 cases H
 exact dY rfl (bJ rfl) (bJ rfl) rfl
end Go.Proofs.YtmnbfgeljmhekaaGreat
set_option maxRecDepth 100000
set_option maxHeartbeats 2000000
namespace Go.Proofs.YtmnbfgeljmhekaaGreat
open Go.SX Go.SW Go.Dt
attribute [local irreducible] Code.wpIn wpListIn Exit.then Exit.inBlock
def qZ  : Nat → (List Int) → Int → Option (List Int)
| 0, _, _ => none
| k + 1, x4, x5 =>
 if x5 < (x4.length : Int) then
  (slc x4 x5 (x4.length : Int)).bind fun y3 =>
  (slc x4 0 x5).bind fun y4 =>
  (chk (x5 + ((min (Int.toNat x5 - Int.toNat 0) (Int.toNat (x4.length : Int) - Int.toNat x5) : Nat) : Int))).bind fun z1 =>
  qZ k (cpy x4 (List.drop (Int.toNat 0) x4) (Int.toNat x5) (min (Int.toNat x5 - Int.toNat 0) (Int.toNat (x4.length : Int) - Int.toNat x5))) z1
 else
  some x4
def uW (fuel : Nat) (a0 : List Int) (a1 : Int) : Option (List Int) :=
 if a1 < 0 then
  none
 else
  (yL (IntKind.wrap .u64 (a0.length : Int)) (IntKind.wrap .u64 a1)).bind fun y1 =>
  if 0 < y1.1 then
   none
  else
   if 9223372036854775807 < y1.2 then
    none
   else
    (mk 0 (IntKind.wrap .i64 y1.2)).bind fun y2 =>
    (qZ fuel (cpy y2 a0 0 (min a0.length y2.length)) ((min a0.length y2.length : Nat) : Int)).bind fun x1 =>
    some x1
theorem aAx (fuel : Nat)  (a0 : List Int) (a1 : Int) (r : List Int) (H : uW fuel a0 a1 = some r) : FnS Tryz.prog 80 [fSl (aB .i64) a0, aA .i64 a1] [] fAny (fun v => [(fun v => aE v 30 (aB .i64) r) v]) := by
 unfold uW at H
 refine bI Tryz.func80 rfl Tryz.ntmps80 rfl (fun β => ?_)
 refine Z3 ?_
 refine aI ?_
 refine Z4 ?_
 revert H; refine is (fun c1 H => ?_) fun c1 H => ?_
 refine Z2 ?_
 refine Yy (lP rfl hh aAq) ?_
 cases H
 refine Z6 ?_
 refine Yy (aAd rfl hh aAQ zX) ?_
 refine Z1 ?_
 refine Yy (aAd rfl hh aAQ zX) ?_
 revert H; refine bs fun y1 h1 H => ?_
 refine Tc (aD9 _ _ _ h1) ?_
 refine Z6 ?_
 refine aI ?_
 refine Z4 ?_
 revert H; refine is (fun c2 H => ?_) fun c2 H => ?_
 refine Z6 ?_
 refine Yy (lP rfl hh aAq) ?_
 cases H
 refine Z4 ?_
 revert H; refine is (fun c3 H => ?_) fun c3 H => ?_
 refine Z2 ?_
 refine Yy (lP rfl hh aAq) ?_
 cases H
 refine Z5 ?_
 refine Yy (aAd rfl hh zX aAQ) ?_
 revert H; refine bs fun y2 h2 H => ?_
 refine aQ trivial rfl rfl (jT (t := (aB .i64)) (z := 0) rfl (has rfl) (et rfl) rfl ty_ze_30 rfl h2) (fun b1 => ?_)
 generalize hv_v1 : (Value.slice (some ⟨b1, 0, none⟩) _ _) = v1; clear hv_v1
 refine aP 0 rfl (fun hc_v1 => ?_)
 refine Z5 ?_
 refine T_copyF (ys := a0) trivial rfl rfl rfl (has rfl) (has rfl) (et rfl) ?_
 refine Z2 ?_
 revert H; refine bs fun o1 H Hr1 => ?_
 refine aW (ι := List Int) (fun i => o1 = i) (fun i => [(7, fEq v1)]) (fun i => [aE v1 30 (aB .i64) i]) ?_ ?_
 refine Z1 ?_
 refine Tl (ι := Nat × List Int × Int) (fun i => qZ i.1 i.2.1 i.2.2 = _) (fun i => i.1) (fun i => [(7, fEq v1), (8, aA .i64 i.2.2)]) (fun i => [aE v1 30 (aB .i64) i.2.1]) (fuel, cpy y2 a0 0 (min a0.length y2.length), ((min a0.length y2.length : Nat) : Int)) H ?_
 clear H; rintro ⟨k1, x4, x5⟩ H
 replace H : qZ k1 x4 x5 = _ := H
 try dsimp only
 obtain _ | k1 := k1
 rw [qZ] at H; cases H
 rw [qZ] at H
 refine aI ?_
 refine Z6 ?_
 revert H; refine is (fun c4 H => ?_) fun c4 H => ?_
 refine Z4 ?_
 revert H; refine bs fun y3 h3 H => ?_
 revert H; refine bs fun y4 h4 H => ?_
 revert H; refine bs fun z1 h5 H => ?_
 apply bB (ods := [_, _, _, _, _, _, _, _, _, _]) 10 0 1 bC rfl rfl rfl
 dsimp only [aY, List.take, List.replicate, List.append, List.drop]
 refine M3 ?_
 intros
 refine Mo 0 rfl (aAV (l := x5) (h := (x4.length : Int)) rfl hh (yW hh) aAl (el rfl) h3) fun _ => ?_
 refine M2 ?_
 intros
 refine Mo 0 rfl (aAV (l := 0) (h := x5) rfl hh aAl (yW hh) (el rfl) h4) fun _ => ?_
 refine N_copyR (od := odC [0] true (aA .i64 ((min (Int.toNat x5 - Int.toNat 0) (Int.toNat (x4.length : Int) - Int.toNat x5) : Nat) : Int)) [aE v1 30 (aB .i64) (cpy x4 (List.drop (Int.toNat 0) x4) (Int.toNat x5) (min (Int.toNat x5 - Int.toNat 0) (Int.toNat (x4.length : Int) - Int.toNat x5)))]) (p := 0) rfl (fun _ => rfl) (fun _ => rfl) trivial rfl rfl rfl rfl (has rfl) (has rfl) (et rfl) ⟨(xR h3).1, (xR h3).2, (xR h4).1, (xR h4).2⟩ (fun _ => ?_)
 refine M2 ?_
 intros
 refine Z4 ?_
 exact Tm ((k1, cpy x4 (List.drop (Int.toNat 0) x4) (Int.toNat x5) (min (Int.toNat x5 - Int.toNat 0) (Int.toNat (x4.length : Int) - Int.toNat x5)), z1)) ⟨H, ls⟩
 exact fk
 kernel_rfl
 refine Z6 ?_
 exact Tm (x4) (ij H)
 clear H; intro x1 hi; subst o1; have H := Hr1; clear Hr1; try dsimp only at H
 try dsimp only
 refine Z5 ?_
 cases H
 exact vF rfl (bJ rfl) (fun _ _ _ => trivial) rfl
def qK (fuel : Nat) (y1 : ScopeDef) : Nat → Int → (List (List Int)) → Option (List (List Int))
| 0, _, _ => none
| k + 1, x10, x11 =>
 if x10 < (y1.Chans.length : Int) then
  (idx y1.Chans x10).bind fun y4 =>
  (uW fuel [1] y4.Many).bind fun y5 =>
  (eW (x11 ++ ([y5] : List (List Int)))).bind fun z1 =>
  (chk (x10 + 1)).bind fun z2 =>
  qK fuel y1 k z2 z1
 else
  some x11
def rM (fuel : Nat) (a0 : Usage_text) : Nat → (List UsageDef) → Int → Option (List UsageDef)
| 0, _, _ => none
| k + 1, x4, x5 =>
 if x5 < (a0.ScopeProg.Defs.length : Int) then
  ((idx a0.ScopeProg.Defs x5).bind fun y1 =>
  (uW fuel [1] (y1.Chans.length : Int)).bind fun y2 =>
  (uW fuel [1] (y1.Rules.length : Int)).bind fun y3 =>
  (qK fuel y1 fuel 0 []).bind fun x7 =>
  (eW (x4 ++ ([(⟨y2, y3, x7⟩ : UsageDef)] : List UsageDef))).bind fun z3 =>
  some z3).bind fun x6 =>
  (chk (x5 + 1)).bind fun z4 =>
  rM fuel a0 k x6 z4
 else
  some x4
def aAs (fuel : Nat) (a0 : Usage_text) : Option (List UsageDef) :=
 (rM fuel a0 fuel [] 0).bind fun x1 =>
 some x1
theorem aEj (fuel : Nat)  (a0 : Usage_text) (r : List UsageDef) (H : aAs fuel a0 = some r) : FnS Tryz.prog 37 [aG bP a0] [] fAny (fun v => [(fun v => bW v 61 dN r) v]) := by
 unfold aAs at H
 refine bI Tryz.func37 rfl Tryz.ntmps37 rfl (fun β => ?_)
 refine Z6 ?_
 revert H; refine bs fun o1 H Hr1 => ?_
 refine aW (ι := List UsageDef × Value) (fun i => o1 = i.1) (fun i => [(3, fEq i.2)]) (fun i => [bW i.2 61 dN i.1]) ?_ ?_
 refine Z10 ?_
 refine tQ dN 61 ?_
 refine Tl (ι := Nat × List UsageDef × Int × Value) (fun i => rM fuel a0 i.1 i.2.1 i.2.2.1 = _) (fun i => i.1) (fun i => [(3, fEq i.2.2.2), (13, fSl aK a0.ScopeProg.Defs), (14, aA .i64 (a0.ScopeProg.Defs.length : Int)), (15, aA .i64 i.2.2.1)]) (fun i => [bW i.2.2.2 61 dN i.2.1]) (fuel, [], 0, (.slice none 0 0)) H ?_
 clear H; rintro ⟨k1, x4, x5, v3⟩ H
 replace H : rM fuel a0 k1 x4 x5 = _ := H
 try dsimp only
 obtain _ | k1 := k1
 rw [rM] at H; cases H
 rw [rM] at H
 refine dW 0 rfl (fun hc_v3 => ?_)
 refine Z3 ?_
 refine aI ?_
 revert H; refine is (fun c1 H => ?_) fun c1 H => ?_
 refine Z3 ?_
 revert H; refine bs fun o2 H Hr2 => ?_
 refine aW (ι := List UsageDef × Value) (fun i => o2 = i.1) (fun i => [(13, fSl aK a0.ScopeProg.Defs), (14, aA .i64 (a0.ScopeProg.Defs.length : Int)), (15, aA .i64 x5), (3, fEq i.2)]) (fun i => [bW i.2 61 dN i.1]) ?_ ?_
 refine Z2 ?_
 revert H; refine bs fun y1 h1 H => ?_
 refine Z2 ?_
 refine aQ trivial rfl rfl (cF rfl kX rfl) (fun b1 => ?_)
 refine dB (φs' := [fSl aZ y1.Chans, fSl bN y1.Spots, fSl bD y1.Rules]) trivial rfl rfl (has rfl) (has rfl) (aM (bA) (aM (bA) (aM (bA) bS))) (sz rfl) rfl rfl rfl ?_
 refine Z1 ?_
 refine aI ?_
 revert H; refine bs fun y2 h2 H => ?_
 revert H; refine bs fun y3 h3 H => ?_
 apply bB (ods := [_, _, _, _, _, _, _, _, _, _, _, _, _]) 13 3 5 bC rfl rfl rfl
 dsimp only [aY, List.take, List.replicate, List.append, List.drop]
 refine Mf (φ := fSl (aB .i64) [1]) (cM (t := (aB .i64)) (xs := [1]) rfl (et rfl) (aR.cons rfl (has rfl) (aT (aF trivial)) aR.nil) rfl rfl rfl) (fun b => cP) fun _ => ?_
 refine M3 ?_
 intros
 refine yY (od := odN [2] true (fun _ v6 => dZ v6) (fun _ v6 => [aE v6 30 (aB .i64) y2])) (p := 2) (τ := fun v => aE v 30 (aB .i64) y2) rfl (fun _ => rfl) (fun _ => rfl) trivial rfl rfl rfl (has rfl) (aD.cons (has rfl) (aD.cons (has rfl) aD.nil)) rfl (cb rfl) (aAx fuel [1] (y1.Chans.length : Int) y2 h2) (fun _ => dV) (fun u1 v6 => ?_)
 refine Mf (φ := fSl (aB .i64) [1]) (cM (t := (aB .i64)) (xs := [1]) rfl (et rfl) (aR.cons rfl (has rfl) (aT (aF trivial)) aR.nil) rfl rfl rfl) (fun b => cP) fun _ => ?_
 refine M3 ?_
 intros
 refine yY (od := odN [3] true (fun _ v8 => dZ v8) (fun _ v8 => [aE v8 30 (aB .i64) y3])) (p := 3) (τ := fun v => aE v 30 (aB .i64) y3) rfl (fun _ => rfl) (fun _ => rfl) trivial rfl rfl rfl (has rfl) (aD.cons (has rfl) (aD.cons (has rfl) aD.nil)) rfl (cb rfl) (aAx fuel [1] (y1.Rules.length : Int) y3 h3) (fun _ => dV) (fun u2 v8 => ?_)
 refine D2 4 9 _ v6 _ v8 (fun _ v6 _ v8 => eU [dZ v6, dZ v8, fEq (.slice none 0 0)]) rfl rfl (dM (ψs := [dZ v6, dZ v8, fEq (.slice none 0 0)]) rfl aAr rfl (aV.cons (has rfl) (aT (iJ)) (aV.cons (has rfl) (aT (iJ)) aV.nil)) rfl) (fun _ => ?_)
 refine Mn 4 (fun b4 => ptr b4) (fun b4 => aC b4 61 [fEq (.slice none 0 0), fEq (.slice none 0 0), fEq (.slice none 0 0)]) rfl (cF rfl wX rfl) (fun b4 u3 => ?_)
 refine mA (od := od3 4 9 11 [4] true (fun _ v6 _ v8 b4 _ => fAny) (fun _ v6 _ v8 b4 _ => [aC b4 61 [dZ v6, dZ v8, fEq (.slice none 0 0)]])) (p := 4) (φs' := [dZ v6, dZ v8, fEq (.slice none 0 0)]) rfl (fun _ => rfl) (fun _ => rfl) trivial rfl rfl rfl (has rfl) (has rfl) (aM (iJ) (aM (iJ) (aM (aF trivial) bS))) (sz rfl) rfl rfl rfl (fun _ => ?_)
 refine Z1 ?_
 refine jZ 23 rfl gC ?_
 refine jZ 28 rfl gC ?_
 refine jZ 29 rfl (gF (aO.cons gC (aO.cons gC (aO.cons Ent.rfl aO.nil)))) ?_
 refine aP 2 rfl (fun hc_v6 => ?_)
 refine aP 3 rfl (fun hc_v8 => ?_)
 refine bM ?_
 refine T_blkE (aO.cons gC (aO.cons gC (aO.cons Ent.rfl aO.nil))) ?_
 refine Z1 ?_
 revert H; refine bs fun o3 H Hr3 => ?_
 refine aW (ι := List (List Int) × Value) (fun i => o3 = i.1) (fun i => [(3, fEq v3), (13, fSl aK a0.ScopeProg.Defs), (14, aA .i64 (a0.ScopeProg.Defs.length : Int)), (15, aA .i64 x5), (6, fEq (.pointer (some ⟨b4, 0, none⟩)))]) (fun i => [aC b4 61 [fEq v6, fEq v8, fEq i.2], aC b1 99 [fSl aZ y1.Chans, fSl bN y1.Spots, fSl bD y1.Rules], bW v3 61 dN x4, aE v6 30 (aB .i64) y2, aE v8 30 (aB .i64) y3, bW i.2 58 (cO 30 (aB .i64)) i.1]) ?_ ?_
 refine Z7 ?_
 refine tQ (cO 30 (aB .i64)) 58 ?_
 refine aH [1, 2, 3, 4, 5, 0] (by decide) ?_
 refine Tl (ι := Nat × Int × List (List Int) × Value) (fun i => qK fuel y1 i.1 i.2.1 i.2.2.1 = _) (fun i => i.1) (fun i => [(3, fEq v3), (13, fSl aK a0.ScopeProg.Defs), (14, aA .i64 (a0.ScopeProg.Defs.length : Int)), (15, aA .i64 x5), (6, fEq (.pointer (some ⟨b4, 0, none⟩))), (31, fSl aZ y1.Chans), (32, aA .i64 (y1.Chans.length : Int)), (33, aA .i64 i.2.1)]) (fun i => [aC b4 61 [fEq v6, fEq v8, fEq i.2.2.2], aC b1 99 [fSl aZ y1.Chans, fSl bN y1.Spots, fSl bD y1.Rules], bW v3 61 dN x4, aE v6 30 (aB .i64) y2, aE v8 30 (aB .i64) y3, bW i.2.2.2 58 (cO 30 (aB .i64)) i.2.2.1]) (fuel, 0, [], (.slice none 0 0)) H ?_
 clear H; rintro ⟨k2, x10, x11, v11⟩ H
 replace H : qK fuel y1 k2 x10 x11 = _ := H
 try dsimp only
 obtain _ | k2 := k2
 rw [qK] at H; cases H
 rw [qK] at H
 refine dW 5 rfl (fun hc_v11 => ?_)
 refine Z3 ?_
 refine aI ?_
 revert H; refine is (fun c2 H => ?_) fun c2 H => ?_
 refine Z3 ?_
 refine aI ?_
 refine Z2 ?_
 revert H; refine bs fun y4 h4 H => ?_
 refine Z2 ?_
 refine aQ trivial rfl rfl (cF rfl zV rfl) (fun b5 => ?_)
 refine dB (φs' := [aA .i64 y4.At, aA .i64 y4.Many]) trivial rfl rfl (has rfl) (has rfl) (aM (aF trivial) (aM (aF trivial) bS)) (sz rfl) rfl rfl rfl ?_
 refine Z1 ?_
 revert H; refine bs fun y5 h5 H => ?_
 apply bB (ods := [_, _, _, _, _, _, _]) 7 2 9 bC rfl rfl rfl
 dsimp only [aY, List.take, List.replicate, List.append, List.drop]
 refine M2 ?_
 intros
 refine Mf (φ := fSl (aB .i64) [1]) (cM (t := (aB .i64)) (xs := [1]) rfl (et rfl) (aR.cons rfl (has rfl) (aT (aF trivial)) aR.nil) rfl rfl rfl) (fun b => cP) fun _ => ?_
 refine M2 ?_
 intros
 refine yY (od := odN [7] true (fun _ v13 => dZ v13) (fun _ v13 => [aE v13 30 (aB .i64) y5])) (p := 7) (τ := fun v => aE v 30 (aB .i64) y5) rfl (fun _ => rfl) (fun _ => rfl) trivial rfl rfl rfl (has rfl) (aD.cons (has rfl) (aD.cons (has rfl) aD.nil)) rfl (cb rfl) (aAx fuel [1] y4.Many y5 h5) (fun _ => dV) (fun u4 v13 => ?_)
 refine N_new (od := odN1 5 [8] true (fun _ v13 b7 _ => fEq (.slice (some ⟨b7, 0, none⟩) 1 1)) (fun _ v13 b7 _ => [aE (.slice (some ⟨b7, 0, none⟩) 1 1) 58 (tF 1) [[⟨dZ v13, iJ⟩]]])) (p := 8) (f := fun b7 => .slice (some ⟨b7, 0, none⟩) 1 1) (τ := fun b7 => aE (.slice (some ⟨b7, 0, none⟩) 1 1) 58 (tF 1) [[⟨dZ v13, iJ⟩]]) rfl (fun _ => rfl) (fun _ => rfl) trivial rfl rfl (cM (t := tF 1) (xs := [[⟨dZ v13, iJ⟩]]) rfl (et rfl) (aR.cons rfl (has rfl) (aT (iJ)) aR.nil) rfl rfl rfl) (fun b7 u5 => ?_)
 refine Z1 ?_
 refine jZ 42 rfl gC ?_
 refine aP 7 rfl (fun hc_v13 => ?_)
 generalize hv_v14 : (Value.slice (some ⟨b7, 0, none⟩) 1 1) = v14; clear hv_v14
 refine T_fr8 ?_
 refine pQ ?_
 refine T_fr8 ?_
 refine fZ (p := 0) (f := (fun v => aE v 30 (aB .i64) y5)) (hf := (fun _ => dV)) rfl gC ?_
 refine oK (o := (cO 30 (aB .i64))) (xs := ([y5] : List (List Int))) rfl rfl rfl ?_
 refine dW 0 rfl (fun hc_v14 => ?_)
 revert H; refine bs fun z1 h6 H => ?_
 refine T_fr7 ?_
 refine cZ ?_
 refine vU (q := (cO 30 (aB .i64))) trivial rfl rfl rfl (has rfl) (has rfl) (et rfl) rfl h6 (fun v15 => ?_)
 refine dW 0 rfl (fun hc_v15 => ?_)
 refine Z1 ?_
 refine dX ?_
 refine dH (φs' := [fEq v6, fEq v8, fEq v15]) trivial rfl rfl (has rfl) (has rfl) (aF hc_v15) (sz rfl) rfl rfl ?_
 refine Z4 ?_
 revert H; refine bs fun z2 h7 H => ?_
 refine Z3 ?_
 refine aH [0, 3, 4, 5, 6, 1] (by decide) ?_
 exact Tm ((k2, z2, z1, v15)) ⟨H, ls⟩
 exact fk
 kernel_rfl
 refine Z6 ?_
 exact Tm ((x11, v11)) (ij H)
 clear H; intro i hi; obtain ⟨x7, v9⟩ := i; subst o3; have H := Hr3; clear Hr3; try dsimp only at H
 try dsimp only
 refine dW 5 rfl (fun hc_v9 => ?_)
 refine Z3 ?_
 refine aQ trivial rfl rfl (cM (t := tF 3) (xs := [[⟨fEq v6, aF hc_v6⟩, ⟨fEq v8, aF hc_v8⟩, ⟨fEq v9, aF hc_v9⟩]]) rfl (et rfl) (aR.cons rfl (has rfl) bQ aR.nil) rfl rfl rfl) (fun b8 => ?_)
 generalize hv_v16 : (Value.slice (some ⟨b8, 0, none⟩) _ _) = v16; clear hv_v16
 refine pQ ?_
 refine bM ?_
 refine fZ (p := 0) (f := (fun v => aE v 30 (aB .i64) y2)) (hf := (fun _ => dV)) rfl Ent.rfl ?_
 refine bM ?_
 refine fZ (p := 1) (f := (fun v => aE v 30 (aB .i64) y3)) (hf := (fun _ => dV)) rfl Ent.rfl ?_
 refine bM ?_
 refine fZ (p := 2) (f := (fun v => bW v 58 (cO 30 (aB .i64)) x7)) (hf := (fun _ => jR)) rfl Ent.rfl ?_
 refine oK (o := dN) (xs := ([(⟨y2, y3, x7⟩ : UsageDef)] : List UsageDef)) rfl rfl rfl ?_
 refine dW 0 rfl (fun hc_v16 => ?_)
 revert H; refine bs fun z3 h8 H => ?_
 refine dA ?_
 refine cZ ?_
 refine vU (q := dN) trivial rfl rfl rfl (has rfl) (has rfl) (et rfl) rfl h8 (fun v17 => ?_)
 refine dW 0 rfl (fun hc_v17 => ?_)
 refine Z4 ?_
 refine aH [0] (by decide) ?_
 exact Tm ((z3, v17)) (ij H)
 exact fk
 kernel_rfl
 clear H; intro i hi; obtain ⟨x6, v4⟩ := i; subst o2; have H := Hr2; clear Hr2; try dsimp only at H
 try dsimp only
 refine dW 0 rfl (fun hc_v4 => ?_)
 refine Z1 ?_
 revert H; refine bs fun z4 h9 H => ?_
 refine Z3 ?_
 exact Tm ((k1, x6, z4, v4)) ⟨H, ls⟩
 refine Z6 ?_
 exact Tm ((x4, v3)) (ij H)
 clear H; intro i hi; obtain ⟨x1, v1⟩ := i; subst o1; have H := Hr1; clear Hr1; try dsimp only at H
 try dsimp only
 refine dW 0 rfl (fun hc_v1 => ?_)
 refine Z5 ?_
 cases H
 exact vF rfl (bJ rfl) (fun _ _ _ => trivial) rfl
def qL (a0 : Usage_text) (a1 : Int) (a2 : Int) : Option (Int) :=
 (idx a0.heads a1).bind fun y1 =>
 (idx a0.sizes y1).bind fun y2 =>
 (chk (y2 + a2)).bind fun z1 =>
 some z1
theorem vY  (a0 : Usage_text) (a1 : Int) (a2 : Int) (r : Int) (H : qL a0 a1 a2 = some r) : FnS Tryz.prog 42 [aG bP a0, aA .i64 a1, aA .i64 a2] [] (aA .i64 r) (fun _ => []) := by
 unfold qL at H
 refine bI Tryz.func42 rfl Tryz.ntmps42 rfl (fun β => ?_)
 refine Z3 ?_
 refine aI ?_
 revert H; refine bs fun y1 h1 H => ?_
 revert H; refine bs fun y2 h2 H => ?_
 revert H; refine bs fun z1 h3 H => ?_
 apply bB (ods := [_, _, _, _, _, _, _, _, _, _, _, _, _, _, _, _]) 16 0 0 bC rfl rfl rfl
 dsimp only [aY, List.take, List.replicate, List.append, List.drop]
 refine M8 ?_
 intros
 refine M8 ?_
 intros
 refine Z3 ?_
 cases H
 exact To
 exact fk
 kernel_rfl
def qM (fuel : Nat) (a0 : Usage_text) (a1 : List UsageDef) (a2 : Int) (y1 : ScopeDef) : Nat → (List (List Int)) → Int → (List Int) → Option (List (List Int) × List Int)
| 0, _, _, _ => none
| k + 1, x6, x7, x8 =>
 if x7 < (y1.Chans.length : Int) then
  (idx y1.Chans x7).bind fun y3 =>
  (idx a0.heads a2).bind fun y4 =>
  (qL a0 a2 x7).bind fun y5 =>
  (nW fuel a0 a1 y4 y5).bind fun y6 =>
  (oB y6).bind fun y7 =>
  (eW (x8 ++ [y7])).bind fun z1 =>
  (mk 0 y3.Many).bind fun y8 =>
  (idx x6 x7).bind fun y9 =>
  (chk (x7 + 1)).bind fun z2 =>
  qM fuel a0 a1 a2 y1 k (x6.set x7.toNat y8) z2 z1
 else
  some (x6, x8)
def sF (a1 : List UsageDef) (a2 : Int) (y10 : ScopeRule) : Nat → Int → Int → Option (Int)
| 0, _, _ => none
| k + 1, x22, x23 =>
 if x23 < (y10.Joins.length : Int) then
  (idx y10.Joins x23).bind fun y11 =>
  (idx a1 a2).bind fun y12 =>
  (idx y12.Chans y11).bind fun y13 =>
  (lH y13).bind fun y14 =>
  (chk (x23 + 1)).bind fun z3 =>
  sF a1 a2 y10 k (min x22 y14) z3
 else
  some x22
def rI (fuel : Nat) (a0 : Usage_text) (a1 : List UsageDef) (y10 : ScopeRule) (x27 : List (List Int)) (y20 : Int) (y21 : List Int) : Nat → Int → Int → (List Int) → Option (List (List Int) × Int)
| 0, _, _, _ => none
| k + 1, x35, x36, x37 =>
 if x36 < (y21.length : Int) then
  (idx x27 y20).bind fun y22 =>
  (idx x27 y20).bind fun y23 =>
  (idx x37 x36).bind fun y24 =>
  (fH fuel a0 a1 y10.Node x35).bind fun y25 =>
  (pF y24 y25).bind fun y26 =>
  (idx x37 x36).bind fun y27 =>
  (chk (x35 + 1)).bind fun z6 =>
  (chk (x36 + 1)).bind fun z7 =>
  rI fuel a0 a1 y10 x27 y20 y21 k z6 z7 (x37.set x36.toNat y26)
 else
  some (x27.set y20.toNat x37, x35)
def rE (fuel : Nat) (a0 : Usage_text) (a1 : List UsageDef) (y10 : ScopeRule) (z4 : List Int) : Nat → (List (List Int)) → Int → Int → Option (List (List Int) × List Int)
| 0, _, _, _ => none
| k + 1, x27, x28, x29 =>
 if x29 < (y10.Joins.length : Int) then
  ((idx y10.Joins x29).bind fun y20 =>
  (idx x27 y20).bind fun y21 =>
  rI fuel a0 a1 y10 x27 y20 y21 fuel x28 0 y21).bind fun (x30, x31) =>
  (chk (x29 + 1)).bind fun z8 =>
  rE fuel a0 a1 y10 z4 k x30 x31 z8
 else
  some (x27, z4)
def rL (fuel : Nat) (a0 : Usage_text) (a1 : List UsageDef) (a2 : Int) (y1 : ScopeDef) : Nat → (List (List Int)) → Int → (List Int) → Option (List (List Int) × List Int)
| 0, _, _, _ => none
| k + 1, x14, x15, x16 =>
 if x15 < (y1.Rules.length : Int) then
  ((idx y1.Rules x15).bind fun y10 =>
  (sF a1 a2 y10 fuel 2 0).bind fun x19 =>
  (oB x19).bind fun y15 =>
  (eW (x16 ++ [y15])).bind fun z4 =>
  (idx a1 a2).bind fun y16 =>
  (idx y16.Rules x15).bind fun y17 =>
  (lH y17).bind fun y18 =>
  if y18 = 0 then
   some (x14, z4)
  else
   (qL a0 a2 (y1.Chans.length : Int)).bind fun y19 =>
   (chk (y19 + (y1.Spots.length : Int))).bind fun z5 =>
   rE fuel a0 a1 y10 z4 fuel x14 z5 0).bind fun (x17, x18) =>
  (chk (x15 + 1)).bind fun z9 =>
  rL fuel a0 a1 a2 y1 k x17 z9 x18
 else
  some (x14, x16)
def rA (y28 : List Int) : Nat → (List Int) → Int → Option (List Int)
| 0, _, _ => none
| k + 1, x50, x51 =>
 if x51 < (y28.length : Int) then
  (idx y28 x51).bind fun y29 =>
  (oB y29).bind fun y30 =>
  (eW (x50 ++ [y30])).bind fun z10 =>
  (chk (x51 + 1)).bind fun z11 =>
  rA y28 k z10 z11
 else
  some x50
def rT (fuel : Nat) (x9 : List (List Int)) : Nat → (List (List Int)) → Int → (List (List Int)) → Option (List (List Int))
| 0, _, _, _ => none
| k + 1, x42, x43, x44 =>
 if x43 < (x9.length : Int) then
  ((idx x42 x43).bind fun y28 =>
  (rA y28 fuel [] 0).bind fun x47 =>
  (eW (x44 ++ ([x47] : List (List Int)))).bind fun z12 =>
  some (x42.set x43.toNat y28, z12)).bind fun (x45, x46) =>
  (chk (x43 + 1)).bind fun z13 =>
  rT fuel x9 k x45 z13 x46
 else
  some x44
def yN (fuel : Nat) (a0 : Usage_text) (a1 : List UsageDef) (a2 : Int) : Option (UsageDef) :=
 (idx a0.ScopeProg.Defs a2).bind fun y1 =>
 (mk ([] : List Int) (y1.Chans.length : Int)).bind fun y2 =>
 (qM fuel a0 a1 a2 y1 fuel y2 0 []).bind fun (x1, x2) =>
 (rL fuel a0 a1 a2 y1 fuel x1 0 []).bind fun (x9, x10) =>
 (rT fuel x9 fuel x9 0 []).bind fun x38 =>
 some (⟨x2, x10, x38⟩ : UsageDef)
theorem aFR (fuel : Nat)  (a0 : Usage_text) (a1 : List UsageDef) (a2 : Int) (r : UsageDef) (H : yN fuel a0 a1 a2 = some r) : FnS Tryz.prog 81 [aG bP a0, fSl bG a1, aA .i64 a2] [] fAny (fun v => [sB .agg [.own (fun v => aE v 30 (aB .i64) r.Chans) (fun _ => dV), .own (fun v => aE v 30 (aB .i64) r.Rules) (fun _ => dV), .own (fun v => bW v 58 (cO 30 (aB .i64)) r.Args) (fun _ => jR)] v]) := by
 unfold yN at H
 refine bI Tryz.func81 rfl Tryz.ntmps81 rfl (fun β => ?_)
 refine Z1 ?_
 refine aQ trivial rfl rfl (cF rfl wX rfl) (fun b1 => ?_)
 refine Z8 ?_
 revert H; refine bs fun y1 h1 H => ?_
 refine Z2 ?_
 refine aQ trivial rfl rfl (cF rfl kX rfl) (fun b2 => ?_)
 refine dB (φs' := [fSl aZ y1.Chans, fSl bN y1.Spots, fSl bD y1.Rules]) trivial rfl rfl (has rfl) (has rfl) (aM (bA) (aM (bA) (aM (bA) bS))) (sz rfl) rfl rfl rfl ?_
 refine Z2 ?_
 refine aQ trivial rfl rfl (cF rfl wX rfl) (fun b3 => ?_)
 refine Z5 ?_
 revert H; refine bs fun y2 h2 H => ?_
 obtain ⟨h3, h4⟩ := mk_rep (z' := ([⟨fEq (.slice none 0 0), aF trivial⟩] : List LF)) h2
 refine aQ trivial rfl rfl (jT (t := tF 1) (z := [⟨fEq (.slice none 0 0), aF trivial⟩]) rfl (has rfl) (et rfl) rfl aEZ rfl h4) (fun b4 => ?_)
 generalize hv_v1 : (Value.slice (some ⟨b4, 0, none⟩) _ _) = v1; clear hv_v1
 refine T_nilsD2 (o := (cO 67 (aB .i64))) (ys := y2) h3 rfl nil_tk ?_
 refine dW 0 rfl (fun hc_v1 => ?_)
 refine Z2 ?_
 revert H; refine bs fun o1 H Hr1 => ?_
 refine aW (ι := List (List Int) × List Int × Value) (fun i => o1 = (i.1, i.2.1)) (fun i => [(0, aG bP a0), (1, fSl bG a1), (2, aA .i64 a2), (6, fEq (.pointer (some ⟨b1, 0, none⟩))), (7, fEq (.pointer (some ⟨b2, 0, none⟩))), (8, fEq (.pointer (some ⟨b3, 0, none⟩))), (9, fEq v1)]) (fun i => [aC b3 61 [fEq i.2.2, fEq (.slice none 0 0), fEq (.slice none 0 0)], aC b2 99 [fSl aZ y1.Chans, fSl bN y1.Spots, fSl bD y1.Rules], aC b1 61 [fEq (.slice none 0 0), fEq (.slice none 0 0), fEq (.slice none 0 0)], bW v1 157 (cO 67 (aB .i64)) i.1, aE i.2.2 30 (aB .i64) i.2.1]) ?_ ?_
 refine Z7 ?_
 refine oJ (aB .i64) 30 ?_
 refine aH [2, 3, 4, 1, 0] (by decide) ?_
 refine Tl (ι := Nat × List (List Int) × Int × List Int × Value) (fun i => qM fuel a0 a1 a2 y1 i.1 i.2.1 i.2.2.1 i.2.2.2.1 = _) (fun i => i.1) (fun i => [(0, aG bP a0), (1, fSl bG a1), (2, aA .i64 a2), (6, fEq (.pointer (some ⟨b1, 0, none⟩))), (7, fEq (.pointer (some ⟨b2, 0, none⟩))), (8, fEq (.pointer (some ⟨b3, 0, none⟩))), (9, fEq v1), (39, fSl aZ y1.Chans), (40, aA .i64 (y1.Chans.length : Int)), (41, aA .i64 i.2.2.1)]) (fun i => [aC b3 61 [fEq i.2.2.2.2, fEq (.slice none 0 0), fEq (.slice none 0 0)], aC b2 99 [fSl aZ y1.Chans, fSl bN y1.Spots, fSl bD y1.Rules], aC b1 61 [fEq (.slice none 0 0), fEq (.slice none 0 0), fEq (.slice none 0 0)], bW v1 157 (cO 67 (aB .i64)) i.2.1, aE i.2.2.2.2 30 (aB .i64) i.2.2.2.1]) (fuel, y2, 0, [], (.slice none 0 0)) H ?_
 clear H; rintro ⟨k1, x6, x7, x8, v4⟩ H
 replace H : qM fuel a0 a1 a2 y1 k1 x6 x7 x8 = _ := H
 try dsimp only
 obtain _ | k1 := k1
 rw [qM] at H; cases H
 rw [qM] at H
 refine aP 4 rfl (fun hc_v4 => ?_)
 refine Z3 ?_
 refine aI ?_
 revert H; refine is (fun c1 H => ?_) fun c1 H => ?_
 refine Z3 ?_
 refine aI ?_
 refine Z3 ?_
 revert H; refine bs fun y3 h5 H => ?_
 refine Z2 ?_
 refine aQ trivial rfl rfl (cF rfl zV rfl) (fun b5 => ?_)
 refine Z1 ?_
 refine dB (φs' := [aA .i64 y3.At, aA .i64 y3.Many]) trivial rfl rfl (has rfl) (has rfl) (aM (aF trivial) (aM (aF trivial) bS)) (sz rfl) rfl rfl rfl ?_
 refine Z1 ?_
 refine aI ?_
 revert H; refine bs fun y4 h6 H => ?_
 revert H; refine bs fun y5 h7 H => ?_
 revert H; refine bs fun y6 h8 H => ?_
 revert H; refine bs fun y7 h9 H => ?_
 apply bB (ods := [_, _, _, _, _, _, _, _, _, _, _, _, _, _, _, _, _, _]) 18 0 6 bC rfl rfl rfl
 dsimp only [aY, List.take, List.replicate, List.append, List.drop]
 refine M8 ?_
 intros
 refine M6 ?_
 intros
 refine bT (od := odC [] true (aA .i64 y5) []) (Φ := aA .i64 y5) rfl (fun _ => rfl) trivial rfl rfl (has rfl) (aD.cons (has rfl) (aD.cons (has rfl) (aD.cons (has rfl) aD.nil))) rfl (cb rfl) (vY a0 a2 x7 y5 h7) (fun _ => ?_)
 refine bT (od := odC [] true (aA .i64 y6) []) (Φ := aA .i64 y6) rfl (fun _ => rfl) trivial rfl rfl (has rfl) (aD.cons (has rfl) (aD.cons (has rfl) (aD.cons (has rfl) (aD.cons (has rfl) aD.nil)))) rfl (cb rfl) (aFf fuel a0 a1 y4 y5 y6 h8) (fun _ => ?_)
 refine bT (od := odC [] true (aA .i64 y7) []) (Φ := aA .i64 y7) rfl (fun _ => rfl) trivial rfl rfl (has rfl) (aD.cons (has rfl) aD.nil) rfl (cb rfl) (vW y6 y7 h9) (fun _ => ?_)
 refine Mf (φ := fSl (aB .i64) [y7]) (cM (t := (aB .i64)) (xs := [y7]) rfl (et rfl) (aR.cons rfl (has rfl) (aT (aF trivial)) aR.nil) rfl rfl rfl) (fun b => cP) fun _ => ?_
 refine Z1 ?_
 revert H; refine bs fun z1 h10 H => ?_
 refine lJ ?_
 refine vN (ys := [y7]) trivial rfl rfl rfl (has rfl) (has rfl) (et rfl) rfl h10 (fun v6 => ?_)
 refine aP 0 rfl (fun hc_v6 => ?_)
 refine Z1 ?_
 refine dX ?_
 refine dH (φs' := [fEq v6, fEq (.slice none 0 0), fEq (.slice none 0 0)]) trivial rfl rfl (has rfl) (has rfl) (aF hc_v6) (sz rfl) rfl rfl ?_
 refine Z6 ?_
 revert H; refine bs fun y8 h11 H => ?_
 refine aQ trivial rfl rfl (jT (t := (aB .i64)) (z := 0) rfl (has rfl) (et rfl) rfl aC2 rfl h11) (fun b7 => ?_)
 generalize hv_v7 : (Value.slice (some ⟨b7, 0, none⟩) _ _) = v7; clear hv_v7
 refine aP 0 rfl (fun hc_v7 => ?_)
 revert H; refine bs fun y9 h12 H => ?_
 refine Yo 6 rfl (jN rfl hh hh (el rfl) h12) ?_
 refine lW ?_
 refine cZ ?_
 refine aE2 (z' := y8) (f := (fun v => aE v 67 (aB .i64) y8)) (hf := (fun _ => dV)) trivial rfl rfl rfl (has rfl) (has rfl) hc_v7 (sz rfl) (cH h12) rfl rfl ?_
 refine Z4 ?_
 revert H; refine bs fun z2 h13 H => ?_
 refine Z3 ?_
 refine aH [1, 4, 5, 0, 2] (by decide) ?_
 exact Tm ((k1, x6.set x7.toNat y8, z2, z1, v6)) ⟨H, ls⟩
 exact fk
 kernel_rfl
 refine Z6 ?_
 exact Tm ((x6, x8, v4)) (ij H)
 clear H; intro i hi; obtain ⟨x1, x2, v2⟩ := i; subst o1; have H := Hr1; clear Hr1; try dsimp only at H
 try dsimp only
 refine aP 4 rfl (fun hc_v2 => ?_)
 revert H; refine bs fun o2 H Hr2 => ?_
 refine aW (ι := List (List Int) × List Int × Value) (fun i => o2 = (i.1, i.2.1)) (fun i => [(6, fEq (.pointer (some ⟨b1, 0, none⟩))), (8, fEq (.pointer (some ⟨b3, 0, none⟩))), (9, fEq v1)]) (fun i => [aC b3 61 [fEq v2, fEq i.2.2, fEq (.slice none 0 0)], aC b2 99 [fSl aZ y1.Chans, fSl bN y1.Spots, fSl bD y1.Rules], aC b1 61 [fEq (.slice none 0 0), fEq (.slice none 0 0), fEq (.slice none 0 0)], bW v1 157 (cO 67 (aB .i64)) i.1, aE v2 30 (aB .i64) x2, aE i.2.2 30 (aB .i64) i.2.1]) ?_ ?_
 refine Z7 ?_
 refine oJ (aB .i64) 30 ?_
 refine aH [1, 2, 3, 4, 5, 0] (by decide) ?_
 refine Tl (ι := Nat × List (List Int) × Int × List Int × Value) (fun i => rL fuel a0 a1 a2 y1 i.1 i.2.1 i.2.2.1 i.2.2.2.1 = _) (fun i => i.1) (fun i => [(0, aG bP a0), (1, fSl bG a1), (2, aA .i64 a2), (6, fEq (.pointer (some ⟨b1, 0, none⟩))), (7, fEq (.pointer (some ⟨b2, 0, none⟩))), (8, fEq (.pointer (some ⟨b3, 0, none⟩))), (9, fEq v1), (74, fSl bD y1.Rules), (75, aA .i64 (y1.Rules.length : Int)), (76, aA .i64 i.2.2.1)]) (fun i => [aC b3 61 [fEq v2, fEq i.2.2.2.2, fEq (.slice none 0 0)], aC b2 99 [fSl aZ y1.Chans, fSl bN y1.Spots, fSl bD y1.Rules], aC b1 61 [fEq (.slice none 0 0), fEq (.slice none 0 0), fEq (.slice none 0 0)], bW v1 157 (cO 67 (aB .i64)) i.2.1, aE v2 30 (aB .i64) x2, aE i.2.2.2.2 30 (aB .i64) i.2.2.2.1]) (fuel, x1, 0, [], (.slice none 0 0)) H ?_
 clear H; rintro ⟨k2, x14, x15, x16, v10⟩ H
 replace H : rL fuel a0 a1 a2 y1 k2 x14 x15 x16 = _ := H
 try dsimp only
 obtain _ | k2 := k2
 rw [rL] at H; cases H
 rw [rL] at H
 refine aP 5 rfl (fun hc_v10 => ?_)
 refine Z3 ?_
 refine aI ?_
 revert H; refine is (fun c2 H => ?_) fun c2 H => ?_
 refine Z3 ?_
 revert H; refine bs fun o3 H Hr3 => ?_
 refine aW (ι := List (List Int) × List Int × Value) (fun i => o3 = (i.1, i.2.1)) (fun i => [(0, aG bP a0), (1, fSl bG a1), (2, aA .i64 a2), (6, fEq (.pointer (some ⟨b1, 0, none⟩))), (7, fEq (.pointer (some ⟨b2, 0, none⟩))), (8, fEq (.pointer (some ⟨b3, 0, none⟩))), (9, fEq v1), (74, fSl bD y1.Rules), (75, aA .i64 (y1.Rules.length : Int)), (76, aA .i64 x15)]) (fun i => [aC b3 61 [fEq v2, fEq i.2.2, fEq (.slice none 0 0)], aC b2 99 [fSl aZ y1.Chans, fSl bN y1.Spots, fSl bD y1.Rules], aC b1 61 [fEq (.slice none 0 0), fEq (.slice none 0 0), fEq (.slice none 0 0)], bW v1 157 (cO 67 (aB .i64)) i.1, aE v2 30 (aB .i64) x2, aE i.2.2 30 (aB .i64) i.2.1]) ?_ ?_
 refine Z3 ?_
 revert H; refine bs fun y10 h14 H => ?_
 refine Z2 ?_
 refine aQ trivial rfl rfl (cF rfl rU rfl) (fun b8 => ?_)
 refine Z1 ?_
 refine dB (φs' := [aA .i64 y10.At, fSl (aB .i64) y10.Joins, aA .i64 y10.Node]) trivial rfl rfl (has rfl) (has rfl) (aM (aF trivial) (aM (bA) (aM (aF trivial) bS))) (sz rfl) rfl rfl rfl ?_
 refine Z4 ?_
 revert H; refine bs fun o4 H Hr4 => ?_
 refine aW (ι := Int) (fun i => o4 = i) (fun i => [(0, aG bP a0), (1, fSl bG a1), (2, aA .i64 a2), (6, fEq (.pointer (some ⟨b1, 0, none⟩))), (7, fEq (.pointer (some ⟨b2, 0, none⟩))), (8, fEq (.pointer (some ⟨b3, 0, none⟩))), (9, fEq v1), (74, fSl bD y1.Rules), (75, aA .i64 (y1.Rules.length : Int)), (76, aA .i64 x15), (13, fEq (.pointer (some ⟨b8, 0, none⟩))), (12, aA .i64 x15), (14, aA .i64 i)]) (fun i => [aC b8 105 [aA .i64 y10.At, fSl (aB .i64) y10.Joins, aA .i64 y10.Node], aC b3 61 [fEq v2, fEq v10, fEq (.slice none 0 0)], aC b2 99 [fSl aZ y1.Chans, fSl bN y1.Spots, fSl bD y1.Rules], aC b1 61 [fEq (.slice none 0 0), fEq (.slice none 0 0), fEq (.slice none 0 0)], bW v1 157 (cO 67 (aB .i64)) x14, aE v2 30 (aB .i64) x2, aE v10 30 (aB .i64) x16]) ?_ ?_
 refine Z7 ?_
 refine Tl (ι := Nat × Int × Int) (fun i => sF a1 a2 y10 i.1 i.2.1 i.2.2 = _) (fun i => i.1) (fun i => [(0, aG bP a0), (1, fSl bG a1), (2, aA .i64 a2), (6, fEq (.pointer (some ⟨b1, 0, none⟩))), (7, fEq (.pointer (some ⟨b2, 0, none⟩))), (8, fEq (.pointer (some ⟨b3, 0, none⟩))), (9, fEq v1), (74, fSl bD y1.Rules), (75, aA .i64 (y1.Rules.length : Int)), (76, aA .i64 x15), (13, fEq (.pointer (some ⟨b8, 0, none⟩))), (12, aA .i64 x15), (14, aA .i64 i.2.1), (82, fSl (aB .i64) y10.Joins), (83, aA .i64 (y10.Joins.length : Int)), (84, aA .i64 i.2.2)]) (fun i => [aC b8 105 [aA .i64 y10.At, fSl (aB .i64) y10.Joins, aA .i64 y10.Node], aC b3 61 [fEq v2, fEq v10, fEq (.slice none 0 0)], aC b2 99 [fSl aZ y1.Chans, fSl bN y1.Spots, fSl bD y1.Rules], aC b1 61 [fEq (.slice none 0 0), fEq (.slice none 0 0), fEq (.slice none 0 0)], bW v1 157 (cO 67 (aB .i64)) x14, aE v2 30 (aB .i64) x2, aE v10 30 (aB .i64) x16]) (fuel, 2, 0) H ?_
 clear H; rintro ⟨k3, x22, x23⟩ H
 replace H : sF a1 a2 y10 k3 x22 x23 = _ := H
 try dsimp only
 obtain _ | k3 := k3
 rw [sF] at H; cases H
 rw [sF] at H
 refine Z3 ?_
 refine aI ?_
 revert H; refine is (fun c3 H => ?_) fun c3 H => ?_
 refine Z3 ?_
 refine aI ?_
 refine Z2 ?_
 revert H; refine bs fun y11 h15 H => ?_
 refine Z8 ?_
 revert H; refine bs fun y12 h16 H => ?_
 refine Z4 ?_
 revert H; refine bs fun y13 h17 H => ?_
 refine Z2 ?_
 revert H; refine bs fun y14 h18 H => ?_
 refine Tc (rC _ _ h18) ?_
 refine Z6 ?_
 revert H; refine bs fun z3 h19 H => ?_
 refine Z3 ?_
 exact Tm ((k3, min x22 y14, z3)) ⟨H, ls⟩
 refine Z6 ?_
 exact Tm (x22) (ij H)
 clear H; intro x19 hi; subst o4; have H := Hr4; clear Hr4; try dsimp only at H
 try dsimp only
 refine aI ?_
 revert H; refine bs fun y15 h20 H => ?_
 apply bB (ods := [_, _, _, _, _]) 5 0 7 bC rfl rfl rfl
 dsimp only [aY, List.take, List.replicate, List.append, List.drop]
 refine M3 ?_
 intros
 refine bT (od := odC [] true (aA .i64 y15) []) (Φ := aA .i64 y15) rfl (fun _ => rfl) trivial rfl rfl (has rfl) (aD.cons (has rfl) aD.nil) rfl (cb rfl) (vW x19 y15 h20) (fun _ => ?_)
 refine Mf (φ := fSl (aB .i64) [y15]) (cM (t := (aB .i64)) (xs := [y15]) rfl (et rfl) (aR.cons rfl (has rfl) (aT (aF trivial)) aR.nil) rfl rfl rfl) (fun b => cP) fun _ => ?_
 refine Z1 ?_
 revert H; refine bs fun z4 h21 H => ?_
 refine lW ?_
 refine vN (ys := [y15]) trivial rfl rfl rfl (has rfl) (has rfl) (et rfl) rfl h21 (fun v13 => ?_)
 refine aP 0 rfl (fun hc_v13 => ?_)
 refine Z1 ?_
 refine dX ?_
 refine dH (φs' := [fEq v2, fEq v13, fEq (.slice none 0 0)]) trivial rfl rfl (has rfl) (has rfl) (aF hc_v13) (sz rfl) rfl rfl ?_
 refine Z1 ?_
 refine aI ?_
 refine Z3 ?_
 revert H; refine bs fun y16 h22 H => ?_
 refine Z4 ?_
 revert H; refine bs fun y17 h23 H => ?_
 refine Z2 ?_
 revert H; refine bs fun y18 h24 H => ?_
 refine Tc (rC _ _ h24) ?_
 refine Z2 ?_
 revert H; refine is (fun c4 H => ?_) fun c4 H => ?_
 refine Z5 ?_
 refine aH [0, 3, 4, 5, 6, 1] (by decide) ?_
 exact Tm ((x14, z4, v13)) (ij H)
 refine Z3 ?_
 refine aI ?_
 revert H; refine bs fun y19 h25 H => ?_
 revert H; refine bs fun z5 h26 H => ?_
 apply bB (ods := [_, _, _, _, _, _, _, _, _, _, _]) 11 0 7 bC rfl rfl rfl
 dsimp only [aY, List.take, List.replicate, List.append, List.drop]
 refine M5 ?_
 intros
 refine bT (od := odC [] true (aA .i64 y19) []) (Φ := aA .i64 y19) rfl (fun _ => rfl) trivial rfl rfl (has rfl) (aD.cons (has rfl) (aD.cons (has rfl) (aD.cons (has rfl) aD.nil))) rfl (cb rfl) (vY a0 a2 (y1.Chans.length : Int) y19 h25) (fun _ => ?_)
 refine M5 ?_
 intros
 refine Z9 ?_
 refine aH [0, 2, 3, 4, 5, 6, 1] (by decide) ?_
 refine Tl (ι := Nat × List (List Int) × Int × Int) (fun i => rE fuel a0 a1 y10 z4 i.1 i.2.1 i.2.2.1 i.2.2.2 = _) (fun i => i.1) (fun i => [(0, aG bP a0), (1, fSl bG a1), (2, aA .i64 a2), (6, fEq (.pointer (some ⟨b1, 0, none⟩))), (7, fEq (.pointer (some ⟨b2, 0, none⟩))), (8, fEq (.pointer (some ⟨b3, 0, none⟩))), (9, fEq v1), (74, fSl bD y1.Rules), (75, aA .i64 (y1.Rules.length : Int)), (76, aA .i64 x15), (13, fEq (.pointer (some ⟨b8, 0, none⟩))), (17, aA .i64 i.2.2.1), (128, fSl (aB .i64) y10.Joins), (129, aA .i64 (y10.Joins.length : Int)), (130, aA .i64 i.2.2.2)]) (fun i => [aC b3 61 [fEq v2, fEq v13, fEq (.slice none 0 0)], aC b8 105 [aA .i64 y10.At, fSl (aB .i64) y10.Joins, aA .i64 y10.Node], aC b2 99 [fSl aZ y1.Chans, fSl bN y1.Spots, fSl bD y1.Rules], aC b1 61 [fEq (.slice none 0 0), fEq (.slice none 0 0), fEq (.slice none 0 0)], bW v1 157 (cO 67 (aB .i64)) i.2.1, aE v2 30 (aB .i64) x2, aE v13 30 (aB .i64) z4]) (fuel, x14, z5, 0) H ?_
 clear H; rintro ⟨k4, x27, x28, x29⟩ H
 replace H : rE fuel a0 a1 y10 z4 k4 x27 x28 x29 = _ := H
 try dsimp only
 obtain _ | k4 := k4
 rw [rE] at H; cases H
 rw [rE] at H
 refine Z3 ?_
 refine aI ?_
 revert H; refine is (fun c5 H => ?_) fun c5 H => ?_
 refine Z3 ?_
 revert H; refine bs fun o5 H Hr5 => ?_
 refine aW (ι := List (List Int) × Int) (fun i => o5 = (i.1, i.2)) (fun i => [(0, aG bP a0), (1, fSl bG a1), (2, aA .i64 a2), (6, fEq (.pointer (some ⟨b1, 0, none⟩))), (7, fEq (.pointer (some ⟨b2, 0, none⟩))), (8, fEq (.pointer (some ⟨b3, 0, none⟩))), (9, fEq v1), (74, fSl bD y1.Rules), (75, aA .i64 (y1.Rules.length : Int)), (76, aA .i64 x15), (13, fEq (.pointer (some ⟨b8, 0, none⟩))), (17, aA .i64 i.2), (128, fSl (aB .i64) y10.Joins), (129, aA .i64 (y10.Joins.length : Int)), (130, aA .i64 x29)]) (fun i => [aC b3 61 [fEq v2, fEq v13, fEq (.slice none 0 0)], aC b8 105 [aA .i64 y10.At, fSl (aB .i64) y10.Joins, aA .i64 y10.Node], aC b2 99 [fSl aZ y1.Chans, fSl bN y1.Spots, fSl bD y1.Rules], aC b1 61 [fEq (.slice none 0 0), fEq (.slice none 0 0), fEq (.slice none 0 0)], bW v1 157 (cO 67 (aB .i64)) i.1, aE v2 30 (aB .i64) x2, aE v13 30 (aB .i64) z4]) ?_ ?_
 refine Z2 ?_
 revert H; refine bs fun y20 h27 H => ?_
 refine Z7 ?_
 revert H; refine bs fun y21 h28 H => ?_
 refine Yo 4 rfl (jN rfl hh hh (el rfl) h28) ?_
 refine bM ?_
 refine pB (i := y20.toNat) (k := 0) (y := y21) (f := (fun v => aE v 67 (aB .i64) y21)) (cH h28) rfl (fun v14 => ?_)
 refine aP 0 rfl (fun hc_v14 => ?_)
 refine Yo 1 rfl (kP rfl rfl hh (sc rfl) (cH h28) rfl) ?_
 refine Z4 ?_
 refine aH [2, 3, 4, 5, 1, 6, 7, 0] (by decide) ?_
 refine Tl (ι := Nat × Int × Int × List Int) (fun i => rI fuel a0 a1 y10 x27 y20 y21 i.1 i.2.1 i.2.2.1 i.2.2.2 = _) (fun i => i.1) (fun i => [(0, aG bP a0), (1, fSl bG a1), (2, aA .i64 a2), (6, fEq (.pointer (some ⟨b1, 0, none⟩))), (7, fEq (.pointer (some ⟨b2, 0, none⟩))), (8, fEq (.pointer (some ⟨b3, 0, none⟩))), (9, fEq v1), (74, fSl bD y1.Rules), (75, aA .i64 (y1.Rules.length : Int)), (76, aA .i64 x15), (13, fEq (.pointer (some ⟨b8, 0, none⟩))), (17, aA .i64 i.2.1), (128, fSl (aB .i64) y10.Joins), (129, aA .i64 (y10.Joins.length : Int)), (130, aA .i64 x29), (19, aA .i64 y20), (138, aA .i64 (y21.length : Int)), (139, aA .i64 i.2.2.1)]) (fun i => [aC b3 61 [fEq v2, fEq v13, fEq (.slice none 0 0)], aC b8 105 [aA .i64 y10.At, fSl (aB .i64) y10.Joins, aA .i64 y10.Node], aC b2 99 [fSl aZ y1.Chans, fSl bN y1.Spots, fSl bD y1.Rules], aC b1 61 [fEq (.slice none 0 0), fEq (.slice none 0 0), fEq (.slice none 0 0)], nM v1 157 (cO 67 (aB .i64)) x27 (y20.toNat * OTy.sz (cO 67 (aB .i64)) + 0) v14, aE v2 30 (aB .i64) x2, aE v13 30 (aB .i64) z4, aE v14 67 (aB .i64) i.2.2.2]) (fuel, x28, 0, y21) H ?_
 clear H; rintro ⟨k5, x35, x36, x37⟩ H
 replace H : rI fuel a0 a1 y10 x27 y20 y21 k5 x35 x36 x37 = _ := H
 try dsimp only
 obtain _ | k5 := k5
 rw [rI] at H; cases H
 rw [rI] at H
 refine Z3 ?_
 refine aI ?_
 revert H; refine is (fun c6 H => ?_) fun c6 H => ?_
 refine Z3 ?_
 refine aI ?_
 refine Z5 ?_
 refine aI ?_
 revert H; refine bs fun y22 h29 H => ?_
 revert H; refine bs fun y23 h30 H => ?_
 revert H; refine bs fun y24 h31 H => ?_
 revert H; refine bs fun y25 h32 H => ?_
 revert H; refine bs fun y26 h33 H => ?_
 revert H; refine bs fun y27 h34 H => ?_
 apply bB (ods := [_, _, _, _, _, _, _, _, _, _, _, _, _, _, _, _, _, _, _, _, _]) 21 0 8 bC rfl rfl rfl
 dsimp only [aY, List.take, List.replicate, List.append, List.drop]
 refine M2 ?_
 intros
 refine Mo 4 rfl (jN rfl hh hh (el rfl) h29) fun _ => ?_
 refine Mo 4 rfl (kP rfl rfl hh (sc rfl) (cH h29) rfl) fun _ => ?_
 refine M3 ?_
 intros
 refine Mo 4 rfl (jN rfl hh hh (el rfl) h30) fun _ => ?_
 refine Mo 4 rfl (kP rfl rfl hh (sc rfl) (cH h30) rfl) fun _ => ?_
 refine M2 ?_
 intros
 refine Mo 7 rfl (iV rfl rfl hh (sc rfl) (cH h31) rfl) fun _ => ?_
 refine M5 ?_
 intros
 refine bT (od := odC [] true (aA .i64 y25) []) (Φ := aA .i64 y25) rfl (fun _ => rfl) trivial rfl rfl (has rfl) (aD.cons (has rfl) (aD.cons (has rfl) (aD.cons (has rfl) (aD.cons (has rfl) aD.nil)))) rfl (cb rfl) (aDt fuel a0 a1 y10.Node x35 y25 h32) (fun _ => ?_)
 refine bT (od := odC [] true (aA .i64 y26) []) (Φ := aA .i64 y26) rfl (fun _ => rfl) trivial rfl rfl (has rfl) (aD.cons (has rfl) (aD.cons (has rfl) aD.nil)) rfl (cb rfl) (aCx y24 y25 y26 h33) (fun _ => ?_)
 refine M1 ?_
 intros
 refine nP (od := odC [7] true (fAny) [aE v14 67 (aB .i64) (x37.set x36.toNat y26)]) (p := 7) (z' := y26) rfl (fun _ => rfl) (fun _ => rfl) trivial rfl rfl rfl rfl (has rfl) (has rfl) (aF trivial) (sz rfl) (cH h34) rfl rfl (fun _ => ?_)
 refine Z4 ?_
 revert H; refine bs fun z6 h35 H => ?_
 refine Z6 ?_
 revert H; refine bs fun z7 h36 H => ?_
 refine Z3 ?_
 exact Tm ((k5, z6, z7, x37.set x36.toNat y26)) ⟨H, ls⟩
 exact fk
 kernel_rfl
 refine Z7 ?_
 refine bM ?_
 refine T_fr7 ?_
 refine nQ (o := (cO 67 (aB .i64))) (i := y20.toNat) (k := 0) (y := y21) (y' := x37) (f := (fun v => aE v 67 (aB .i64) x37)) (hf := (fun _ => dV)) (cH h28) rfl rfl ?_
 refine aH [1, 2, 3, 4, 0, 5, 6] (by decide) ?_
 exact Tm ((x27.set y20.toNat x37, x35)) (ij H)
 clear H; intro i hi; obtain ⟨x30, x31⟩ := i; subst o5; have H := Hr5; clear Hr5; try dsimp only at H
 try dsimp only
 refine Z1 ?_
 revert H; refine bs fun z8 h37 H => ?_
 refine Z3 ?_
 exact Tm ((k4, x30, x31, z8)) ⟨H, ls⟩
 refine Z7 ?_
 refine aH [0, 2, 3, 4, 5, 6] (by decide) ?_
 exact Tm ((x27, z4, v13)) (ij H)
 exact fk
 kernel_rfl
 exact fk
 kernel_rfl
 clear H; intro i hi; obtain ⟨x17, x18, v11⟩ := i; subst o3; have H := Hr3; clear Hr3; try dsimp only at H
 try dsimp only
 refine aP 5 rfl (fun hc_v11 => ?_)
 refine Z1 ?_
 revert H; refine bs fun z9 h38 H => ?_
 refine Z3 ?_
 exact Tm ((k2, x17, z9, x18, v11)) ⟨H, ls⟩
 refine Z6 ?_
 exact Tm ((x14, x16, v10)) (ij H)
 clear H; intro i hi; obtain ⟨x9, x10, v8⟩ := i; subst o2; have H := Hr2; clear Hr2; try dsimp only at H
 try dsimp only
 refine aP 5 rfl (fun hc_v8 => ?_)
 revert H; refine bs fun o6 H Hr6 => ?_
 refine aW (ι := List (List Int) × Value) (fun i => o6 = i.1) (fun i => [(6, fEq (.pointer (some ⟨b1, 0, none⟩))), (8, fEq (.pointer (some ⟨b3, 0, none⟩)))]) (fun i => [aC b3 61 [fEq v2, fEq v8, fEq i.2], aC b2 99 [fSl aZ y1.Chans, fSl bN y1.Spots, fSl bD y1.Rules], aC b1 61 [fEq (.slice none 0 0), fEq (.slice none 0 0), fEq (.slice none 0 0)], aE v2 30 (aB .i64) x2, aE v8 30 (aB .i64) x10, bW i.2 58 (cO 30 (aB .i64)) i.1]) ?_ ?_
 refine Z2 ?_
 refine Yo 3 rfl (o_lenG rfl hh (us rfl)) ?_
 refine Z3 ?_
 refine tQ (cO 30 (aB .i64)) 58 ?_
 refine aH [1, 2, 3, 4, 5, 6, 0] (by decide) ?_
 refine Tl (ι := Nat × List (List Int) × Int × List (List Int) × Value) (fun i => rT fuel x9 i.1 i.2.1 i.2.2.1 i.2.2.2.1 = _) (fun i => i.1) (fun i => [(6, fEq (.pointer (some ⟨b1, 0, none⟩))), (8, fEq (.pointer (some ⟨b3, 0, none⟩))), (167, fEq v1), (168, aA .i64 (x9.length : Int)), (169, aA .i64 i.2.2.1)]) (fun i => [aC b3 61 [fEq v2, fEq v8, fEq i.2.2.2.2], aC b2 99 [fSl aZ y1.Chans, fSl bN y1.Spots, fSl bD y1.Rules], aC b1 61 [fEq (.slice none 0 0), fEq (.slice none 0 0), fEq (.slice none 0 0)], bW v1 157 (cO 67 (aB .i64)) i.2.1, aE v2 30 (aB .i64) x2, aE v8 30 (aB .i64) x10, bW i.2.2.2.2 58 (cO 30 (aB .i64)) i.2.2.2.1]) (fuel, x9, 0, [], (.slice none 0 0)) H ?_
 clear H; rintro ⟨k6, x42, x43, x44, v17⟩ H
 replace H : rT fuel x9 k6 x42 x43 x44 = _ := H
 try dsimp only
 obtain _ | k6 := k6
 rw [rT] at H; cases H
 rw [rT] at H
 refine dW 6 rfl (fun hc_v17 => ?_)
 refine Z3 ?_
 refine aI ?_
 revert H; refine is (fun c7 H => ?_) fun c7 H => ?_
 refine Z3 ?_
 revert H; refine bs fun o7 H Hr7 => ?_
 refine aW (ι := List (List Int) × List (List Int) × Value) (fun i => o7 = (i.1, i.2.1)) (fun i => [(6, fEq (.pointer (some ⟨b1, 0, none⟩))), (8, fEq (.pointer (some ⟨b3, 0, none⟩))), (167, fEq v1), (168, aA .i64 (x9.length : Int)), (169, aA .i64 x43)]) (fun i => [aC b3 61 [fEq v2, fEq v8, fEq i.2.2], aC b2 99 [fSl aZ y1.Chans, fSl bN y1.Spots, fSl bD y1.Rules], aC b1 61 [fEq (.slice none 0 0), fEq (.slice none 0 0), fEq (.slice none 0 0)], bW v1 157 (cO 67 (aB .i64)) i.1, aE v2 30 (aB .i64) x2, aE v8 30 (aB .i64) x10, bW i.2.2 58 (cO 30 (aB .i64)) i.2.1]) ?_ ?_
 refine Z2 ?_
 revert H; refine bs fun y28 h39 H => ?_
 refine Yo 3 rfl (jN rfl hh hh (el rfl) h39) ?_
 refine dA ?_
 refine pB (i := x43.toNat) (k := 0) (y := y28) (f := (fun v => aE v 67 (aB .i64) y28)) (cH h39) rfl (fun v19 => ?_)
 refine aP 0 rfl (fun hc_v19 => ?_)
 refine Yo 1 rfl (kP rfl rfl hh (sc rfl) (cH h39) rfl) ?_
 refine Z5 ?_
 revert H; refine bs fun o8 H Hr8 => ?_
 refine aW (ι := List Int × Value) (fun i => o8 = i.1) (fun i => [(6, fEq (.pointer (some ⟨b1, 0, none⟩))), (8, fEq (.pointer (some ⟨b3, 0, none⟩))), (167, fEq v1), (168, aA .i64 (x9.length : Int)), (169, aA .i64 x43), (23, fEq i.2)]) (fun i => [aC b3 61 [fEq v2, fEq v8, fEq v17], aC b2 99 [fSl aZ y1.Chans, fSl bN y1.Spots, fSl bD y1.Rules], aC b1 61 [fEq (.slice none 0 0), fEq (.slice none 0 0), fEq (.slice none 0 0)], nM v1 157 (cO 67 (aB .i64)) x42 (x43.toNat * OTy.sz (cO 67 (aB .i64)) + 0) v19, aE i.2 30 (aB .i64) i.1, aE v2 30 (aB .i64) x2, aE v8 30 (aB .i64) x10, bW v17 58 (cO 30 (aB .i64)) x44, aE v19 67 (aB .i64) y28]) ?_ ?_
 refine Z6 ?_
 refine oJ (aB .i64) 30 ?_
 refine aH [3, 4, 5, 2, 0, 1, 6, 7, 8] (by decide) ?_
 refine Tl (ι := Nat × List Int × Int × Value) (fun i => rA y28 i.1 i.2.1 i.2.2.1 = _) (fun i => i.1) (fun i => [(6, fEq (.pointer (some ⟨b1, 0, none⟩))), (8, fEq (.pointer (some ⟨b3, 0, none⟩))), (167, fEq v1), (168, aA .i64 (x9.length : Int)), (169, aA .i64 x43), (23, fEq i.2.2.2), (173, fEq v19), (174, aA .i64 (y28.length : Int)), (175, aA .i64 i.2.2.1)]) (fun i => [aC b3 61 [fEq v2, fEq v8, fEq v17], aC b2 99 [fSl aZ y1.Chans, fSl bN y1.Spots, fSl bD y1.Rules], aC b1 61 [fEq (.slice none 0 0), fEq (.slice none 0 0), fEq (.slice none 0 0)], nM v1 157 (cO 67 (aB .i64)) x42 (x43.toNat * OTy.sz (cO 67 (aB .i64)) + 0) v19, aE i.2.2.2 30 (aB .i64) i.2.1, aE v19 67 (aB .i64) y28, aE v2 30 (aB .i64) x2, aE v8 30 (aB .i64) x10, bW v17 58 (cO 30 (aB .i64)) x44]) (fuel, [], 0, (.slice none 0 0)) H ?_
 clear H; rintro ⟨k7, x50, x51, v22⟩ H
 replace H : rA y28 k7 x50 x51 = _ := H
 try dsimp only
 obtain _ | k7 := k7
 rw [rA] at H; cases H
 rw [rA] at H
 refine aP 4 rfl (fun hc_v22 => ?_)
 refine Z3 ?_
 refine aI ?_
 revert H; refine is (fun c8 H => ?_) fun c8 H => ?_
 refine Z3 ?_
 refine aI ?_
 refine Z2 ?_
 revert H; refine bs fun y29 h40 H => ?_
 refine Z1 ?_
 refine Yo 5 rfl (iV rfl rfl hh (sc rfl) (cH h40) rfl) ?_
 refine Z5 ?_
 revert H; refine bs fun y30 h41 H => ?_
 refine Tc (vW _ _ h41) ?_
 refine aQ trivial rfl rfl (cM (t := (aB .i64)) (xs := [y30]) rfl (et rfl) (aR.cons rfl (has rfl) (aT (aF trivial)) aR.nil) rfl rfl rfl) (fun b10 => ?_)
 generalize hv_v23 : (Value.slice (some ⟨b10, 0, none⟩) _ _) = v23; clear hv_v23
 refine aP 0 rfl (fun hc_v23 => ?_)
 revert H; refine bs fun z10 h42 H => ?_
 refine lJ ?_
 refine cZ ?_
 refine pE trivial rfl rfl rfl (has rfl) (has rfl) (et rfl) rfl h42 (fun v24 => ?_)
 refine aP 0 rfl (fun hc_v24 => ?_)
 refine Z5 ?_
 revert H; refine bs fun z11 h43 H => ?_
 refine Z3 ?_
 refine aH [1, 2, 3, 4, 0, 5, 6, 7, 8] (by decide) ?_
 exact Tm ((k7, z10, z11, v24)) ⟨H, ls⟩
 refine Z6 ?_
 refine aH [0, 1, 2, 3, 4, 6, 7, 8, 5] (by decide) ?_
 exact Tm ((x50, v22)) (ij H)
 clear H; intro i hi; obtain ⟨x47, v20⟩ := i; subst o8; have H := Hr8; clear Hr8; try dsimp only at H
 try dsimp only
 refine aP 4 rfl (fun hc_v20 => ?_)
 refine Z4 ?_
 refine aQ trivial rfl rfl (cM (t := tF 1) (xs := [[⟨fEq v20, aF hc_v20⟩]]) rfl (et rfl) (aR.cons rfl (has rfl) (aT (aF hc_v20)) aR.nil) rfl rfl rfl) (fun b11 => ?_)
 generalize hv_v25 : (Value.slice (some ⟨b11, 0, none⟩) _ _) = v25; clear hv_v25
 refine pQ ?_
 refine lJ ?_
 refine fZ (p := 0) (f := (fun v => aE v 30 (aB .i64) x47)) (hf := (fun _ => dV)) rfl Ent.rfl ?_
 refine oK (o := (cO 30 (aB .i64))) (xs := ([x47] : List (List Int))) rfl rfl rfl ?_
 refine dW 0 rfl (fun hc_v25 => ?_)
 revert H; refine bs fun z12 h44 H => ?_
 refine T_fr7 ?_
 refine cZ ?_
 refine vU (q := (cO 30 (aB .i64))) trivial rfl rfl rfl (has rfl) (has rfl) (et rfl) rfl h44 (fun v26 => ?_)
 refine dW 0 rfl (fun hc_v26 => ?_)
 refine Z1 ?_
 refine cZ ?_
 refine dH (φs' := [fEq v2, fEq v8, fEq v26]) trivial rfl rfl (has rfl) (has rfl) (aF hc_v26) (sz rfl) rfl rfl ?_
 refine Z3 ?_
 refine bM ?_
 refine T_fr7 ?_
 refine nQ (o := (cO 67 (aB .i64))) (i := x43.toNat) (k := 0) (y := y28) (y' := y28) (f := (fun v => aE v 67 (aB .i64) y28)) (hf := (fun _ => dV)) (cH h39) rfl rfl ?_
 refine aH [1, 3, 4, 0, 5, 6, 2] (by decide) ?_
 exact Tm ((x42.set x43.toNat y28, z12, v26)) (ij H)
 clear H; intro i hi; obtain ⟨x45, x46, v18⟩ := i; subst o7; have H := Hr7; clear Hr7; try dsimp only at H
 try dsimp only
 refine dW 6 rfl (fun hc_v18 => ?_)
 refine Z1 ?_
 revert H; refine bs fun z13 h45 H => ?_
 refine Z3 ?_
 exact Tm ((k6, x45, z13, x46, v18)) ⟨H, ls⟩
 refine Z6 ?_
 refine aH [0, 1, 2, 4, 5, 6] (by decide) ?_
 exact Tm ((x44, v17)) (ij H)
 clear H; intro i hi; obtain ⟨x38, v15⟩ := i; subst o6; have H := Hr6; clear Hr6; try dsimp only at H
 try dsimp only
 refine dW 5 rfl (fun hc_v15 => ?_)
 refine Z2 ?_
 refine dX ?_
 refine dB (φs' := [fEq v2, fEq v8, fEq v15]) trivial rfl rfl (has rfl) (has rfl) (aM (aF hc_v2) (aM (aF hc_v8) (aM (aF hc_v15) bS))) (sz rfl) rfl rfl rfl ?_
 refine Z2 ?_
 cases H
 refine aH [0, 3, 4, 5] (by decide) ?_
 exact T_outWC rfl (ag rfl) (bJ rfl) (eV.own (eV.own (eV.own eV.nil))) rfl rfl
end Go.Proofs.YtmnbfgeljmhekaaGreat
set_option maxRecDepth 100000
set_option maxHeartbeats 2000000
namespace Go.Proofs.YtmnbfgeljmhekaaGreat
open Go.SX Go.SW Go.Dt
attribute [local irreducible] Code.wpIn wpListIn Exit.then Exit.inBlock
def sQ (fuel : Nat) (a0 : Usage_text) (a1 : List UsageDef) : Nat → (List UsageDef) → Int → Option (List UsageDef)
| 0, _, _ => none
| k + 1, x4, x5 =>
 if x5 < (a0.ScopeProg.Defs.length : Int) then
  (yN fuel a0 a1 x5).bind fun y1 =>
  (eW (x4 ++ ([(⟨y1.Chans, y1.Rules, y1.Args⟩ : UsageDef)] : List UsageDef))).bind fun z1 =>
  (chk (x5 + 1)).bind fun z2 =>
  sQ fuel a0 a1 k z1 z2
 else
  some x4
def tT (fuel : Nat) (a0 : Usage_text) (a1 : List UsageDef) : Option (List UsageDef) :=
 (sQ fuel a0 a1 fuel [] 0).bind fun x1 =>
 some x1
theorem aBE (fuel : Nat)  (a0 : Usage_text) (a1 : List UsageDef) (r : List UsageDef) (H : tT fuel a0 a1 = some r) : FnS Tryz.prog 38 [aG bP a0, fSl bG a1] [] fAny (fun v => [(fun v => bW v 61 dN r) v]) := by
 unfold tT at H
 refine bI Tryz.func38 rfl Tryz.ntmps38 rfl (fun β => ?_)
 refine Z6 ?_
 revert H; refine bs fun o1 H Hr1 => ?_
 refine aW (ι := List UsageDef × Value) (fun i => o1 = i.1) (fun i => [(5, fEq i.2)]) (fun i => [bW i.2 61 dN i.1]) ?_ ?_
 refine Z10 ?_
 refine tQ dN 61 ?_
 refine Tl (ι := Nat × List UsageDef × Int × Value) (fun i => sQ fuel a0 a1 i.1 i.2.1 i.2.2.1 = _) (fun i => i.1) (fun i => [(0, aG bP a0), (1, fSl bG a1), (5, fEq i.2.2.2), (12, aA .i64 (a0.ScopeProg.Defs.length : Int)), (13, aA .i64 i.2.2.1)]) (fun i => [bW i.2.2.2 61 dN i.2.1]) (fuel, [], 0, (.slice none 0 0)) H ?_
 clear H; rintro ⟨k1, x4, x5, v3⟩ H
 replace H : sQ fuel a0 a1 k1 x4 x5 = _ := H
 try dsimp only
 obtain _ | k1 := k1
 rw [sQ] at H; cases H
 rw [sQ] at H
 refine dW 0 rfl (fun hc_v3 => ?_)
 refine Z3 ?_
 refine aI ?_
 revert H; refine is (fun c1 H => ?_) fun c1 H => ?_
 refine Z3 ?_
 refine aI ?_
 refine Z10 ?_
 revert H; refine bs fun y1 h1 H => ?_
 refine wI trivial rfl rfl rfl (has rfl) (aD.cons (has rfl) (aD.cons (has rfl) (aD.cons (has rfl) aD.nil))) rfl (cb rfl) (aFR fuel a0 a1 x5 y1 h1) (Δi := []) rfl (fun v4 => ?_)
 dsimp only [List.append, List.cons_append, List.nil_append]
 refine T_openW (c := .agg) (fs := [.own (fun v => aE v 30 (aB .i64) y1.Chans) (fun _ => dV), .own (fun v => aE v 30 (aB .i64) y1.Rules) (fun _ => dV), .own (fun v => bW v 58 (cO 30 (aB .i64)) y1.Args) (fun _ => jR)]) (fun v5 v6 v7 => ?_)
 dsimp only [List.append, List.cons_append, List.nil_append]
 refine aP 0 rfl (fun hc_v5 => ?_)
 refine aP 1 rfl (fun hc_v6 => ?_)
 refine dW 2 rfl (fun hc_v7 => ?_)
 refine aQ trivial rfl rfl (cM (t := tF 3) (xs := [[⟨fEq v5, aF hc_v5⟩, ⟨fEq v6, aF hc_v6⟩, ⟨fEq v7, aF hc_v7⟩]]) rfl (et rfl) (aR.cons rfl (has rfl) bQ aR.nil) rfl rfl rfl) (fun b1 => ?_)
 generalize hv_v8 : (Value.slice (some ⟨b1, 0, none⟩) _ _) = v8; clear hv_v8
 refine pQ ?_
 refine cZ ?_
 refine fZ (p := 0) (f := (fun v => aE v 30 (aB .i64) y1.Chans)) (hf := (fun _ => dV)) rfl Ent.rfl ?_
 refine cZ ?_
 refine fZ (p := 1) (f := (fun v => aE v 30 (aB .i64) y1.Rules)) (hf := (fun _ => dV)) rfl Ent.rfl ?_
 refine cZ ?_
 refine fZ (p := 2) (f := (fun v => bW v 58 (cO 30 (aB .i64)) y1.Args)) (hf := (fun _ => jR)) rfl Ent.rfl ?_
 refine oK (o := dN) (xs := ([(⟨y1.Chans, y1.Rules, y1.Args⟩ : UsageDef)] : List UsageDef)) rfl rfl rfl ?_
 refine dW 0 rfl (fun hc_v8 => ?_)
 revert H; refine bs fun z1 h2 H => ?_
 refine vU (q := dN) trivial rfl rfl rfl (has rfl) (has rfl) (et rfl) rfl h2 (fun v9 => ?_)
 refine dW 0 rfl (fun hc_v9 => ?_)
 refine Z5 ?_
 revert H; refine bs fun z2 h3 H => ?_
 refine Z3 ?_
 exact Tm ((k1, z1, z2, v9)) ⟨H, ls⟩
 refine Z6 ?_
 exact Tm ((x4, v3)) (ij H)
 clear H; intro i hi; obtain ⟨x1, v1⟩ := i; subst o1; have H := Hr1; clear Hr1; try dsimp only at H
 try dsimp only
 refine dW 0 rfl (fun hc_v1 => ?_)
 refine Z5 ?_
 cases H
 exact vF rfl (bJ rfl) (fun _ _ _ => trivial) rfl
theorem aFk (fuel : Nat)  (a0 : Usage_text) (a1 : List UsageDef) (r : List UsageDef) (H : tT fuel a0 a1 = some r) : FnS Tryz.prog 38 [aG bP a0, fSl bG a1] [] (fSl bG r) (fun _ => []) := (aBE fuel a0 a1 r H).frz (fun v => (kR rfl mQ))
def xV (a0 : Int) (a1 : Int) (a2 : Bool) : Option (Bool) :=
 some (decide (a0 = a1))
theorem aDP  (a0 : Int) (a1 : Int) (a2 : Bool) (r : Bool) (H : xV a0 a1 a2 = some r) : FnS Tryz.prog 40 [aA .i64 a0, aA .i64 a1, aJ a2] [] (aJ r) (fun _ => []) := by
 unfold xV at H
 refine bI Tryz.func40 rfl Tryz.ntmps40 rfl (fun β => ?_)
 refine Z10 ?_
 cases H
 exact To
def rY (fuel : Nat) (y2 : Usage_text) : Nat → (List UsageDef) → Option (List UsageDef)
| 0, _ => none
| k + 1, x3 =>
 (tT fuel y2 x3).bind fun y4 =>
 (pI fuel x3 y4 (fun x => xV x.1 x.2.1 x.2.2)).bind fun y5 =>
 bif y5 then
  some x3
 else
  rY fuel y2 k y4
def sK (fuel : Nat) (y2 : Usage_text) (x7 : List UsageDef) (x8 : Int) (y6 : UsageDef) : Nat → (List Int) → Int → Option (List UsageDef)
| 0, _, _ => none
| k + 1, x12, x13 =>
 if x13 < (y6.Chans.length : Int) then
  ((idx x12 x13).bind fun y7 =>
  if y7 = 3 then
   (idx y2.heads x8).bind fun y8 =>
   (qL y2 x8 x13).bind fun y9 =>
   (mV fuel y2 y8 y9).bind fun y10 =>
   if y10 = 1 then
    (idx x7 x8).bind fun y11 =>
    (idx x12 x13).bind fun y12 =>
    some (x12.set x13.toNat 2)
   else
    some x12
  else
   some x12).bind fun x14 =>
  (chk (x13 + 1)).bind fun z1 =>
  sK fuel y2 x7 x8 y6 k x14 z1
 else
  some (x7.set x8.toNat ({ y6 with Chans := x12 }))
def rN (fuel : Nat) (y2 : Usage_text) (x1 : List UsageDef) : Nat → (List UsageDef) → Int → Option (List UsageDef)
| 0, _, _ => none
| k + 1, x7, x8 =>
 if x8 < (x1.length : Int) then
  ((idx x7 x8).bind fun y6 =>
  sK fuel y2 x7 x8 y6 fuel y6.Chans 0).bind fun x9 =>
  (chk (x8 + 1)).bind fun z2 =>
  rN fuel y2 x1 k x9 z2
 else
  some x7
def xJ (fuel : Nat) (a0 : ScopeProg) : Option ((List UsageDef) × Int) :=
 (pP fuel (⟨a0.Free, a0.Nodes, a0.Defs, a0.Main⟩ : ScopeProg)).bind fun y1 =>
 if y1 ≠ 0 then
  some (([] : List UsageDef), 2)
 else
  (nC fuel (⟨a0.Free, a0.Nodes, a0.Defs, a0.Main⟩ : ScopeProg)).bind fun y2 =>
  (aAs fuel y2).bind fun y3 =>
  (rY fuel y2 fuel y3).bind fun x1 =>
  (rN fuel y2 x1 fuel x1 0).bind fun x4 =>
  some (x4, 0)
theorem aGk (fuel : Nat)  (a0 : ScopeProg) (r : (List UsageDef) × Int) (H : xJ fuel a0 = some r) : FnS Tryz.prog 14 [fSt cY a0] [] fAny (fun v => [sB .tuple [.own (fun v => bW v 61 dN r.1) (fun _ => jR), .pure (aA .i64 r.2)] v]) := by
 unfold xJ at H
 refine bI Tryz.func14 rfl Tryz.ntmps14 rfl (fun β => ?_)
 refine Z1 ?_
 refine aQ trivial rfl rfl (cC rfl (has rfl) bQ) (fun b1 => ?_)
 refine Z3 ?_
 refine T_scope ?_
 refine aI ?_
 refine Z2 ?_
 revert H; refine bs fun y1 h1 H => ?_
 refine Tc (zS _ _ _ h1) ?_
 refine Z2 ?_
 revert H; refine is (fun c1 H => ?_) fun c1 H => ?_
 refine Z6 ?_
 refine aBW ?_
 refine tQ dN 61 ?_
 cases H
 refine aH [0] (by decide) ?_
 exact aCP rfl (bJ rfl) (bJ rfl) (eV.own (eV.pure Ent.rfl (aF trivial) eV.nil))
 refine Z5 ?_
 revert H; refine bs fun y2 h2 H => ?_
 refine Tc (aAH _ _ _ h2) ?_
 refine Z4 ?_
 revert H; refine bs fun y3 h3 H => ?_
 refine wI trivial rfl rfl rfl (has rfl) (aD.cons (has rfl) aD.nil) rfl (cb rfl) (aEj fuel y2 y3 h3) (Δi := []) rfl (fun v1 => ?_)
 dsimp only [List.append, List.cons_append, List.nil_append]
 refine dW 0 rfl (fun hc_v1 => ?_)
 refine Z2 ?_
 refine aI ?_
 refine T_label ?_
 refine Z1 ?_
 revert H; refine bs fun o1 H Hr1 => ?_
 refine aW (ι := List UsageDef × Value) (fun i => o1 = i.1) (fun i => [(4, aG bP y2), (5, fEq i.2)]) (fun i => [aC b1 26 [fSl aN a0.Free, fSl aL a0.Nodes, fSl aK a0.Defs, aA .i64 a0.Main], bW i.2 61 dN i.1]) ?_ ?_
 refine Z1 ?_
 refine aH [1, 0] (by decide) ?_
 refine Tl (ι := Nat × List UsageDef × Value) (fun i => rY fuel y2 i.1 i.2.1 = _) (fun i => i.1) (fun i => [(4, aG bP y2), (5, fEq i.2.2)]) (fun i => [aC b1 26 [fSl aN a0.Free, fSl aL a0.Nodes, fSl aK a0.Defs, aA .i64 a0.Main], bW i.2.2 61 dN i.2.1]) (fuel, y3, v1) H ?_
 clear H; rintro ⟨k1, x3, v4⟩ H
 replace H : rY fuel y2 k1 x3 = _ := H
 try dsimp only
 obtain _ | k1 := k1
 rw [rY] at H; cases H
 rw [rY] at H
 refine dW 1 rfl (fun hc_v4 => ?_)
 refine Z4 ?_
 refine cZ ?_
 revert H; refine bs fun y4 h4 H => ?_
 refine aEy (Δl := [bW v4 61 dN x3]) (Δi := []) [(v4, fSl bG x3)] trivial rfl rfl rfl (has rfl) (eD.cons rfl (tJ Ent.rfl) (eD.cons rfl (sD 0 rfl) eD.nil)) (cb rfl) (aBE fuel y2 x3 y4 h4) indF_any (fun v τ h => by have : τ = _ := List.mem_singleton.1 h; subst this; exact (aCX aEq)) (fR.cons (kR rfl mQ) fR.nil) rfl (fun v5 => ?_)
 dsimp only [List.append, List.cons_append, List.nil_append]
 refine dW 1 rfl (fun hc_v5 => ?_)
 refine Z2 ?_
 refine aI ?_
 refine Z3 ?_
 revert H; refine bs fun y5 h5 H => ?_
 refine xA (Δl := [bW v4 61 dN x3, bW v5 61 dN y4]) (Δi := []) (Δo := []) [(v4, fSl bG x3), (v5, fSl bG y4)] trivial rfl rfl rfl (has rfl) (eD.cons rfl (sD 0 rfl) (eD.cons rfl (sD 1 rfl) (eD.cons rfl (tJ (pG (cb rfl) (fun x r hx => aDP x.1 x.2.1 x.2.2 r hx))) eD.nil))) (cb rfl) (zF fuel x3 y4 (fun x => xV x.1 x.2.1 x.2.2) y5 h5) sY (fun _ h => nomatch h) (fR.cons (kR rfl mQ) (fR.cons (kR rfl mQ) fR.nil)) rfl ?_
 dsimp only [List.append, List.cons_append, List.nil_append]
 refine Z1 ?_
 revert H; refine cs (fun c2 H => ?_) fun c2 H => ?_
 refine Z7 ?_
 refine aH [2, 0] (by decide) ?_
 exact Tm ((x3, v4)) (ij H)
 refine Z9 ?_
 refine aH [2, 1] (by decide) ?_
 exact Tm ((k1, y4, v5)) ⟨H, ls⟩
 clear H; intro i hi; obtain ⟨x1, v2⟩ := i; subst o1; have H := Hr1; clear Hr1; try dsimp only at H
 try dsimp only
 refine dW 1 rfl (fun hc_v2 => ?_)
 revert H; refine bs fun o2 H Hr2 => ?_
 refine aW (ι := List UsageDef) (fun i => o2 = i) (fun i => [(5, fEq v2)]) (fun i => [aC b1 26 [fSl aN a0.Free, fSl aL a0.Nodes, fSl aK a0.Defs, aA .i64 a0.Main], bW v2 61 dN i]) ?_ ?_
 refine Z2 ?_
 refine Yo 1 rfl (o_lenG rfl hh (us rfl)) ?_
 refine Z3 ?_
 refine Tl (ι := Nat × List UsageDef × Int) (fun i => rN fuel y2 x1 i.1 i.2.1 i.2.2 = _) (fun i => i.1) (fun i => [(4, aG bP y2), (5, fEq v2), (25, aA .i64 (x1.length : Int)), (26, aA .i64 i.2.2)]) (fun i => [aC b1 26 [fSl aN a0.Free, fSl aL a0.Nodes, fSl aK a0.Defs, aA .i64 a0.Main], bW v2 61 dN i.2.1]) (fuel, x1, 0) H ?_
 clear H; rintro ⟨k2, x7, x8⟩ H
 replace H : rN fuel y2 x1 k2 x7 x8 = _ := H
 try dsimp only
 obtain _ | k2 := k2
 rw [rN] at H; cases H
 rw [rN] at H
 refine Z3 ?_
 refine aI ?_
 revert H; refine is (fun c3 H => ?_) fun c3 H => ?_
 refine Z3 ?_
 revert H; refine bs fun o3 H Hr3 => ?_
 refine aW (ι := List UsageDef) (fun i => o3 = i) (fun i => [(4, aG bP y2), (5, fEq v2), (25, aA .i64 (x1.length : Int)), (26, aA .i64 x8)]) (fun i => [aC b1 26 [fSl aN a0.Free, fSl aL a0.Nodes, fSl aK a0.Defs, aA .i64 a0.Main], bW v2 61 dN i]) ?_ ?_
 refine Z8 ?_
 revert H; refine bs fun y6 h6 H => ?_
 refine Yo 1 rfl (jN rfl hh hh (el rfl) h6) ?_
 refine Yy (xI 0 rfl hh (fa rfl) rfl) ?_
 refine cZ ?_
 refine pB (i := x8.toNat) (k := 0) (y := y6) (f := (fun v => aE v 30 (aB .i64) y6.Chans)) (cH h6) rfl (fun v6 => ?_)
 refine aP 0 rfl (fun hc_v6 => ?_)
 refine Yo 1 rfl (kP rfl rfl hh (sc rfl) (cH h6) rfl) ?_
 refine Z4 ?_
 refine aH [2, 1, 0] (by decide) ?_
 refine Tl (ι := Nat × List Int × Int) (fun i => sK fuel y2 x7 x8 y6 i.1 i.2.1 i.2.2 = _) (fun i => i.1) (fun i => [(4, aG bP y2), (5, fEq v2), (25, aA .i64 (x1.length : Int)), (26, aA .i64 x8), (7, aA .i64 x8), (33, fEq v6), (34, aA .i64 (y6.Chans.length : Int)), (35, aA .i64 i.2.2)]) (fun i => [aC b1 26 [fSl aN a0.Free, fSl aL a0.Nodes, fSl aK a0.Defs, aA .i64 a0.Main], nM v2 61 dN x7 (x8.toNat * OTy.sz dN + 0) v6, aE v6 30 (aB .i64) i.2.1]) (fuel, y6.Chans, 0) H ?_
 clear H; rintro ⟨k3, x12, x13⟩ H
 replace H : sK fuel y2 x7 x8 y6 k3 x12 x13 = _ := H
 try dsimp only
 obtain _ | k3 := k3
 rw [sK] at H; cases H
 rw [sK] at H
 refine Z3 ?_
 refine aI ?_
 revert H; refine is (fun c4 H => ?_) fun c4 H => ?_
 refine Z3 ?_
 revert H; refine bs fun o4 H Hr4 => ?_
 refine aW (ι := List Int) (fun i => o4 = i) (fun i => [(4, aG bP y2), (5, fEq v2), (25, aA .i64 (x1.length : Int)), (26, aA .i64 x8), (7, aA .i64 x8), (33, fEq v6), (34, aA .i64 (y6.Chans.length : Int)), (35, aA .i64 x13)]) (fun i => [aC b1 26 [fSl aN a0.Free, fSl aL a0.Nodes, fSl aK a0.Defs, aA .i64 a0.Main], nM v2 61 dN x7 (x8.toNat * OTy.sz dN + 0) v6, aE v6 30 (aB .i64) i]) ?_ ?_
 refine Z3 ?_
 revert H; refine bs fun y7 h7 H => ?_
 refine Z1 ?_
 refine Yo 2 rfl (iV rfl rfl hh (sc rfl) (cH h7) rfl) ?_
 refine Z3 ?_
 refine aI ?_
 revert H; refine is (fun c5 H => ?_) fun c5 H => ?_
 revert H; refine bs fun y8 h8 H => ?_
 revert H; refine bs fun y9 h9 H => ?_
 revert H; refine bs fun y10 h10 H => ?_
 apply bB (ods := [_, _, _, _, _, _, _, _, _, _, _, _, _, _, _, _, _, _]) 18 0 3 bC rfl rfl rfl
 dsimp only [aY, List.take, List.replicate, List.append, List.drop]
 refine M8 ?_
 intros
 refine M6 ?_
 intros
 refine bT (od := odC [] true (aA .i64 y9) []) (Φ := aA .i64 y9) rfl (fun _ => rfl) ⟨_, _, rfl, rfl, c5⟩ rfl rfl (has rfl) (aD.cons (has rfl) (aD.cons (has rfl) (aD.cons (has rfl) aD.nil))) rfl (cb rfl) (vY y2 x8 x13 y9 h9) (fun _ => ?_)
 refine bT (od := odC [] true (aA .i64 y10) []) (Φ := aA .i64 y10) rfl (fun _ => rfl) ⟨_, _, rfl, rfl, c5⟩ rfl rfl (has rfl) (aD.cons (has rfl) (aD.cons (has rfl) (aD.cons (has rfl) aD.nil))) rfl (cb rfl) (aCA fuel y2 y8 y9 y10 h10) (fun _ => ?_)
 refine M2 ?_
 intros
 refine Z2 ?_
 revert H; refine is (fun c6 H => ?_) fun c6 H => ?_
 refine Z4 ?_
 revert H; refine bs fun y11 h11 H => ?_
 refine Yo 1 rfl (jN rfl hh hh (el rfl) h11) ?_
 refine Yy (xI 0 rfl hh (fa rfl) rfl) ?_
 refine Yo 1 rfl (kP rfl rfl hh (sc rfl) (cH h11) rfl) ?_
 refine Z1 ?_
 revert H; refine bs fun y12 h12 H => ?_
 refine Z1 ?_
 refine dX ?_
 refine oW (z' := 2) trivial rfl rfl rfl (has rfl) (has rfl) (aF trivial) (sz rfl) (cH h12) rfl rfl ?_
 refine Z3 ?_
 refine aH [1, 2, 0] (by decide) ?_
 exact Tm (x12.set x13.toNat 2) (ij H)
 refine Z4 ?_
 exact Tm (x12) (ij H)
 exact fk
 kernel_rfl
 apply bB (ods := [_, _, _, _, _, _, _, _, _, _, _, _, _, _, _, _, _, _]) 18 0 3 bC rfl rfl rfl
 dsimp only [aY, List.take, List.replicate, List.append, List.drop]
 refine M8 ?_
 intros
 refine M8 ?_
 intros
 refine M2 ?_
 intros
 refine Z6 ?_
 exact Tm (x12) (ij H)
 exact fk
 kernel_rfl
 clear H; intro x14 hi; subst o4; have H := Hr4; clear Hr4; try dsimp only at H
 try dsimp only
 refine Z1 ?_
 revert H; refine bs fun z1 h13 H => ?_
 refine Z3 ?_
 exact Tm ((k3, x14, z1)) ⟨H, ls⟩
 refine Z7 ?_
 refine cZ ?_
 refine dX ?_
 refine nQ (o := dN) (i := x8.toNat) (k := 0) (y := y6) (y' := { y6 with Chans := x12 }) (f := (fun v => aE v 30 (aB .i64) x12)) (hf := (fun _ => dV)) (cH h6) rfl rfl ?_
 refine aH [1, 0] (by decide) ?_
 exact Tm (x7.set x8.toNat ({ y6 with Chans := x12 })) (ij H)
 clear H; intro x9 hi; subst o3; have H := Hr3; clear Hr3; try dsimp only at H
 try dsimp only
 refine Z1 ?_
 revert H; refine bs fun z2 h14 H => ?_
 refine Z3 ?_
 exact Tm ((k2, x9, z2)) ⟨H, ls⟩
 refine Z6 ?_
 exact Tm (x7) (ij H)
 clear H; intro x4 hi; subst o2; have H := Hr2; clear Hr2; try dsimp only at H
 try dsimp only
 refine Z6 ?_
 refine aBW ?_
 cases H
 refine aH [1] (by decide) ?_
 exact aCP rfl (bJ rfl) (bJ rfl) (eV.own (eV.pure Ent.rfl (aF trivial) eV.nil))
theorem aFM (fuel : Nat)  (a0 : ScopeProg) (r : (List UsageDef) × Int) (H : xJ fuel a0 = some r) : FnS Tryz.prog 14 [fSt cY a0] [] (cQ [fSl bG r.1, aA .i64 r.2]) (fun _ => []) := (aGk fuel a0 r H).frz (fun v => frz_wrap (dT.cons (fun v => (kR rfl mQ)) (dT.cons (fun v => frz_pure v) dT.nil)))
def sJ (a0 : List Int) (a1 : List Int) : Nat → Int → Option ((Unit) ⊕ (Bool))
| 0, _ => none
| k + 1, x2 =>
 if x2 < (a0.length : Int) then
  (idx a0 x2).bind fun y1 =>
  (idx a1 x2).bind fun y2 =>
  if y1 ≠ y2 then
   (some false).bind fun r => some (Sum.inr r)
  else
   (chk (x2 + 1)).bind fun z1 =>
   sJ a0 a1 k z1
 else
  some (Sum.inl ())
def uQ (fuel : Nat) (a0 : List Int) (a1 : List Int) : Option (Bool) :=
 if (a0.length : Int) ≠ (a1.length : Int) then
  some false
 else
  (sJ a0 a1 fuel 0).bind fun o => match o with
  | Sum.inr r => some r
  | Sum.inl _ =>
  some true
theorem qI (fuel : Nat)  (a0 : List Int) (a1 : List Int) (r : Bool) (H : uQ fuel a0 a1 = some r) : FnS Tryz.prog 44 [fSl (aB .i64) a0, fSl (aB .i64) a1] [] (aJ r) (fun _ => []) := by
 unfold uQ at H
 refine bI Tryz.func44 rfl Tryz.ntmps44 rfl (fun β => ?_)
 refine Z3 ?_
 refine aI ?_
 refine Z7 ?_
 revert H; refine is (fun c1 H => ?_) fun c1 H => ?_
 refine Z5 ?_
 cases H
 exact To
 refine Z3 ?_
 revert H; refine bs fun o1 H Hr1 => ?_
 refine aW (ι := Unit) (fun i => o1 = Sum.inl ()) (fun i => []) (fun i => []) ?_ ?_
 refine Z4 ?_
 refine Tl (ι := Nat × Int) (fun i => sJ a0 a1 i.1 i.2 = _) (fun i => i.1) (fun i => [(0, fSl (aB .i64) a0), (1, fSl (aB .i64) a1), (5, aA .i64 i.2)]) (fun i => []) (fuel, 0) H ?_
 clear H; rintro ⟨k1, x2⟩ H
 replace H : sJ a0 a1 k1 x2 = _ := H
 try dsimp only
 obtain _ | k1 := k1
 rw [sJ] at H; cases H
 rw [sJ] at H
 refine aI ?_
 refine Z6 ?_
 revert H; refine is (fun c2 H => ?_) fun c2 H => ?_
 refine Z3 ?_
 refine aI ?_
 refine Z1 ?_
 refine aI ?_
 revert H; refine bs fun y1 h1 H => ?_
 revert H; refine bs fun y2 h2 H => ?_
 apply bB (ods := [_, _, _, _, _, _, _, _, _]) 9 0 0 bC rfl rfl rfl
 dsimp only [aY, List.take, List.replicate, List.append, List.drop]
 refine M8 ?_
 intros
 refine M1 ?_
 intros
 refine Z2 ?_
 revert H; refine is (fun c3 H => ?_) fun c3 H => ?_
 refine Z10 ?_
 revert H; refine bs fun r1 H e1 => ?_
 cases e1; cases Hr1
 cases H
 exact To
 refine Z6 ?_
 revert H; refine bs fun z1 h3 H => ?_
 refine Z3 ?_
 exact Tm ((k1, z1)) ⟨H, ls⟩
 exact fk
 kernel_rfl
 refine Z6 ?_
 exact Tm (()) (ij H)
 clear H; intro i hi; subst o1; have H := Hr1; clear Hr1; try dsimp only at H
 try dsimp only
 refine Z4 ?_
 cases H
 exact To
def sG (fuel : Nat) (a0 : List UsageDef) (a1 : List UsageDef) (x2 : Int) : Nat → Int → Option ((Unit) ⊕ ((Unit) ⊕ (Bool)))
| 0, _ => none
| k + 1, x4 =>
 (idx a0 x2).bind fun y9 =>
 if x4 < (y9.Args.length : Int) then
  (idx a0 x2).bind fun y10 =>
  (idx y10.Args x4).bind fun y11 =>
  (idx a1 x2).bind fun y12 =>
  (idx y12.Args x4).bind fun y13 =>
  (uQ fuel y11 y13).bind fun y14 =>
  bif y14 then
   (chk (x4 + 1)).bind fun z1 =>
   sG fuel a0 a1 x2 k z1
  else
   ((some false).bind fun r => some (Sum.inr r)).bind fun r => some (Sum.inr r)
 else
  some (Sum.inl ())
def sH (fuel : Nat) (a0 : List UsageDef) (a1 : List UsageDef) : Nat → Int → Option ((Unit) ⊕ (Bool))
| 0, _ => none
| k + 1, x2 =>
 if x2 < (a0.length : Int) then
  ((idx a0 x2).bind fun y1 =>
  (idx a1 x2).bind fun y2 =>
  (uQ fuel y1.Chans y2.Chans).bind fun y3 =>
  bif !y3 then
   ((some false).bind fun r => some (Sum.inr r)).bind fun r => some (Sum.inr r)
  else
   (idx a0 x2).bind fun y4 =>
   (idx a1 x2).bind fun y5 =>
   (uQ fuel y4.Rules y5.Rules).bind fun y6 =>
   bif !y6 then
    ((some false).bind fun r => some (Sum.inr r)).bind fun r => some (Sum.inr r)
   else
    (idx a0 x2).bind fun y7 =>
    (idx a1 x2).bind fun y8 =>
    if (y7.Args.length : Int) ≠ (y8.Args.length : Int) then
     ((some false).bind fun r => some (Sum.inr r)).bind fun r => some (Sum.inr r)
    else
     sG fuel a0 a1 x2 fuel 0).bind fun o => match o with
  | Sum.inr r => some r
  | Sum.inl _ =>
  (chk (x2 + 1)).bind fun z2 =>
  sH fuel a0 a1 k z2
 else
  some (Sum.inl ())
def zN (fuel : Nat) (a0 : List UsageDef) (a1 : List UsageDef) : Option (Bool) :=
 if (a0.length : Int) ≠ (a1.length : Int) then
  some false
 else
  (sH fuel a0 a1 fuel 0).bind fun o => match o with
  | Sum.inr r => some r
  | Sum.inl _ =>
  some true
theorem aFQ (fuel : Nat)  (a0 : List UsageDef) (a1 : List UsageDef) (r : Bool) (H : zN fuel a0 a1 = some r) : FnS Tryz.prog 16 [fSl bG a0, fSl bG a1] [] (aJ r) (fun _ => []) := by
 unfold zN at H
 refine bI Tryz.func16 rfl Tryz.ntmps16 rfl (fun β => ?_)
 refine Z3 ?_
 refine aI ?_
 refine Z7 ?_
 revert H; refine is (fun c1 H => ?_) fun c1 H => ?_
 refine cV (has rfl) c1 ?_
 refine Z4 ?_
 cases H
 exact To
 refine cU (has rfl) c1 ?_
 refine Z2 ?_
 revert H; refine bs fun o1 H Hr1 => ?_
 refine aW (ι := Unit) (fun i => o1 = Sum.inl ()) (fun i => []) (fun i => []) ?_ ?_
 refine Z4 ?_
 refine Tl (ι := Nat × Int) (fun i => sH fuel a0 a1 i.1 i.2 = _) (fun i => i.1) (fun i => [(0, fSl bG a0), (1, fSl bG a1), (5, aA .i64 i.2)]) (fun i => []) (fuel, 0) H ?_
 clear H; rintro ⟨k1, x2⟩ H
 replace H : sH fuel a0 a1 k1 x2 = _ := H
 try dsimp only
 obtain _ | k1 := k1
 rw [sH] at H; cases H
 rw [sH] at H
 refine aI ?_
 refine Z6 ?_
 revert H; refine is (fun c2 H => ?_) fun c2 H => ?_
 refine cV (has rfl) c2 ?_
 refine Z2 ?_
 revert H; refine bs fun o2 H Hr2 => ?_
 refine aW (ι := Unit) (fun i => o2 = Sum.inl ()) (fun i => [(0, fSl bG a0), (1, fSl bG a1), (5, aA .i64 x2)]) (fun i => []) ?_ ?_
 refine Z1 ?_
 refine aI ?_
 refine aI ?_
 revert H; refine bs fun y1 h1 H => ?_
 revert H; refine bs fun y2 h2 H => ?_
 revert H; refine bs fun y3 h3 H => ?_
 revert H; refine cs (fun c3 H => ?_) fun c3 H => ?_
 apply bB (ods := [_, _, _, _, _, _, _, _, _, _, _, _, _, _, _, _, _, _, _, _, _, _, _, _, _, _, _, _, _, _, _, _, _, _, _, _, _, _, _, _, _]) 41 0 0 bC rfl rfl rfl
 dsimp only [aY, List.take, List.replicate, List.append, List.drop]
 refine M2 ?_
 intros
 refine My (bO rfl hh hh (el rfl) h1) fun _ => ?_
 refine M4 ?_
 intros
 refine My (bO rfl hh hh (el rfl) h2) fun _ => ?_
 refine M2 ?_
 intros
 refine bT (od := odC [] true (aJ y3) []) (Φ := aJ y3) rfl (fun _ => rfl) trivial rfl rfl (has rfl) (aD.cons (has rfl) (aD.cons (has rfl) aD.nil)) rfl (cb rfl) (qI fuel y1.Chans y2.Chans y3 h3) (fun _ => ?_)
 refine M2 ?_
 intros
 refine Mt c3 fun _ => ?_
 refine Mt c3 fun _ => ?_
 refine Mt c3 fun _ => ?_
 refine Mt c3 fun _ => ?_
 refine Mt c3 fun _ => ?_
 refine Mt c3 fun _ => ?_
 refine Mt c3 fun _ => ?_
 refine Mt c3 fun _ => ?_
 refine Mt c3 fun _ => ?_
 refine Mt c3 fun _ => ?_
 refine Mt c3 fun _ => ?_
 refine Mt c3 fun _ => ?_
 refine My (cX rfl hh c3 hh) fun _ => ?_
 refine M8 ?_
 intros
 refine M7 ?_
 intros
 refine Z9 ?_
 revert H; refine bs fun r1 H e1 => ?_
 cases e1; cases Hr2
 refine Z3 ?_
 revert H; refine bs fun r2 H e2 => ?_
 cases e2; cases Hr1
 cases H
 exact To
 exact fk
 kernel_rfl
 revert H; refine bs fun y4 h4 H => ?_
 revert H; refine bs fun y5 h5 H => ?_
 revert H; refine bs fun y6 h6 H => ?_
 revert H; refine cs (fun c4 H => ?_) fun c4 H => ?_
 apply bB (ods := [_, _, _, _, _, _, _, _, _, _, _, _, _, _, _, _, _, _, _, _, _, _, _, _, _, _, _, _, _, _, _, _, _, _, _, _, _, _, _, _, _]) 41 0 0 bC rfl rfl rfl
 dsimp only [aY, List.take, List.replicate, List.append, List.drop]
 refine M2 ?_
 intros
 refine My (bO rfl hh hh (el rfl) h1) fun _ => ?_
 refine M4 ?_
 intros
 refine My (bO rfl hh hh (el rfl) h2) fun _ => ?_
 refine M2 ?_
 intros
 refine bT (od := odC [] true (aJ y3) []) (Φ := aJ y3) rfl (fun _ => rfl) trivial rfl rfl (has rfl) (aD.cons (has rfl) (aD.cons (has rfl) aD.nil)) rfl (cb rfl) (qI fuel y1.Chans y2.Chans y3 h3) (fun _ => ?_)
 refine M2 ?_
 intros
 refine Mg c3 (bL rfl hh) fun _ => ?_
 refine Mg c3 (bL rfl hh) fun _ => ?_
 refine Mg c3 (bO rfl hh hh (el rfl) h4) fun _ => ?_
 refine Mg c3 (dU (t' := (tSl (aB .i64))) (z := y4.Rules) rfl hh (fa rfl) rfl) fun _ => ?_
 refine Mg c3 (dP rfl hh (sc rfl) rfl) fun _ => ?_
 refine Mg c3 (bL rfl hh) fun _ => ?_
 refine Mg c3 (bL rfl hh) fun _ => ?_
 refine Mg c3 (bO rfl hh hh (el rfl) h5) fun _ => ?_
 refine Mg c3 (dU (t' := (tSl (aB .i64))) (z := y5.Rules) rfl hh (fa rfl) rfl) fun _ => ?_
 refine Mg c3 (dP rfl hh (sc rfl) rfl) fun _ => ?_
 refine bT (od := odC [] true (aJ y6) []) (Φ := aJ y6) rfl (fun _ => rfl) ⟨_, _, rfl, rfl, c3⟩ rfl rfl (has rfl) (aD.cons (has rfl) (aD.cons (has rfl) aD.nil)) rfl (cb rfl) (qI fuel y4.Rules y5.Rules y6 h6) (fun _ => ?_)
 refine Mg c3 (gN rfl hh) fun _ => ?_
 refine My (bY rfl hh c3 hh) fun _ => ?_
 refine M1 ?_
 intros
 refine Mt c4 fun _ => ?_
 refine Mt c4 fun _ => ?_
 refine Mt c4 fun _ => ?_
 refine Mt c4 fun _ => ?_
 refine Mt c4 fun _ => ?_
 refine Mt c4 fun _ => ?_
 refine Mt c4 fun _ => ?_
 refine Mt c4 fun _ => ?_
 refine Mt c4 fun _ => ?_
 refine Mt c4 fun _ => ?_
 refine Mt c4 fun _ => ?_
 refine Mt c4 fun _ => ?_
 refine Mt c4 fun _ => ?_
 refine My (cX rfl hh c4 hh) fun _ => ?_
 refine Z9 ?_
 revert H; refine bs fun r3 H e3 => ?_
 cases e3; cases Hr2
 refine Z3 ?_
 revert H; refine bs fun r4 H e4 => ?_
 cases e4; cases Hr1
 cases H
 exact To
 exact fk
 kernel_rfl
 revert H; refine bs fun y7 h7 H => ?_
 revert H; refine bs fun y8 h8 H => ?_
 apply bB (ods := [_, _, _, _, _, _, _, _, _, _, _, _, _, _, _, _, _, _, _, _, _, _, _, _, _, _, _, _, _, _, _, _, _, _, _, _, _, _, _, _, _]) 41 0 0 bC rfl rfl rfl
 dsimp only [aY, List.take, List.replicate, List.append, List.drop]
 refine M2 ?_
 intros
 refine My (bO rfl hh hh (el rfl) h1) fun _ => ?_
 refine M4 ?_
 intros
 refine My (bO rfl hh hh (el rfl) h2) fun _ => ?_
 refine M2 ?_
 intros
 refine bT (od := odC [] true (aJ y3) []) (Φ := aJ y3) rfl (fun _ => rfl) trivial rfl rfl (has rfl) (aD.cons (has rfl) (aD.cons (has rfl) aD.nil)) rfl (cb rfl) (qI fuel y1.Chans y2.Chans y3 h3) (fun _ => ?_)
 refine M2 ?_
 intros
 refine Mg c3 (bL rfl hh) fun _ => ?_
 refine Mg c3 (bL rfl hh) fun _ => ?_
 refine Mg c3 (bO rfl hh hh (el rfl) h4) fun _ => ?_
 refine Mg c3 (dU (t' := (tSl (aB .i64))) (z := y4.Rules) rfl hh (fa rfl) rfl) fun _ => ?_
 refine Mg c3 (dP rfl hh (sc rfl) rfl) fun _ => ?_
 refine Mg c3 (bL rfl hh) fun _ => ?_
 refine Mg c3 (bL rfl hh) fun _ => ?_
 refine Mg c3 (bO rfl hh hh (el rfl) h5) fun _ => ?_
 refine Mg c3 (dU (t' := (tSl (aB .i64))) (z := y5.Rules) rfl hh (fa rfl) rfl) fun _ => ?_
 refine Mg c3 (dP rfl hh (sc rfl) rfl) fun _ => ?_
 refine bT (od := odC [] true (aJ y6) []) (Φ := aJ y6) rfl (fun _ => rfl) ⟨_, _, rfl, rfl, c3⟩ rfl rfl (has rfl) (aD.cons (has rfl) (aD.cons (has rfl) aD.nil)) rfl (cb rfl) (qI fuel y4.Rules y5.Rules y6 h6) (fun _ => ?_)
 refine Mg c3 (gN rfl hh) fun _ => ?_
 refine My (bY rfl hh c3 hh) fun _ => ?_
 refine M1 ?_
 intros
 refine Mg c4 (bL rfl hh) fun _ => ?_
 refine Mg c4 (bL rfl hh) fun _ => ?_
 refine Mg c4 (bO rfl hh hh (el rfl) h7) fun _ => ?_
 refine Mg c4 (dU (t' := (tSl (tSl (aB .i64)))) (z := y7.Args) rfl hh (fa rfl) rfl) fun _ => ?_
 refine Mg c4 (dP rfl hh (sc rfl) rfl) fun _ => ?_
 refine Mg c4 (dO rfl hh (us rfl)) fun _ => ?_
 refine Mg c4 (bL rfl hh) fun _ => ?_
 refine Mg c4 (bL rfl hh) fun _ => ?_
 refine Mg c4 (bO rfl hh hh (el rfl) h8) fun _ => ?_
 refine Mg c4 (dU (t' := (tSl (tSl (aB .i64)))) (z := y8.Args) rfl hh (fa rfl) rfl) fun _ => ?_
 refine Mg c4 (dP rfl hh (sc rfl) rfl) fun _ => ?_
 refine Mg c4 (dO rfl hh (us rfl)) fun _ => ?_
 refine Mg c4 (gU rfl hh hh) fun _ => ?_
 refine My (bY rfl hh c4 hh) fun _ => ?_
 refine Z2 ?_
 revert H; refine is (fun c5 H => ?_) fun c5 H => ?_
 refine cV (has rfl) c5 ?_
 refine Z6 ?_
 revert H; refine bs fun r5 H e5 => ?_
 cases e5; cases Hr2
 refine Z3 ?_
 revert H; refine bs fun r6 H e6 => ?_
 cases e6; cases Hr1
 cases H
 exact To
 refine cU (has rfl) c5 ?_
 refine Z6 ?_
 refine Tl (ι := Nat × Int) (fun i => sG fuel a0 a1 x2 i.1 i.2 = _) (fun i => i.1) (fun i => [(0, fSl bG a0), (1, fSl bG a1), (5, aA .i64 x2), (6, aA .i64 i.2)]) (fun i => []) (fuel, 0) H ?_
 clear H; rintro ⟨k2, x4⟩ H
 replace H : sG fuel a0 a1 x2 k2 x4 = _ := H
 try dsimp only
 obtain _ | k2 := k2
 rw [sG] at H; cases H
 rw [sG] at H
 refine aI ?_
 refine Z4 ?_
 revert H; refine bs fun y9 h9 H => ?_
 refine Yy (bO rfl hh hh (el rfl) h9) ?_
 refine Z5 ?_
 revert H; refine is (fun c6 H => ?_) fun c6 H => ?_
 refine cV (has rfl) c6 ?_
 refine Z2 ?_
 refine aI ?_
 refine Z1 ?_
 refine aI ?_
 revert H; refine bs fun y10 h10 H => ?_
 revert H; refine bs fun y11 h11 H => ?_
 revert H; refine bs fun y12 h12 H => ?_
 revert H; refine bs fun y13 h13 H => ?_
 revert H; refine bs fun y14 h14 H => ?_
 apply bB (ods := [_, _, _, _, _, _, _, _, _, _, _, _, _, _, _, _, _, _]) 18 0 0 bC rfl rfl rfl
 dsimp only [aY, List.take, List.replicate, List.append, List.drop]
 refine M2 ?_
 intros
 refine My (bO rfl hh hh (el rfl) h10) fun _ => ?_
 refine M3 ?_
 intros
 refine My (bO rfl hh hh (el rfl) h11) fun _ => ?_
 refine M3 ?_
 intros
 refine My (bO rfl hh hh (el rfl) h12) fun _ => ?_
 refine M3 ?_
 intros
 refine My (bO rfl hh hh (el rfl) h13) fun _ => ?_
 refine M1 ?_
 intros
 refine bT (od := odC [] true (aJ y14) []) (Φ := aJ y14) rfl (fun _ => rfl) trivial rfl rfl (has rfl) (aD.cons (has rfl) (aD.cons (has rfl) aD.nil)) rfl (cb rfl) (qI fuel y11 y13 y14 h14) (fun _ => ?_)
 refine M1 ?_
 intros
 refine Z2 ?_
 revert H; refine cs (fun c7 H => ?_) fun c7 H => ?_
 refine cU (has rfl) (jS c7) ?_
 refine Z5 ?_
 revert H; refine bs fun z1 h15 H => ?_
 refine Yy (eQ rfl hh hh h15) ?_
 refine Z2 ?_
 exact Tm ((k2, z1)) ⟨H, ls⟩
 refine cV (has rfl) (jV c7) ?_
 refine Z10 ?_
 revert H; refine bs fun r7 H e7 => ?_
 cases e7; cases Hr2
 refine Z3 ?_
 revert H; refine bs fun r8 H e8 => ?_
 cases e8; cases Hr1
 cases H
 exact To
 exact fk
 kernel_rfl
 refine cU (has rfl) c6 ?_
 refine Z6 ?_
 exact Tm (()) (ij H)
 exact fk
 kernel_rfl
 clear H; intro i hi; subst o2; have H := Hr2; clear Hr2; try dsimp only at H
 try dsimp only
 refine Z2 ?_
 revert H; refine bs fun z2 h16 H => ?_
 refine Yy (eQ rfl hh hh h16) ?_
 refine Z2 ?_
 exact Tm ((k1, z2)) ⟨H, ls⟩
 refine cU (has rfl) c2 ?_
 refine Z5 ?_
 exact Tm (()) (ij H)
 clear H; intro i hi; subst o1; have H := Hr1; clear Hr1; try dsimp only at H
 try dsimp only
 refine Z4 ?_
 cases H
 exact To
def vV (a0 : Int) (a1 : Int) (a2 : Bool) : Option (Bool) :=
 (lH a0).bind fun y1 =>
 (lH a1).bind fun y2 =>
 some (decide (y2 ≤ y1))
theorem aEK  (a0 : Int) (a1 : Int) (a2 : Bool) (r : Bool) (H : vV a0 a1 a2 = some r) : FnS Tryz.prog 45 [aA .i64 a0, aA .i64 a1, aJ a2] [] (aJ r) (fun _ => []) := by
 unfold vV at H
 refine bI Tryz.func45 rfl Tryz.ntmps45 rfl (fun β => ?_)
 refine Z5 ?_
 revert H; refine bs fun y1 h1 H => ?_
 refine Tc (rC _ _ h1) ?_
 refine Z1 ?_
 revert H; refine bs fun y2 h2 H => ?_
 refine Tc (rC _ _ h2) ?_
 refine Z4 ?_
 cases H
 exact To
end Go.Proofs.YtmnbfgeljmhekaaGreat
