/- Parts of the proof: lemmas, and the steps through the program. -/
import Derived.Test.YtmnbfgeljmhekaaGreatKt1
set_option linter.unusedVariables false
set_option linter.unusedSimpArgs false
set_option maxRecDepth 100000
set_option maxHeartbeats 2000000
namespace Go.Proofs.YtmnbfgeljmhekaaGreat
open Go.SX Go.SW Go.Dt
attribute [local irreducible] Code.wpIn wpListIn Exit.then Exit.inBlock
def aAB (a0 : Scope_speaks) : Option (Int) :=
 some 0
theorem aHH  (a0 : Scope_speaks) (r : Int) (H : aAB a0 = some r) : FnS Tryz.prog 148 [fSt aGA a0] [] (aA .i64 r) (fun _ => []) := by
 unfold aAB at H
 refine bK Tryz.func148 rfl Tryz.ntmps148 rfl (fun β => ?_)
 refine Z1 ?_
 refine aR trivial rfl rfl (cF rfl (has rfl) bO) (fun b1 => ?_)
 refine Z6 ?_
 cases H
 refine aH [] (by decide) ?_
 exact To
def aBf (a0 : Scope_travels) : Option (Int) :=
 some 1
theorem aFy  (a0 : Scope_travels) (r : Int) (H : aBf a0 = some r) : FnS Tryz.prog 149 [fSt aGE a0] [] (aA .i64 r) (fun _ => []) := by
 unfold aBf at H
 refine bK Tryz.func149 rfl Tryz.ntmps149 rfl (fun β => ?_)
 refine Z1 ?_
 refine aR trivial rfl rfl (cF rfl (has rfl) bO) (fun b1 => ?_)
 refine Z6 ?_
 cases H
 refine aH [] (by decide) ?_
 exact To
def aAG (a0 : Scope_declares) : Option (Int) :=
 some 1
theorem aGz  (a0 : Scope_declares) (r : Int) (H : aAG a0 = some r) : FnS Tryz.prog 150 [fSt aH8 a0] [] (aA .i64 r) (fun _ => []) := by
 unfold aAG at H
 refine bK Tryz.func150 rfl Tryz.ntmps150 rfl (fun β => ?_)
 refine Z1 ?_
 refine aR trivial rfl rfl (cF rfl (has rfl) bO) (fun b1 => ?_)
 refine Z6 ?_
 cases H
 refine aH [] (by decide) ?_
 exact To
def aCf (a0 : Scope_decides) : Option (Int) :=
 some 2
theorem aF4  (a0 : Scope_decides) (r : Int) (H : aCf a0 = some r) : FnS Tryz.prog 151 [fSt aGy a0] [] (aA .i64 r) (fun _ => []) := by
 unfold aCf at H
 refine bK Tryz.func151 rfl Tryz.ntmps151 rfl (fun β => ?_)
 refine Z1 ?_
 refine aR trivial rfl rfl (cF rfl (has rfl) bO) (fun b1 => ?_)
 refine Z6 ?_
 cases H
 refine aH [] (by decide) ?_
 exact To
def aBF (a0 : Int) : Option (Int) :=
 some a0
theorem aGj  (a0 : Int) (r : Int) (H : aBF a0 = some r) : FnS Tryz.prog 152 [aA .i64 a0] [] (aA .i64 r) (fun _ => []) := by
 unfold aBF at H
 refine bK Tryz.func152 rfl Tryz.ntmps152 rfl (fun β => ?_)
 refine Z8 ?_
 cases H
 exact To
def mW : Value → Option Int
 | .iface 190 (.agg ⟨[]⟩) => aAB ⟨⟩
 | .iface 191 (.agg ⟨[]⟩) => aBf ⟨⟩
 | .iface 192 (.agg ⟨[]⟩) => aAG ⟨⟩
 | .iface 193 (.agg ⟨[]⟩) => aCf ⟨⟩
 | .iface 197 (.int .i64 n) => aBF n
 | _ => none
theorem aGv (v : Value) (r : Int) (H : mW v = some r) : Inv Tryz.prog v "cabotage/scope.kids" [] (aA .i64 r) := by
 unfold mW at H
 split at H
 ·exact ⟨_, _, 148, rfl, fun w => by kernel_rfl, (cb rfl), (aHH ⟨⟩ r H).args (aP.cons (tD []) aP.nil)⟩
 ·exact ⟨_, _, 149, rfl, fun w => by kernel_rfl, (cb rfl), (aFy ⟨⟩ r H).args (aP.cons (tD []) aP.nil)⟩
 ·exact ⟨_, _, 150, rfl, fun w => by kernel_rfl, (cb rfl), (aGz ⟨⟩ r H).args (aP.cons (tD []) aP.nil)⟩
 ·exact ⟨_, _, 151, rfl, fun w => by kernel_rfl, (cb rfl), (aF4 ⟨⟩ r H).args (aP.cons (tD []) aP.nil)⟩
 ·rename_i n; exact ⟨_, _, 152, rfl, fun w => by kernel_rfl, (cb rfl), (aGj n r H).args aP.rfl⟩
 ·cases H
def mI (fuel : Nat) (a2 : Int) (y7 : ScopeNode) : Nat → Int → Option ((Unit) ⊕ (Scope_looker ⊕ Value))
| 0, _ => none
| k + 1, x8 =>
 if x8 < (y7.Args.length : Int) then
  (idx y7.Args x8).bind fun y27 =>
  (vS fuel (⟨y27.Op, y27.N, y27.Kids⟩ : ScopeExp) a2).bind fun y28 =>
  match y28 with
  | Sum.inr pv16 => (some (Sum.inr pv16)).bind fun r => some (Sum.inr r)
  | Sum.inl y28 =>
  (chk (x8 + 1)).bind fun z1 =>
  mI fuel a2 y7 k z1
 else
  some (Sum.inl ())
def mR (fuel : Nat) (rec_scope_looker_node : Scope_looker → Int → Int → Option (Scope_looker ⊕ Value)) (y30 : ScopeDef) (z2 : Int) : Nat → Int → (List ByteArray) → (List ScopeNode) → (List ScopeDef) → Int → (List Int) → (List Bool) → (List Bool) → Option ((List ByteArray × List ScopeNode × List ScopeDef × Int × List Int × List Bool × List Bool) ⊕ ((Int × List ByteArray × List ScopeNode × List ScopeDef × Int × List Int × List Bool × List Bool) ⊕ (Scope_looker ⊕ Value)))
| 0, _, _, _, _, _, _, _, _ => none
| k + 1, x32, x33, x34, x35, x36, x37, x38, x39 =>
 if x32 < (y30.Rules.length : Int) then
  (idx y30.Rules x32).bind fun y33 =>
  (wP fuel (⟨y30.Chans, y30.Spots, y30.Rules⟩ : ScopeDef) (⟨y33.At, y33.Joins, y33.Node⟩ : ScopeRule)).bind fun y34 =>
  (chk (z2 + y34)).bind fun z3 =>
  (rec_scope_looker_node (⟨(⟨x33, x34, x35, x36⟩ : ScopeProg), x37, x38, x39⟩ : Scope_looker) y33.Node z3).bind fun y35 =>
  match y35 with
  | Sum.inr pv18 => ((some (Sum.inr pv18)).bind fun r => some (Sum.inr r)).bind fun r => some (Sum.inr r)
  | Sum.inl y35 =>
  (chk (x32 + 1)).bind fun z4 =>
  mR fuel rec_scope_looker_node y30 z2 k z4 y35.p.Free y35.p.Nodes y35.p.Defs y35.p.Main y35.sizes y35.met y35.defs
 else
  some (Sum.inl (x33, x34, x35, x36, x37, x38, x39))
def mN (rec_scope_looker_node : Scope_looker → Int → Int → Option (Scope_looker ⊕ Value)) (y30 : ScopeDef) (z2 : Int) : Nat → Int → (List ByteArray) → (List ScopeNode) → (List ScopeDef) → Int → (List Int) → (List Bool) → (List Bool) → Option ((Int × List ByteArray × List ScopeNode × List ScopeDef × Int × List Int × List Bool × List Bool) ⊕ (Scope_looker ⊕ Value))
| 0, _, _, _, _, _, _, _, _ => none
| k + 1, x48, x49, x50, x51, x52, x53, x54, x55 =>
 if x48 < (y30.Spots.length : Int) then
  (idx y30.Spots x48).bind fun y36 =>
  (rec_scope_looker_node (⟨(⟨x49, x50, x51, x52⟩ : ScopeProg), x53, x54, x55⟩ : Scope_looker) y36.Node z2).bind fun y37 =>
  match y37 with
  | Sum.inr pv19 => (some (Sum.inr pv19)).bind fun r => some (Sum.inr r)
  | Sum.inl y37 =>
  (chk (x48 + 1)).bind fun z5 =>
  mN rec_scope_looker_node y30 z2 k z5 y37.p.Free y37.p.Nodes y37.p.Defs y37.p.Main y37.sizes y37.met y37.defs
 else
  some (Sum.inl (z2, x49, x50, x51, x52, x53, x54, x55))
def oE (rec_scope_looker_node : Scope_looker → Int → Int → Option (Scope_looker ⊕ Value)) (y7 : ScopeNode) (x9 : Int) : Nat → Int → (List ByteArray) → (List ScopeNode) → (List ScopeDef) → Int → (List Int) → (List Bool) → (List Bool) → Option (Scope_looker ⊕ Value)
| 0, _, _, _, _, _, _, _, _ => none
| k + 1, x64, x65, x66, x67, x68, x69, x70, x71 =>
 if x64 < (y7.Kids.length : Int) then
  (idx y7.Kids x64).bind fun y38 =>
  (rec_scope_looker_node (⟨(⟨x65, x66, x67, x68⟩ : ScopeProg), x69, x70, x71⟩ : Scope_looker) y38 x9).bind fun y39 =>
  match y39 with
  | Sum.inr pv20 => some (Sum.inr pv20)
  | Sum.inl y39 =>
  (chk (x64 + 1)).bind fun z6 =>
  oE rec_scope_looker_node y7 x9 k z6 y39.p.Free y39.p.Nodes y39.p.Defs y39.p.Main y39.sizes y39.met y39.defs
 else
  some (Sum.inl (⟨(⟨x65, x66, x67, x68⟩ : ScopeProg), x69, x70, x71⟩ : Scope_looker))
def fF : Nat → Scope_looker → Int → Int → Option (Scope_looker ⊕ Value)
| 0, _, _, _ => none
| fuel + 1, a0, a1, a2 =>
 (if 0 ≤ a1 then
  if a1 < (a0.p.Nodes.length : Int) then
   (idx a0.met a1).bind fun y1 =>
   (bX (!y1)).bind fun y2 =>
   match y2 with
   | Sum.inr pv1 => (some (Sum.inr pv1)).bind fun r => some (Sum.inr r)
   | Sum.inl y2 =>
   some (Sum.inl ())
  else
   (bX false).bind fun y3 =>
   match y3 with
   | Sum.inr pv2 => (some (Sum.inr pv2)).bind fun r => some (Sum.inr r)
   | Sum.inl y3 =>
   some (Sum.inl ())
 else
  (bX false).bind fun y4 =>
  match y4 with
  | Sum.inr pv3 => (some (Sum.inr pv3)).bind fun r => some (Sum.inr r)
  | Sum.inl y4 =>
  some (Sum.inl ())).bind fun o => match o with
 | Sum.inr r => some r
 | Sum.inl _ =>
 (idx a0.met a1).bind fun y5 =>
 (idx a0.sizes a1).bind fun y6 =>
 (idx a0.p.Nodes a1).bind fun y7 =>
 (kB y7.Op).bind fun y8 =>
 ((iO y8).bind fun x1 =>
 bif !x1 then
  (mW y8).bind fun y9 =>
  (bX (decide ((y7.Kids.length : Int) = y9))).bind fun y10 =>
  match y10 with
  | Sum.inr pv4 => (some (Sum.inr pv4)).bind fun r => some (Sum.inr r)
  | Sum.inl y10 =>
  some (Sum.inl ())
 else
  (bX false).bind fun y11 =>
  match y11 with
  | Sum.inr pv5 => (some (Sum.inr pv5)).bind fun r => some (Sum.inr r)
  | Sum.inl y11 =>
  some (Sum.inl ())).bind fun o => match o with
 | Sum.inr r => some r
 | Sum.inl _ =>
 ((eQ 190 (.agg #[]) y8).bind fun y12 =>
 match y12 with
 | (u1, x3) =>
 bif x3 then
  if 0 ≤ y7.N then
   (bX (decide (y7.N < a2))).bind fun y13 =>
   match y13 with
   | Sum.inr pv6 => (some (Sum.inr pv6)).bind fun r => some (Sum.inr r)
   | Sum.inl y13 =>
   some (Sum.inl (min (y7.Args.length : Int) 3))
  else
   (bX false).bind fun y14 =>
   match y14 with
   | Sum.inr pv7 => (some (Sum.inr pv7)).bind fun r => some (Sum.inr r)
   | Sum.inl y14 =>
   some (Sum.inl (min (y7.Args.length : Int) 3))
 else
  (eQ 191 (.agg #[]) y8).bind fun y15 =>
  match y15 with
  | (u2, x4) =>
  bif x4 then
   if 0 ≤ y7.N then
    (bX (decide (y7.N < a2))).bind fun y16 =>
    match y16 with
    | Sum.inr pv8 => (some (Sum.inr pv8)).bind fun r => some (Sum.inr r)
    | Sum.inl y16 =>
    some (Sum.inl 0)
   else
    (bX false).bind fun y17 =>
    match y17 with
    | Sum.inr pv9 => (some (Sum.inr pv9)).bind fun r => some (Sum.inr r)
    | Sum.inl y17 =>
    some (Sum.inl 0)
  else
   (eQ 192 (.agg #[]) y8).bind fun y18 =>
   match y18 with
   | (u3, x5) =>
   bif x5 then
    if 0 ≤ y7.N then
     if y7.N < (a0.p.Defs.length : Int) then
      (idx a0.defs y7.N).bind fun y19 =>
      (bX (!y19)).bind fun y20 =>
      match y20 with
      | Sum.inr pv10 => (some (Sum.inr pv10)).bind fun r => some (Sum.inr r)
      | Sum.inl y20 =>
      some (Sum.inl 0)
     else
      (bX false).bind fun y21 =>
      match y21 with
      | Sum.inr pv11 => (some (Sum.inr pv11)).bind fun r => some (Sum.inr r)
      | Sum.inl y21 =>
      some (Sum.inl 0)
    else
     (bX false).bind fun y22 =>
     match y22 with
     | Sum.inr pv12 => (some (Sum.inr pv12)).bind fun r => some (Sum.inr r)
     | Sum.inl y22 =>
     some (Sum.inl 0)
   else
    (eQ 193 (.agg #[]) y8).bind fun y23 =>
    match y23 with
    | (u4, x6) =>
    bif x6 then
     (bX (decide (y7.N = 0))).bind fun y24 =>
     match y24 with
     | Sum.inr pv13 => (some (Sum.inr pv13)).bind fun r => some (Sum.inr r)
     | Sum.inl y24 =>
     some (Sum.inl 1)
    else
     (bX (decide (y7.N = 0))).bind fun y25 =>
     match y25 with
     | Sum.inr pv14 => (some (Sum.inr pv14)).bind fun r => some (Sum.inr r)
     | Sum.inl y25 =>
     some (Sum.inl 0)).bind fun o => match o with
 | Sum.inr r => some r
 | Sum.inl x2 =>
 (bX (decide ((y7.Args.length : Int) = x2))).bind fun y26 =>
 match y26 with
 | Sum.inr pv15 => some (Sum.inr pv15)
 | Sum.inl y26 =>
 (mI fuel a2 y7 fuel 0).bind fun o => match o with
 | Sum.inr r => some r
 | Sum.inl _ =>
 (if y7.Op = 4 then
  (idx a0.defs y7.N).bind fun y29 =>
  (idx a0.p.Defs y7.N).bind fun y30 =>
  (tL fuel (⟨y30.Chans, y30.Spots, y30.Rules⟩ : ScopeDef)).bind fun y31 =>
  match y31 with
  | Sum.inr pv17 => (some (Sum.inr pv17)).bind fun r => some (Sum.inr r)
  | Sum.inl y31 =>
  (uP (⟨y30.Chans, y30.Spots, y30.Rules⟩ : ScopeDef)).bind fun y32 =>
  (chk (a2 + y32)).bind fun z2 =>
  (mR fuel (fF fuel) y30 z2 fuel 0 a0.p.Free a0.p.Nodes a0.p.Defs a0.p.Main (a0.sizes.set a1.toNat a2) (a0.met.set a1.toNat true) (a0.defs.set y7.N.toNat true)).bind fun o => match o with
  | Sum.inr r => some r
  | Sum.inl (x17, x18, x19, x20, x21, x22, x23) =>
  mN (fF fuel) y30 z2 fuel 0 x17 x18 x19 x20 x21 x22 x23
 else
  some (Sum.inl (a2, a0.p.Free, a0.p.Nodes, a0.p.Defs, a0.p.Main, a0.sizes.set a1.toNat a2, a0.met.set a1.toNat true, a0.defs))).bind fun o => match o with
 | Sum.inr r => some r
 | Sum.inl (x9, x10, x11, x12, x13, x14, x15, x16) =>
 oE (fF fuel) y7 x9 fuel 0 x10 x11 x12 x13 x14 x15 x16
theorem aCD : ∀ (fuel : Nat), (∀ (p0 : Nat) (a0 : Scope_looker) (a1 : Int) (a2 : Int) (r : Scope_looker ⊕ Value) (H : fF fuel a0 a1 a2 = some r), FnE Tryz.prog 110 [fEq (.pointer (some ⟨p0, 0, none⟩)), aA .i64 a1, aA .i64 a2] [zV p0 a0] r (fun r => dC []) (fun r => [zV p0 r])) := by
 intro fuel
 induction fuel with
 | zero => exact fun p0 a0 a1 a2 r H => (by rw [fF] at H; cases H)
 | succ fuel ih =>
 have ih_scope_looker_node := ih
 refine ?_
 intro p0 a0 a1 a2 r H
 rw [fF] at H
 refine sM Tryz.func110 rfl Tryz.ntmps110 rfl (fun β => ?_)
 refine wH (fun v1 v2 v3 => ?_)
 refine aO 1 rfl (fun hc_v1 => ?_)
 refine aO 2 rfl (fun hc_v2 => ?_)
 refine aO 3 rfl (fun hc_v3 => ?_)
 revert H; refine bs fun o1 H Hr1 => ?_
 refine aT (ι := Unit) (fun i => o1 = Sum.inl ()) (fun i => [(0, fEq (.pointer (some ⟨p0, 0, none⟩))), (1, aA .i64 a1), (2, aA .i64 a2)]) (fun i => [aC p0 151 [fSl aN a0.p.Free, fSl aL a0.p.Nodes, fSl aJ a0.p.Defs, aA .i64 a0.p.Main, fEq v1, fEq v2, fEq v3], aE v1 3 (aB .i64) a0.sizes, aE v2 4 cH a0.met, aE v3 4 cH a0.defs]) ?_ ?_
 refine Z4 ?_
 revert H; refine is (fun c1 H => ?_) fun c1 H => ?_
 refine Z10 ?_
 revert H; refine is (fun c2 H => ?_) fun c2 H => ?_
 refine Z5 ?_
 revert H; refine bs fun y1 h1 H => ?_
 refine Z1 ?_
 refine Yh 2 rfl c2 (iN rfl rfl hh (sc rfl) (bW h1) rfl) ?_
 refine Z2 ?_
 revert H; refine bs fun y2 h2 H => ?_
 rcases y2 with y2 | pv1 <;> dsimp only at H
 refine Tc (bJ _ _ h2).s ?_
 refine Z1 ?_
 exact Tm (()) (ij H)
 refine Tp (bJ _ _ h2).pan ?_
 refine Z1 ?_
 revert H; refine bs fun r1 H e1 => ?_
 cases e1; cases Hr1
 cases H
 exact cD
 refine Z9 ?_
 revert H; refine bs fun y3 h3 H => ?_
 rcases y3 with y3 | pv2 <;> dsimp only at H
 refine Tc (bJ _ _ h3).s ?_
 refine Z1 ?_
 exact Tm (()) (ij H)
 refine Tp (bJ _ _ h3).pan ?_
 refine Z1 ?_
 revert H; refine bs fun r2 H e2 => ?_
 cases e2; cases Hr1
 cases H
 exact cD
 refine Z12 ?_
 refine Z7 ?_
 revert H; refine bs fun y4 h4 H => ?_
 rcases y4 with y4 | pv3 <;> dsimp only at H
 refine Tc (bJ _ _ h4).s ?_
 refine Z1 ?_
 exact Tm (()) (ij H)
 refine Tp (bJ _ _ h4).pan ?_
 refine Z1 ?_
 revert H; refine bs fun r3 H e3 => ?_
 cases e3; cases Hr1
 cases H
 exact cD
 clear H; intro i hi; subst o1; have H := Hr1; clear Hr1; try dsimp only at H
 try dsimp only
 refine aI ?_
 revert H; refine bs fun y5 h5 H => ?_
 revert H; refine bs fun y6 h6 H => ?_
 apply bG (ods := [_, _, _, _, _, _, _, _, _, _, _, _, _, _, _]) 15 0 4 bF rfl rfl rfl
 dsimp only [bA, List.take, List.replicate, List.append, List.drop]
 refine M8 ?_
 intros
 refine M4 ?_
 intros
 refine rH (od := odC [2] true (fAny) [aE v2 4 cH (a0.met.set a1.toNat true)]) (p := 2) (z' := true) rfl (fun _ => rfl) (fun _ => rfl) trivial rfl rfl rfl rfl (has rfl) (has rfl) (aF trivial) (sz rfl) (bW h5) rfl rfl (fun _ => ?_)
 refine M1 ?_
 intros
 refine rH (od := odC [1] true (fAny) [aE v1 3 (aB .i64) (a0.sizes.set a1.toNat a2)]) (p := 1) (z' := a2) rfl (fun _ => rfl) (fun _ => rfl) trivial rfl rfl rfl rfl (has rfl) (has rfl) (aF trivial) (sz rfl) (bW h6) rfl rfl (fun _ => ?_)
 refine Z9 ?_
 revert H; refine bs fun y7 h7 H => ?_
 refine Z2 ?_
 refine aR trivial rfl rfl (cB rfl iS rfl) (fun b1 => ?_)
 refine dB (φs' := [aA .i64 y7.Op, aA .i64 y7.N, fSl aW y7.Args, fSl (aB .i64) y7.Kids]) trivial rfl rfl (has rfl) (has rfl) (aM (aF trivial) (aM (aF trivial) (aM (bB) (aM (bB) bR)))) (sz rfl) rfl rfl rfl ?_
 refine Z4 ?_
 revert H; refine bs fun y8 h8 H => ?_
 refine Tc (aHv _ _ h8) ?_
 refine Z2 ?_
 revert H; refine bs fun o2 H Hr2 => ?_
 refine aT (ι := Unit) (fun i => o2 = Sum.inl ()) (fun i => [(0, fEq (.pointer (some ⟨p0, 0, none⟩))), (2, aA .i64 a2), (6, fEq (.pointer (some ⟨b1, 0, none⟩))), (7, eH y8)]) (fun i => [aC b1 51 [aA .i64 y7.Op, aA .i64 y7.N, fSl aW y7.Args, fSl (aB .i64) y7.Kids], aC p0 151 [fSl aN a0.p.Free, fSl aL a0.p.Nodes, fSl aJ a0.p.Defs, aA .i64 a0.p.Main, fEq v1, fEq v2, fEq v3], aE v1 3 (aB .i64) (a0.sizes.set a1.toNat a2), aE v2 4 cH (a0.met.set a1.toNat true), aE v3 4 cH a0.defs]) ?_ ?_
 revert H; refine bs fun x1 h9 H => ?_
 revert H; refine cs (fun c3 H => ?_) fun c3 H => ?_
 revert H; refine bs fun y9 h10 H => ?_
 apply bG (ods := [_, _, _, _, _, _, _, _, _, _]) 10 0 5 bF rfl rfl rfl
 dsimp only [bA, List.take, List.replicate, List.append, List.drop]
 refine M1 ?_
 intros
 refine My (aAi rfl (dR rfl gQ) aCW h9) fun _ => ?_
 refine M2 ?_
 intros
 refine cU (od := odC [0] false (fSl (aB .i64) y7.Kids) [cK]) (ps := [0]) (φ := fSl (aB .i64) y7.Kids) rfl (fun _ => rfl) ⟨_, _, rfl, rfl, c3⟩ rfl rfl (bM rfl (has rfl) (sc rfl) rfl Ent.rfl) (fun _ => ?_)
 refine M2 ?_
 intros
 refine N_callI (od := odC [] true (aA .i64 y9) []) (Φ := aA .i64 y9) rfl (fun _ => rfl) ⟨_, _, rfl, rfl, c3⟩ rfl rfl (dR rfl gQ) aD.nil (aGv y8 y9 h10) (fun _ => ?_)
 refine M2 ?_
 intros
 refine Z1 ?_
 revert H; refine bs fun y10 h11 H => ?_
 rcases y10 with y10 | pv4 <;> dsimp only at H
 refine Tc (bJ _ _ h11).s ?_
 refine Z1 ?_
 exact Tm (()) (ij H)
 refine Tp (bJ _ _ h11).pan ?_
 refine Z1 ?_
 revert H; refine bs fun r4 H e4 => ?_
 cases e4; cases Hr2
 cases H
 exact cD
 exact fk
 kernel_rfl
 apply bG (ods := [_, _, _, _, _, _, _, _, _, _]) 10 0 5 bF rfl rfl rfl
 dsimp only [bA, List.take, List.replicate, List.append, List.drop]
 refine M1 ?_
 intros
 refine My (aAi rfl (dR rfl gQ) aCW h9) fun _ => ?_
 refine M8 ?_
 intros
 refine Z1 ?_
 revert H; refine bs fun y11 h12 H => ?_
 rcases y11 with y11 | pv5 <;> dsimp only at H
 refine Tc (bJ _ _ h12).s ?_
 refine Z1 ?_
 exact Tm (()) (ij H)
 refine Tp (bJ _ _ h12).pan ?_
 refine Z1 ?_
 revert H; refine bs fun r5 H e5 => ?_
 cases e5; cases Hr2
 cases H
 exact cD
 exact fk
 kernel_rfl
 clear H; intro i hi; subst o2; have H := Hr2; clear Hr2; try dsimp only at H
 try dsimp only
 refine Z3 ?_
 revert H; refine bs fun o3 H Hr3 => ?_
 refine aT (ι := Int) (fun i => o3 = Sum.inl i) (fun i => [(0, fEq (.pointer (some ⟨p0, 0, none⟩))), (2, aA .i64 a2), (6, fEq (.pointer (some ⟨b1, 0, none⟩))), (8, aA .i64 i)]) (fun i => [aC b1 51 [aA .i64 y7.Op, aA .i64 y7.N, fSl aW y7.Args, fSl (aB .i64) y7.Kids], aC p0 151 [fSl aN a0.p.Free, fSl aL a0.p.Nodes, fSl aJ a0.p.Defs, aA .i64 a0.p.Main, fEq v1, fEq v2, fEq v3], aE v1 3 (aB .i64) (a0.sizes.set a1.toNat a2), aE v2 4 cH (a0.met.set a1.toNat true), aE v3 4 cH a0.defs]) ?_ ?_
 refine Z5 ?_
 revert H; refine bs fun y12 h13 H => ?_
 obtain ⟨u1, x3⟩ := y12; dsimp only at H
 refine Yy (xL rfl (dR rfl gQ) aES aHX h13) ?_
 refine Z3 ?_
 revert H; refine cs (fun c4 H => ?_) fun c4 H => ?_
 refine Z12 ?_
 refine Z1 ?_
 revert H; refine is (fun c5 H => ?_) fun c5 H => ?_
 refine Z5 ?_
 revert H; refine bs fun y13 h14 H => ?_
 rcases y13 with y13 | pv6 <;> dsimp only at H
 refine Tc (bJ _ _ h14).s ?_
 refine Z3 ?_
 exact Tm (min (y7.Args.length : Int) 3) (ij H)
 refine Tp (bJ _ _ h14).pan ?_
 refine Z2 ?_
 revert H; refine bs fun r6 H e6 => ?_
 cases e6; cases Hr3
 cases H
 exact cD
 refine Z5 ?_
 revert H; refine bs fun y14 h15 H => ?_
 rcases y14 with y14 | pv7 <;> dsimp only at H
 refine Tc (bJ _ _ h15).s ?_
 refine Z3 ?_
 exact Tm (min (y7.Args.length : Int) 3) (ij H)
 refine Tp (bJ _ _ h15).pan ?_
 refine Z2 ?_
 revert H; refine bs fun r7 H e7 => ?_
 cases e7; cases Hr3
 cases H
 exact cD
 refine Z2 ?_
 revert H; refine bs fun y15 h16 H => ?_
 obtain ⟨u2, x4⟩ := y15; dsimp only at H
 refine Yy (xL rfl (dR rfl gQ) aDY aFR h16) ?_
 refine Z3 ?_
 revert H; refine cs (fun c6 H => ?_) fun c6 H => ?_
 refine Z6 ?_
 revert H; refine is (fun c7 H => ?_) fun c7 H => ?_
 refine Z5 ?_
 revert H; refine bs fun y16 h17 H => ?_
 rcases y16 with y16 | pv8 <;> dsimp only at H
 refine Tc (bJ _ _ h17).s ?_
 refine Z3 ?_
 exact Tm (0) (ij H)
 refine Tp (bJ _ _ h17).pan ?_
 refine Z2 ?_
 revert H; refine bs fun r8 H e8 => ?_
 cases e8; cases Hr3
 cases H
 exact cD
 refine Z5 ?_
 revert H; refine bs fun y17 h18 H => ?_
 rcases y17 with y17 | pv9 <;> dsimp only at H
 refine Tc (bJ _ _ h18).s ?_
 refine Z3 ?_
 exact Tm (0) (ij H)
 refine Tp (bJ _ _ h18).pan ?_
 refine Z2 ?_
 revert H; refine bs fun r9 H e9 => ?_
 cases e9; cases Hr3
 cases H
 exact cD
 refine Z2 ?_
 revert H; refine bs fun y18 h19 H => ?_
 obtain ⟨u3, x5⟩ := y18; dsimp only at H
 refine Yy (xL rfl (dR rfl gQ) aC6 aIe h19) ?_
 refine Z3 ?_
 revert H; refine cs (fun c8 H => ?_) fun c8 H => ?_
 refine Z1 ?_
 revert H; refine is (fun c9 H => ?_) fun c9 H => ?_
 revert H; refine is (fun c10 H => ?_) fun c10 H => ?_
 revert H; refine bs fun y19 h20 H => ?_
 apply bG (ods := [_, _, _, _, _, _, _, _, _, _, _, _, _, _, _, _, _, _, _, _, _, _, _, _, _]) 25 0 5 bF rfl rfl rfl
 dsimp only [bA, List.take, List.replicate, List.append, List.drop]
 refine M5 ?_
 intros
 refine cU (od := odC [0] false (aA .i64 y7.N) [cK]) (ps := [0]) (φ := aA .i64 y7.N) rfl (fun _ => rfl) ⟨_, _, rfl, rfl, c9⟩ rfl rfl (bM rfl (has rfl) (sc rfl) rfl Ent.rfl) (fun _ => ?_)
 refine M4 ?_
 intros
 refine cU (od := odC [1] false (fSl aJ a0.p.Defs) [cK]) (ps := [1]) (φ := fSl aJ a0.p.Defs) rfl (fun _ => rfl) ⟨_, _, rfl, rfl, c9⟩ rfl rfl (bM rfl (has rfl) (sc rfl) rfl Ent.rfl) (fun _ => ?_)
 refine M7 ?_
 intros
 refine cU (od := odC [1] false (fEq v3) [cK]) (ps := [1]) (φ := fEq v3) rfl (fun _ => rfl) ⟨_, _, rfl, rfl, c10⟩ rfl rfl (bM rfl (has rfl) (sc rfl) rfl Ent.rfl) (fun _ => ?_)
 refine M1 ?_
 intros
 refine cU (od := odC [0] false (aA .i64 y7.N) [cK]) (ps := [0]) (φ := aA .i64 y7.N) rfl (fun _ => rfl) ⟨_, _, rfl, rfl, c10⟩ rfl rfl (bM rfl (has rfl) (sc rfl) rfl Ent.rfl) (fun _ => ?_)
 refine cU (od := odC [4] false (hQ v3 1 y7.N.toNat 0) [cK]) (ps := [4]) (φ := hQ v3 1 y7.N.toNat 0) rfl (fun _ => rfl) ⟨_, _, rfl, rfl, c10⟩ rfl rfl (jJ rfl (has rfl) (has rfl) (el rfl) h20) (fun _ => ?_)
 refine cU (od := odC [4] false (aK y19) [cK]) (ps := [4]) (φ := aK y19) rfl (fun _ => rfl) ⟨_, _, rfl, rfl, c10⟩ rfl rfl (iN rfl rfl (has rfl) (sc rfl) (bW h20) rfl) (fun _ => ?_)
 refine M2 ?_
 intros
 refine Z1 ?_
 revert H; refine bs fun y20 h21 H => ?_
 rcases y20 with y20 | pv10 <;> dsimp only at H
 refine Tc (bJ _ _ h21).s ?_
 refine Z3 ?_
 exact Tm (0) (ij H)
 refine Tp (bJ _ _ h21).pan ?_
 refine Z2 ?_
 revert H; refine bs fun r10 H e10 => ?_
 cases e10; cases Hr3
 cases H
 exact cD
 exact fk
 kernel_rfl
 apply bG (ods := [_, _, _, _, _, _, _, _, _, _, _, _, _, _, _, _, _, _, _, _, _, _, _, _, _]) 25 0 5 bF rfl rfl rfl
 dsimp only [bA, List.take, List.replicate, List.append, List.drop]
 refine M5 ?_
 intros
 refine cU (od := odC [0] false (aA .i64 y7.N) [cK]) (ps := [0]) (φ := aA .i64 y7.N) rfl (fun _ => rfl) ⟨_, _, rfl, rfl, c9⟩ rfl rfl (bM rfl (has rfl) (sc rfl) rfl Ent.rfl) (fun _ => ?_)
 refine M4 ?_
 intros
 refine cU (od := odC [1] false (fSl aJ a0.p.Defs) [cK]) (ps := [1]) (φ := fSl aJ a0.p.Defs) rfl (fun _ => rfl) ⟨_, _, rfl, rfl, c9⟩ rfl rfl (bM rfl (has rfl) (sc rfl) rfl Ent.rfl) (fun _ => ?_)
 refine M8 ?_
 intros
 refine M6 ?_
 intros
 refine Z1 ?_
 revert H; refine bs fun y21 h22 H => ?_
 rcases y21 with y21 | pv11 <;> dsimp only at H
 refine Tc (bJ _ _ h22).s ?_
 refine Z3 ?_
 exact Tm (0) (ij H)
 refine Tp (bJ _ _ h22).pan ?_
 refine Z2 ?_
 revert H; refine bs fun r11 H e11 => ?_
 cases e11; cases Hr3
 cases H
 exact cD
 exact fk
 kernel_rfl
 apply bG (ods := [_, _, _, _, _, _, _, _, _, _, _, _, _, _, _, _, _, _, _, _, _, _, _, _, _]) 25 0 5 bF rfl rfl rfl
 dsimp only [bA, List.take, List.replicate, List.append, List.drop]
 refine M8 ?_
 intros
 refine M8 ?_
 intros
 refine M8 ?_
 intros
 refine M1 ?_
 intros
 refine Z1 ?_
 revert H; refine bs fun y22 h23 H => ?_
 rcases y22 with y22 | pv12 <;> dsimp only at H
 refine Tc (bJ _ _ h23).s ?_
 refine Z3 ?_
 exact Tm (0) (ij H)
 refine Tp (bJ _ _ h23).pan ?_
 refine Z2 ?_
 revert H; refine bs fun r12 H e12 => ?_
 cases e12; cases Hr3
 cases H
 exact cD
 exact fk
 kernel_rfl
 refine Z2 ?_
 revert H; refine bs fun y23 h24 H => ?_
 obtain ⟨u4, x6⟩ := y23; dsimp only at H
 refine Yy (xL rfl (dR rfl gQ) aCJ aHf h24) ?_
 refine Z3 ?_
 revert H; refine cs (fun c11 H => ?_) fun c11 H => ?_
 refine Z8 ?_
 revert H; refine bs fun y24 h25 H => ?_
 rcases y24 with y24 | pv13 <;> dsimp only at H
 refine Tc (bJ _ _ h25).s ?_
 refine Z3 ?_
 exact Tm (1) (ij H)
 refine Tp (bJ _ _ h25).pan ?_
 refine Z2 ?_
 revert H; refine bs fun r13 H e13 => ?_
 cases e13; cases Hr3
 cases H
 exact cD
 refine Z5 ?_
 revert H; refine bs fun y25 h26 H => ?_
 rcases y25 with y25 | pv14 <;> dsimp only at H
 refine Tc (bJ _ _ h26).s ?_
 refine Z3 ?_
 exact Tm (0) (ij H)
 refine Tp (bJ _ _ h26).pan ?_
 refine Z2 ?_
 revert H; refine bs fun r14 H e14 => ?_
 cases e14; cases Hr3
 cases H
 exact cD
 clear H; intro x2 hi; subst o3; have H := Hr3; clear Hr3; try dsimp only at H
 try dsimp only
 refine Z6 ?_
 revert H; refine bs fun y26 h27 H => ?_
 rcases y26 with y26 | pv15 <;> dsimp only at H
 refine Tc (bJ _ _ h27).s ?_
 refine Z1 ?_
 revert H; refine bs fun o4 H Hr4 => ?_
 refine aT (ι := Unit) (fun i => o4 = Sum.inl ()) (fun i => [(0, fEq (.pointer (some ⟨p0, 0, none⟩))), (2, aA .i64 a2), (6, fEq (.pointer (some ⟨b1, 0, none⟩)))]) (fun i => [aC b1 51 [aA .i64 y7.Op, aA .i64 y7.N, fSl aW y7.Args, fSl (aB .i64) y7.Kids], aC p0 151 [fSl aN a0.p.Free, fSl aL a0.p.Nodes, fSl aJ a0.p.Defs, aA .i64 a0.p.Main, fEq v1, fEq v2, fEq v3], aE v1 3 (aB .i64) (a0.sizes.set a1.toNat a2), aE v2 4 cH (a0.met.set a1.toNat true), aE v3 4 cH a0.defs]) ?_ ?_
 refine Z7 ?_
 refine Tl (ι := Nat × Int) (fun i => mI fuel a2 y7 i.1 i.2 = _) (fun i => i.1) (fun i => [(0, fEq (.pointer (some ⟨p0, 0, none⟩))), (2, aA .i64 a2), (6, fEq (.pointer (some ⟨b1, 0, none⟩))), (154, fSl aW y7.Args), (155, aA .i64 (y7.Args.length : Int)), (156, aA .i64 i.2)]) (fun i => [aC b1 51 [aA .i64 y7.Op, aA .i64 y7.N, fSl aW y7.Args, fSl (aB .i64) y7.Kids], aC p0 151 [fSl aN a0.p.Free, fSl aL a0.p.Nodes, fSl aJ a0.p.Defs, aA .i64 a0.p.Main, fEq v1, fEq v2, fEq v3], aE v1 3 (aB .i64) (a0.sizes.set a1.toNat a2), aE v2 4 cH (a0.met.set a1.toNat true), aE v3 4 cH a0.defs]) (fuel, 0) H ?_
 clear H; rintro ⟨k1, x8⟩ H
 replace H : mI fuel a2 y7 k1 x8 = _ := H
 try dsimp only
 obtain _ | k1 := k1
 rw [mI] at H; cases H
 rw [mI] at H
 refine Z3 ?_
 refine aI ?_
 revert H; refine is (fun c12 H => ?_) fun c12 H => ?_
 refine Z3 ?_
 refine aI ?_
 refine Z2 ?_
 revert H; refine bs fun y27 h28 H => ?_
 refine Z2 ?_
 refine aR trivial rfl rfl (cB rfl aAI rfl) (fun b2 => ?_)
 refine dB (φs' := [aA .i64 y27.Op, aA .i64 y27.N, gG y27.Kids]) trivial rfl rfl (has rfl) (has rfl) (aM (aF trivial) (aM (aF trivial) (aM (zU) bR))) (sz rfl) rfl rfl rfl ?_
 refine Z4 ?_
 revert H; refine bs fun y28 h29 H => ?_
 rcases y28 with y28 | pv16 <;> dsimp only at H
 refine Tc (aEF _ _ _ _ h29).s ?_
 refine Z4 ?_
 revert H; refine bs fun z1 h30 H => ?_
 refine Z3 ?_
 refine aH [1, 2, 3, 4, 5] (by decide) ?_
 exact Tm ((k1, z1)) ⟨H, ls⟩
 refine Tp (aEF _ _ _ _ h29).pan ?_
 refine Z5 ?_
 revert H; refine bs fun r15 H e15 => ?_
 cases e15; cases Hr4
 cases H
 exact cD
 refine Z6 ?_
 exact Tm (()) (ij H)
 clear H; intro i hi; subst o4; have H := Hr4; clear Hr4; try dsimp only at H
 try dsimp only
 revert H; refine bs fun o5 H Hr5 => ?_
 refine aT (ι := Int × List ByteArray × List ScopeNode × List ScopeDef × Int × List Int × List Bool × List Bool × Value × Value × Value) (fun i => o5 = Sum.inl (i.1, i.2.1, i.2.2.1, i.2.2.2.1, i.2.2.2.2.1, i.2.2.2.2.2.1, i.2.2.2.2.2.2.1, i.2.2.2.2.2.2.2.1)) (fun i => [(0, fEq (.pointer (some ⟨p0, 0, none⟩))), (2, aA .i64 i.1), (6, fEq (.pointer (some ⟨b1, 0, none⟩)))]) (fun i => [aC b1 51 [aA .i64 y7.Op, aA .i64 y7.N, fSl aW y7.Args, fSl (aB .i64) y7.Kids], aC p0 151 [fSl aN i.2.1, fSl aL i.2.2.1, fSl aJ i.2.2.2.1, aA .i64 i.2.2.2.2.1, fEq i.2.2.2.2.2.2.2.2.1, fEq i.2.2.2.2.2.2.2.2.2.1, fEq i.2.2.2.2.2.2.2.2.2.2], aE i.2.2.2.2.2.2.2.2.1 3 (aB .i64) i.2.2.2.2.2.1, aE i.2.2.2.2.2.2.2.2.2.1 4 cH i.2.2.2.2.2.2.1, aE i.2.2.2.2.2.2.2.2.2.2 4 cH i.2.2.2.2.2.2.2.1]) ?_ ?_
 refine Z5 ?_
 revert H; refine is (fun c13 H => ?_) fun c13 H => ?_
 refine Z1 ?_
 refine aI ?_
 revert H; refine bs fun y29 h31 H => ?_
 apply bG (ods := [_, _, _, _, _, _, _, _]) 8 0 5 bF rfl rfl rfl
 dsimp only [bA, List.take, List.replicate, List.append, List.drop]
 refine M7 ?_
 intros
 refine rH (od := odC [4] true (fAny) [aE v3 4 cH (a0.defs.set y7.N.toNat true)]) (p := 4) (z' := true) rfl (fun _ => rfl) (fun _ => rfl) trivial rfl rfl rfl rfl (has rfl) (has rfl) (aF trivial) (sz rfl) (bW h31) rfl rfl (fun _ => ?_)
 refine Z2 ?_
 refine aI ?_
 revert H; refine bs fun y30 h32 H => ?_
 apply bG (ods := [_, _, _, _, _, _, _, _, _, _, _]) 11 1 6 bF rfl rfl rfl
 dsimp only [bA, List.take, List.replicate, List.append, List.drop]
 refine M8 ?_
 intros
 refine M1 ?_
 intros
 refine Mn 5 (fun b3 => ptr b3) (fun b3 => aC b3 99 [fEq (.slice none 0 0), fEq (.slice none 0 0), fEq (.slice none 0 0)]) rfl (cB rfl jW rfl) (fun b3 u5 => ?_)
 refine pB (od := od1 9 [5] true (fun b3 _ => fAny) (fun b3 _ => [aC b3 99 [fSl aY y30.Chans, fSl bI y30.Spots, fSl bC y30.Rules]])) (p := 5) (φs' := [fSl aY y30.Chans, fSl bI y30.Spots, fSl bC y30.Rules]) rfl (fun _ => rfl) (fun _ => rfl) trivial rfl rfl rfl (has rfl) (has rfl) (aM (bB) (aM (bB) (aM (bB) bR))) (sz rfl) rfl rfl rfl (fun _ => ?_)
 refine Z4 ?_
 revert H; refine bs fun y31 h33 H => ?_
 rcases y31 with y31 | pv17 <;> dsimp only at H
 refine Tc (aDc _ _ _ h33).s ?_
 refine Z4 ?_
 revert H; refine bs fun y32 h34 H => ?_
 refine Tc (aGZ _ _ h34) ?_
 revert H; refine bs fun z2 h35 H => ?_
 refine Z3 ?_
 revert H; refine bs fun o6 H Hr6 => ?_
 refine aT (ι := List ByteArray × List ScopeNode × List ScopeDef × Int × List Int × List Bool × List Bool × Value × Value × Value) (fun i => o6 = Sum.inl (i.1, i.2.1, i.2.2.1, i.2.2.2.1, i.2.2.2.2.1, i.2.2.2.2.2.1, i.2.2.2.2.2.2.1)) (fun i => [(0, fEq (.pointer (some ⟨p0, 0, none⟩))), (2, aA .i64 z2), (6, fEq (.pointer (some ⟨b1, 0, none⟩))), (11, fEq (.pointer (some ⟨b3, 0, none⟩)))]) (fun i => [aC b1 51 [aA .i64 y7.Op, aA .i64 y7.N, fSl aW y7.Args, fSl (aB .i64) y7.Kids], aC p0 151 [fSl aN i.1, fSl aL i.2.1, fSl aJ i.2.2.1, aA .i64 i.2.2.2.1, fEq i.2.2.2.2.2.2.2.1, fEq i.2.2.2.2.2.2.2.2.1, fEq i.2.2.2.2.2.2.2.2.2], aC b3 99 [fSl aY y30.Chans, fSl bI y30.Spots, fSl bC y30.Rules], aE i.2.2.2.2.2.2.2.1 3 (aB .i64) i.2.2.2.2.1, aE i.2.2.2.2.2.2.2.2.1 4 cH i.2.2.2.2.2.1, aE i.2.2.2.2.2.2.2.2.2 4 cH i.2.2.2.2.2.2.1]) ?_ ?_
 refine Z7 ?_
 refine aH [0, 1, 5, 2, 3, 4] (by decide) ?_
 refine Tl (ι := Nat × Int × List ByteArray × List ScopeNode × List ScopeDef × Int × List Int × List Bool × List Bool × Value × Value × Value) (fun i => mR fuel (fF fuel) y30 z2 i.1 i.2.1 i.2.2.1 i.2.2.2.1 i.2.2.2.2.1 i.2.2.2.2.2.1 i.2.2.2.2.2.2.1 i.2.2.2.2.2.2.2.1 i.2.2.2.2.2.2.2.2.1 = _) (fun i => i.1) (fun i => [(0, fEq (.pointer (some ⟨p0, 0, none⟩))), (2, aA .i64 z2), (6, fEq (.pointer (some ⟨b1, 0, none⟩))), (11, fEq (.pointer (some ⟨b3, 0, none⟩))), (190, fSl bC y30.Rules), (191, aA .i64 (y30.Rules.length : Int)), (192, aA .i64 i.2.1)]) (fun i => [aC b1 51 [aA .i64 y7.Op, aA .i64 y7.N, fSl aW y7.Args, fSl (aB .i64) y7.Kids], aC p0 151 [fSl aN i.2.2.1, fSl aL i.2.2.2.1, fSl aJ i.2.2.2.2.1, aA .i64 i.2.2.2.2.2.1, fEq i.2.2.2.2.2.2.2.2.2.1, fEq i.2.2.2.2.2.2.2.2.2.2.1, fEq i.2.2.2.2.2.2.2.2.2.2.2], aC b3 99 [fSl aY y30.Chans, fSl bI y30.Spots, fSl bC y30.Rules], aE i.2.2.2.2.2.2.2.2.2.1 3 (aB .i64) i.2.2.2.2.2.2.1, aE i.2.2.2.2.2.2.2.2.2.2.1 4 cH i.2.2.2.2.2.2.2.1, aE i.2.2.2.2.2.2.2.2.2.2.2 4 cH i.2.2.2.2.2.2.2.2.1]) (fuel, 0, a0.p.Free, a0.p.Nodes, a0.p.Defs, a0.p.Main, a0.sizes.set a1.toNat a2, a0.met.set a1.toNat true, a0.defs.set y7.N.toNat true, v1, v2, v3) H ?_
 clear H; rintro ⟨k2, x32, x33, x34, x35, x36, x37, x38, x39, v13, v14, v15⟩ H
 replace H : mR fuel (fF fuel) y30 z2 k2 x32 x33 x34 x35 x36 x37 x38 x39 = _ := H
 try dsimp only
 obtain _ | k2 := k2
 rw [mR] at H; cases H
 rw [mR] at H
 refine aO 3 rfl (fun hc_v13 => ?_)
 refine aO 4 rfl (fun hc_v14 => ?_)
 refine aO 5 rfl (fun hc_v15 => ?_)
 refine Z3 ?_
 refine aI ?_
 revert H; refine is (fun c14 H => ?_) fun c14 H => ?_
 refine Z3 ?_
 refine aI ?_
 refine Z2 ?_
 revert H; refine bs fun y33 h36 H => ?_
 refine Z2 ?_
 refine aR trivial rfl rfl (cB rfl vF rfl) (fun b4 => ?_)
 refine dB (φs' := [aA .i64 y33.At, fSl (aB .i64) y33.Joins, aA .i64 y33.Node]) trivial rfl rfl (has rfl) (has rfl) (aM (aF trivial) (aM (bB) (aM (aF trivial) bR))) (sz rfl) rfl rfl rfl ?_
 refine Z1 ?_
 revert H; refine bs fun y34 h37 H => ?_
 revert H; refine bs fun z3 h38 H => ?_
 apply bG (ods := [_, _, _, _, _, _, _, _]) 8 0 7 bF rfl rfl rfl
 dsimp only [bA, List.take, List.replicate, List.append, List.drop]
 refine M6 ?_
 intros
 refine bP (od := odC [] true (aA .i64 y34) []) (Φ := aA .i64 y34) rfl (fun _ => rfl) trivial rfl rfl (has rfl) (aD.cons (has rfl) (aD.cons (has rfl) aD.nil)) rfl (cb rfl) (aHZ fuel (⟨y30.Chans, y30.Spots, y30.Rules⟩ : ScopeDef) (⟨y33.At, y33.Joins, y33.Node⟩ : ScopeRule) y34 h37) (fun _ => ?_)
 refine M1 ?_
 intros
 refine Z1 ?_
 refine mY ?_
 refine mY ?_
 refine mY ?_
 refine jA ?_
 refine wB (x := (⟨(⟨x33, x34, x35, x36⟩ : ScopeProg), x37, x38, x39⟩ : Scope_looker)) ?_
 revert H; refine bs fun y35 h39 H => ?_
 rcases y35 with y35 | pv18 <;> dsimp only at H
 refine Tc (ih_scope_looker_node _ _ _ _ _ h39).s ?_
 refine wH (fun v16 v17 v18 => ?_)
 refine aO 1 rfl (fun hc_v16 => ?_)
 refine aO 2 rfl (fun hc_v17 => ?_)
 refine aO 3 rfl (fun hc_v18 => ?_)
 refine Z4 ?_
 revert H; refine bs fun z4 h40 H => ?_
 refine Z3 ?_
 refine aH [5, 0, 6, 1, 2, 3] (by decide) ?_
 exact Tm ((k2, z4, y35.p.Free, y35.p.Nodes, y35.p.Defs, y35.p.Main, y35.sizes, y35.met, y35.defs, v16, v17, v18)) ⟨H, ls⟩
 refine Tp (ih_scope_looker_node _ _ _ _ _ h39).pan ?_
 refine Z5 ?_
 revert H; refine bs fun r16 H e16 => ?_
 cases e16; cases Hr6
 refine Z1 ?_
 revert H; refine bs fun r17 H e17 => ?_
 cases e17; cases Hr5
 cases H
 exact cD
 exact fk
 kernel_rfl
 refine Z6 ?_
 exact Tm ((x33, x34, x35, x36, x37, x38, x39, v13, v14, v15)) (ij H)
 clear H; intro i hi; obtain ⟨x17, x18, x19, x20, x21, x22, x23, v7, v8, v9⟩ := i; subst o6; have H := Hr6; clear Hr6; try dsimp only at H
 try dsimp only
 refine aO 3 rfl (fun hc_v7 => ?_)
 refine aO 4 rfl (fun hc_v8 => ?_)
 refine aO 5 rfl (fun hc_v9 => ?_)
 refine Z7 ?_
 refine Tl (ι := Nat × Int × List ByteArray × List ScopeNode × List ScopeDef × Int × List Int × List Bool × List Bool × Value × Value × Value) (fun i => mN (fF fuel) y30 z2 i.1 i.2.1 i.2.2.1 i.2.2.2.1 i.2.2.2.2.1 i.2.2.2.2.2.1 i.2.2.2.2.2.2.1 i.2.2.2.2.2.2.2.1 i.2.2.2.2.2.2.2.2.1 = _) (fun i => i.1) (fun i => [(0, fEq (.pointer (some ⟨p0, 0, none⟩))), (2, aA .i64 z2), (6, fEq (.pointer (some ⟨b1, 0, none⟩))), (207, fSl bI y30.Spots), (208, aA .i64 (y30.Spots.length : Int)), (209, aA .i64 i.2.1)]) (fun i => [aC b1 51 [aA .i64 y7.Op, aA .i64 y7.N, fSl aW y7.Args, fSl (aB .i64) y7.Kids], aC p0 151 [fSl aN i.2.2.1, fSl aL i.2.2.2.1, fSl aJ i.2.2.2.2.1, aA .i64 i.2.2.2.2.2.1, fEq i.2.2.2.2.2.2.2.2.2.1, fEq i.2.2.2.2.2.2.2.2.2.2.1, fEq i.2.2.2.2.2.2.2.2.2.2.2], aC b3 99 [fSl aY y30.Chans, fSl bI y30.Spots, fSl bC y30.Rules], aE i.2.2.2.2.2.2.2.2.2.1 3 (aB .i64) i.2.2.2.2.2.2.1, aE i.2.2.2.2.2.2.2.2.2.2.1 4 cH i.2.2.2.2.2.2.2.1, aE i.2.2.2.2.2.2.2.2.2.2.2 4 cH i.2.2.2.2.2.2.2.2.1]) (fuel, 0, x17, x18, x19, x20, x21, x22, x23, v7, v8, v9) H ?_
 clear H; rintro ⟨k3, x48, x49, x50, x51, x52, x53, x54, x55, v22, v23, v24⟩ H
 replace H : mN (fF fuel) y30 z2 k3 x48 x49 x50 x51 x52 x53 x54 x55 = _ := H
 try dsimp only
 obtain _ | k3 := k3
 rw [mN] at H; cases H
 rw [mN] at H
 refine aO 3 rfl (fun hc_v22 => ?_)
 refine aO 4 rfl (fun hc_v23 => ?_)
 refine aO 5 rfl (fun hc_v24 => ?_)
 refine Z3 ?_
 refine aI ?_
 revert H; refine is (fun c15 H => ?_) fun c15 H => ?_
 refine Z3 ?_
 refine aI ?_
 refine Z2 ?_
 revert H; refine bs fun y36 h41 H => ?_
 refine Z2 ?_
 refine aR trivial rfl rfl (cB rfl aBq rfl) (fun b5 => ?_)
 refine dB (φs' := [aA .i64 y36.In, aA .i64 y36.Node]) trivial rfl rfl (has rfl) (has rfl) (aM (aF trivial) (aM (aF trivial) bR)) (sz rfl) rfl rfl rfl ?_
 refine Z6 ?_
 refine mY ?_
 refine mY ?_
 refine mY ?_
 refine jA ?_
 refine wB (x := (⟨(⟨x49, x50, x51, x52⟩ : ScopeProg), x53, x54, x55⟩ : Scope_looker)) ?_
 revert H; refine bs fun y37 h42 H => ?_
 rcases y37 with y37 | pv19 <;> dsimp only at H
 refine Tc (ih_scope_looker_node _ _ _ _ _ h42).s ?_
 refine wH (fun v25 v26 v27 => ?_)
 refine aO 1 rfl (fun hc_v25 => ?_)
 refine aO 2 rfl (fun hc_v26 => ?_)
 refine aO 3 rfl (fun hc_v27 => ?_)
 refine Z4 ?_
 revert H; refine bs fun z5 h43 H => ?_
 refine Z3 ?_
 refine aH [5, 0, 6, 1, 2, 3] (by decide) ?_
 exact Tm ((k3, z5, y37.p.Free, y37.p.Nodes, y37.p.Defs, y37.p.Main, y37.sizes, y37.met, y37.defs, v25, v26, v27)) ⟨H, ls⟩
 refine Tp (ih_scope_looker_node _ _ _ _ _ h42).pan ?_
 refine Z5 ?_
 revert H; refine bs fun r18 H e18 => ?_
 cases e18; cases Hr5
 cases H
 exact cD
 refine Z6 ?_
 refine aH [0, 1, 3, 4, 5] (by decide) ?_
 exact Tm ((z2, x49, x50, x51, x52, x53, x54, x55, v22, v23, v24)) (ij H)
 refine Tp (aDc _ _ _ h33).pan ?_
 refine Z2 ?_
 revert H; refine bs fun r19 H e19 => ?_
 cases e19; cases Hr5
 cases H
 exact cD
 exact fk
 kernel_rfl
 exact fk
 kernel_rfl
 refine Z3 ?_
 exact Tm ((a2, a0.p.Free, a0.p.Nodes, a0.p.Defs, a0.p.Main, a0.sizes.set a1.toNat a2, a0.met.set a1.toNat true, a0.defs, v1, v2, v3)) (ij H)
 clear H; intro i hi; obtain ⟨x9, x10, x11, x12, x13, x14, x15, x16, v4, v5, v6⟩ := i; subst o5; have H := Hr5; clear Hr5; try dsimp only at H
 try dsimp only
 refine aO 2 rfl (fun hc_v4 => ?_)
 refine aO 3 rfl (fun hc_v5 => ?_)
 refine aO 4 rfl (fun hc_v6 => ?_)
 refine Z7 ?_
 refine Tl (ι := Nat × Int × List ByteArray × List ScopeNode × List ScopeDef × Int × List Int × List Bool × List Bool × Value × Value × Value) (fun i => oE (fF fuel) y7 x9 i.1 i.2.1 i.2.2.1 i.2.2.2.1 i.2.2.2.2.1 i.2.2.2.2.2.1 i.2.2.2.2.2.2.1 i.2.2.2.2.2.2.2.1 i.2.2.2.2.2.2.2.2.1 = _) (fun i => i.1) (fun i => [(0, fEq (.pointer (some ⟨p0, 0, none⟩))), (2, aA .i64 x9), (220, fSl (aB .i64) y7.Kids), (221, aA .i64 (y7.Kids.length : Int)), (222, aA .i64 i.2.1)]) (fun i => [aC b1 51 [aA .i64 y7.Op, aA .i64 y7.N, fSl aW y7.Args, fSl (aB .i64) y7.Kids], aC p0 151 [fSl aN i.2.2.1, fSl aL i.2.2.2.1, fSl aJ i.2.2.2.2.1, aA .i64 i.2.2.2.2.2.1, fEq i.2.2.2.2.2.2.2.2.2.1, fEq i.2.2.2.2.2.2.2.2.2.2.1, fEq i.2.2.2.2.2.2.2.2.2.2.2], aE i.2.2.2.2.2.2.2.2.2.1 3 (aB .i64) i.2.2.2.2.2.2.1, aE i.2.2.2.2.2.2.2.2.2.2.1 4 cH i.2.2.2.2.2.2.2.1, aE i.2.2.2.2.2.2.2.2.2.2.2 4 cH i.2.2.2.2.2.2.2.2.1]) (fuel, 0, x10, x11, x12, x13, x14, x15, x16, v4, v5, v6) H ?_
 clear H; rintro ⟨k4, x64, x65, x66, x67, x68, x69, x70, x71, v31, v32, v33⟩ H
 replace H : oE (fF fuel) y7 x9 k4 x64 x65 x66 x67 x68 x69 x70 x71 = _ := H
 try dsimp only
 obtain _ | k4 := k4
 rw [oE] at H; cases H
 rw [oE] at H
 refine aO 2 rfl (fun hc_v31 => ?_)
 refine aO 3 rfl (fun hc_v32 => ?_)
 refine aO 4 rfl (fun hc_v33 => ?_)
 refine Z3 ?_
 refine aI ?_
 revert H; refine is (fun c16 H => ?_) fun c16 H => ?_
 refine Z3 ?_
 refine aI ?_
 refine Z2 ?_
 revert H; refine bs fun y38 h44 H => ?_
 refine Z8 ?_
 refine bL ?_
 refine bL ?_
 refine bL ?_
 refine bL ?_
 refine wB (x := (⟨(⟨x65, x66, x67, x68⟩ : ScopeProg), x69, x70, x71⟩ : Scope_looker)) ?_
 revert H; refine bs fun y39 h45 H => ?_
 rcases y39 with y39 | pv20 <;> dsimp only at H
 refine Tc (ih_scope_looker_node _ _ _ _ _ h45).s ?_
 refine wH (fun v34 v35 v36 => ?_)
 refine aO 1 rfl (fun hc_v34 => ?_)
 refine aO 2 rfl (fun hc_v35 => ?_)
 refine aO 3 rfl (fun hc_v36 => ?_)
 refine Z4 ?_
 revert H; refine bs fun z6 h46 H => ?_
 refine Z3 ?_
 refine aH [4, 0, 1, 2, 3] (by decide) ?_
 exact Tm ((k4, z6, y39.p.Free, y39.p.Nodes, y39.p.Defs, y39.p.Main, y39.sizes, y39.met, y39.defs, v34, v35, v36)) ⟨H, ls⟩
 refine Tp (ih_scope_looker_node _ _ _ _ _ h45).pan ?_
 refine Z4 ?_
 cases H
 exact cD
 refine Z5 ?_
 refine bL ?_
 refine bL ?_
 refine bL ?_
 refine bL ?_
 refine wB (x := (⟨(⟨x65, x66, x67, x68⟩ : ScopeProg), x69, x70, x71⟩ : Scope_looker)) ?_
 cases H
 refine qK ?_
 refine aH [0] (by decide) ?_
 exact eX (.inr rfl) rfl rfl
 refine Tp (bJ _ _ h27).pan ?_
 refine Z1 ?_
 cases H
 exact cD
 exact fk
 kernel_rfl
end Go.Proofs.YtmnbfgeljmhekaaGreat
set_option maxRecDepth 100000
set_option maxHeartbeats 2000000
namespace Go.Proofs.YtmnbfgeljmhekaaGreat
open Go.SX Go.SW Go.Dt
attribute [local irreducible] Code.wpIn wpListIn Exit.then Exit.inBlock
def pT (a0 : List Bool) (a1 : Bool) : Nat → Int → Option ((Unit) ⊕ (Int))
| 0, _ => none
| k + 1, x2 =>
 if x2 < (a0.length : Int) then
  (idx a0 x2).bind fun y1 =>
  bif a1 == y1 then
   (some x2).bind fun r => some (Sum.inr r)
  else
   (chk (x2 + 1)).bind fun z1 =>
   pT a0 a1 k z1
 else
  some (Sum.inl ())
def aAt (fuel : Nat) (a0 : List Bool) (a1 : Bool) : Option (Int) :=
 (pT a0 a1 fuel 0).bind fun o => match o with
 | Sum.inr r => some r
 | Sum.inl _ =>
 some (-1)
theorem aGc (fuel : Nat)  (a0 : List Bool) (a1 : Bool) (r : Int) (H : aAt fuel a0 a1 = some r) : FnS Tryz.prog 128 [fSl cH a0, aK a1] [] (aA .i64 r) (fun _ => []) := by
 unfold aAt at H
 refine bK Tryz.func128 rfl Tryz.ntmps128 rfl (fun β => ?_)
 refine Z3 ?_
 revert H; refine bs fun o1 H Hr1 => ?_
 refine aT (ι := Unit) (fun i => o1 = Sum.inl ()) (fun i => []) (fun i => []) ?_ ?_
 refine Z6 ?_
 refine Tl (ι := Nat × Int) (fun i => pT a0 a1 i.1 i.2 = _) (fun i => i.1) (fun i => [(0, fSl cH a0), (1, aK a1), (7, aA .i64 (a0.length : Int)), (8, aA .i64 i.2)]) (fun i => []) (fuel, 0) H ?_
 clear H; rintro ⟨k1, x2⟩ H
 replace H : pT a0 a1 k1 x2 = _ := H
 try dsimp only
 obtain _ | k1 := k1
 rw [pT] at H; cases H
 rw [pT] at H
 refine Z3 ?_
 refine aI ?_
 revert H; refine is (fun c1 H => ?_) fun c1 H => ?_
 refine Z3 ?_
 refine aI ?_
 refine Z9 ?_
 revert H; refine bs fun y1 h1 H => ?_
 refine Z2 ?_
 refine Yy (o_eqlB rfl hh hh aFz) ?_
 refine Z1 ?_
 revert H; refine cs (fun c2 H => ?_) fun c2 H => ?_
 refine Z11 ?_
 revert H; refine bs fun r1 H e1 => ?_
 cases e1; cases Hr1
 cases H
 exact To
 refine Z5 ?_
 revert H; refine bs fun z1 h2 H => ?_
 refine Z3 ?_
 exact Tm ((k1, z1)) ⟨H, ls⟩
 refine Z6 ?_
 exact Tm (()) (ij H)
 clear H; intro i hi; subst o1; have H := Hr1; clear Hr1; try dsimp only at H
 try dsimp only
 refine Z4 ?_
 cases H
 exact To
def uG (fuel : Nat) (a0 : List Bool) (a1 : Bool) : Option (Bool) :=
 (aAt fuel a0 a1).bind fun y1 =>
 some (decide (0 ≤ y1))
theorem aFe (fuel : Nat)  (a0 : List Bool) (a1 : Bool) (r : Bool) (H : uG fuel a0 a1 = some r) : FnS Tryz.prog 111 [fSl cH a0, aK a1] [] (aK r) (fun _ => []) := by
 unfold uG at H
 refine bK Tryz.func111 rfl Tryz.ntmps111 rfl (fun β => ?_)
 refine Z6 ?_
 revert H; refine bs fun y1 h1 H => ?_
 refine Tc (aGc _ _ _ _ h1) ?_
 refine Z4 ?_
 cases H
 exact To
def oA (fuel : Nat) (a0 : ScopeProg) : Nat → Int → Option ((Unit) ⊕ (Scope_looker ⊕ Value))
| 0, _ => none
| k + 1, x2 =>
 if x2 < (a0.Free.length : Int) then
  ((idx a0.Free x2).bind fun y4 =>
  (sV fuel y4).bind fun y5 =>
  bif y5 then
   if x2 = 0 then
    (bX true).bind fun y6 =>
    match y6 with
    | Sum.inr pv4 => ((some (Sum.inr pv4)).bind fun r => some (Sum.inr r)).bind fun r => some (Sum.inr r)
    | Sum.inl y6 =>
    some (Sum.inl ())
   else
    (chk (x2 - 1)).bind fun z1 =>
    (idx a0.Free z1).bind fun y7 =>
    (bX (slt y7 y4)).bind fun y8 =>
    match y8 with
    | Sum.inr pv5 => ((some (Sum.inr pv5)).bind fun r => some (Sum.inr r)).bind fun r => some (Sum.inr r)
    | Sum.inl y8 =>
    some (Sum.inl ())
  else
   (bX false).bind fun y9 =>
   match y9 with
   | Sum.inr pv6 => ((some (Sum.inr pv6)).bind fun r => some (Sum.inr r)).bind fun r => some (Sum.inr r)
   | Sum.inl y9 =>
   some (Sum.inl ())).bind fun o => match o with
  | Sum.inr r => some r
  | Sum.inl _ =>
  (chk (x2 + 1)).bind fun z2 =>
  oA fuel a0 k z2
 else
  some (Sum.inl ())
def uJ (fuel : Nat) (a0 : ScopeProg) : Option (Scope_looker ⊕ Value) :=
 (if (a0.Free.length : Int) ≤ 12 then
  if (a0.Nodes.length : Int) ≤ 60 then
   (bX (decide ((a0.Defs.length : Int) ≤ 12))).bind fun y1 =>
   match y1 with
   | Sum.inr pv1 => (some (Sum.inr pv1)).bind fun r => some (Sum.inr r)
   | Sum.inl y1 =>
   some (Sum.inl ())
  else
   (bX false).bind fun y2 =>
   match y2 with
   | Sum.inr pv2 => (some (Sum.inr pv2)).bind fun r => some (Sum.inr r)
   | Sum.inl y2 =>
   some (Sum.inl ())
 else
  (bX false).bind fun y3 =>
  match y3 with
  | Sum.inr pv3 => (some (Sum.inr pv3)).bind fun r => some (Sum.inr r)
  | Sum.inl y3 =>
  some (Sum.inl ())).bind fun o => match o with
 | Sum.inr r => some r
 | Sum.inl _ =>
 (oA fuel a0 fuel 0).bind fun o => match o with
 | Sum.inr r => some r
 | Sum.inl _ =>
 (mk 0 (a0.Nodes.length : Int)).bind fun y10 =>
 (mk false (a0.Nodes.length : Int)).bind fun y11 =>
 (mk false (a0.Defs.length : Int)).bind fun y12 =>
 (fF fuel (⟨(⟨a0.Free, a0.Nodes, a0.Defs, a0.Main⟩ : ScopeProg), y10, y11, y12⟩ : Scope_looker) a0.Main (a0.Free.length : Int)).bind fun y13 =>
 match y13 with
 | Sum.inr pv7 => some (Sum.inr pv7)
 | Sum.inl y13 =>
 ((uG fuel y13.met false).bind fun y14 =>
 bif !y14 then
  (uG fuel y13.defs false).bind fun y15 =>
  (bX (!y15)).bind fun y16 =>
  match y16 with
  | Sum.inr pv8 => (some (Sum.inr pv8)).bind fun r => some (Sum.inr r)
  | Sum.inl y16 =>
  some (Sum.inl y13.defs)
 else
  (bX false).bind fun y17 =>
  match y17 with
  | Sum.inr pv9 => (some (Sum.inr pv9)).bind fun r => some (Sum.inr r)
  | Sum.inl y17 =>
  some (Sum.inl y13.defs)).bind fun o => match o with
 | Sum.inr r => some r
 | Sum.inl x3 =>
 some (Sum.inl (⟨(⟨y13.p.Free, y13.p.Nodes, y13.p.Defs, y13.p.Main⟩ : ScopeProg), y13.sizes, y13.met, x3⟩ : Scope_looker))
theorem zG (fuel : Nat)  (a0 : ScopeProg) (r : Scope_looker ⊕ Value) (H : uJ fuel a0 = some r) : FnE Tryz.prog 96 [fSt dG a0] [] r (fun r => aG jT r) (fun r => []) := by
 unfold uJ at H
 refine sM Tryz.func96 rfl Tryz.ntmps96 rfl (fun β => ?_)
 refine Z1 ?_
 refine aR trivial rfl rfl (cF rfl (has rfl) bO) (fun b1 => ?_)
 refine Z2 ?_
 revert H; refine bs fun o1 H Hr1 => ?_
 refine aT (ι := Unit) (fun i => o1 = Sum.inl ()) (fun i => [(1, fEq (.pointer (some ⟨b1, 0, none⟩)))]) (fun i => [aC b1 26 [fSl aN a0.Free, fSl aL a0.Nodes, fSl aJ a0.Defs, aA .i64 a0.Main]]) ?_ ?_
 refine Z6 ?_
 revert H; refine is (fun c1 H => ?_) fun c1 H => ?_
 refine Z6 ?_
 revert H; refine is (fun c2 H => ?_) fun c2 H => ?_
 refine Z5 ?_
 revert H; refine bs fun y1 h1 H => ?_
 rcases y1 with y1 | pv1 <;> dsimp only at H
 refine Tc (bJ _ _ h1).s ?_
 refine Z1 ?_
 exact Tm (()) (ij H)
 refine Tp (bJ _ _ h1).pan ?_
 refine Z1 ?_
 revert H; refine bs fun r1 H e1 => ?_
 cases e1; cases Hr1
 cases H
 exact cD
 refine Z5 ?_
 revert H; refine bs fun y2 h2 H => ?_
 rcases y2 with y2 | pv2 <;> dsimp only at H
 refine Tc (bJ _ _ h2).s ?_
 refine Z1 ?_
 exact Tm (()) (ij H)
 refine Tp (bJ _ _ h2).pan ?_
 refine Z1 ?_
 revert H; refine bs fun r2 H e2 => ?_
 cases e2; cases Hr1
 cases H
 exact cD
 refine Z11 ?_
 revert H; refine bs fun y3 h3 H => ?_
 rcases y3 with y3 | pv3 <;> dsimp only at H
 refine Tc (bJ _ _ h3).s ?_
 refine Z1 ?_
 exact Tm (()) (ij H)
 refine Tp (bJ _ _ h3).pan ?_
 refine Z1 ?_
 revert H; refine bs fun r3 H e3 => ?_
 cases e3; cases Hr1
 cases H
 exact cD
 clear H; intro i hi; subst o1; have H := Hr1; clear Hr1; try dsimp only at H
 try dsimp only
 revert H; refine bs fun o2 H Hr2 => ?_
 refine aT (ι := Unit) (fun i => o2 = Sum.inl ()) (fun i => [(1, fEq (.pointer (some ⟨b1, 0, none⟩)))]) (fun i => [aC b1 26 [fSl aN a0.Free, fSl aL a0.Nodes, fSl aJ a0.Defs, aA .i64 a0.Main]]) ?_ ?_
 refine Z7 ?_
 refine Tl (ι := Nat × Int) (fun i => oA fuel a0 i.1 i.2 = _) (fun i => i.1) (fun i => [(1, fEq (.pointer (some ⟨b1, 0, none⟩))), (24, fSl aN a0.Free), (25, aA .i64 (a0.Free.length : Int)), (26, aA .i64 i.2)]) (fun i => [aC b1 26 [fSl aN a0.Free, fSl aL a0.Nodes, fSl aJ a0.Defs, aA .i64 a0.Main]]) (fuel, 0) H ?_
 clear H; rintro ⟨k1, x2⟩ H
 replace H : oA fuel a0 k1 x2 = _ := H
 try dsimp only
 obtain _ | k1 := k1
 rw [oA] at H; cases H
 rw [oA] at H
 refine Z3 ?_
 refine aI ?_
 revert H; refine is (fun c3 H => ?_) fun c3 H => ?_
 refine Z3 ?_
 revert H; refine bs fun o3 H Hr3 => ?_
 refine aT (ι := Unit) (fun i => o3 = Sum.inl ()) (fun i => [(1, fEq (.pointer (some ⟨b1, 0, none⟩))), (24, fSl aN a0.Free), (25, aA .i64 (a0.Free.length : Int)), (26, aA .i64 x2)]) (fun i => [aC b1 26 [fSl aN a0.Free, fSl aL a0.Nodes, fSl aJ a0.Defs, aA .i64 a0.Main]]) ?_ ?_
 refine Z3 ?_
 revert H; refine bs fun y4 h4 H => ?_
 refine Z7 ?_
 revert H; refine bs fun y5 h5 H => ?_
 refine Tc (aGW _ _ _ h5) ?_
 refine Z1 ?_
 revert H; refine cs (fun c4 H => ?_) fun c4 H => ?_
 refine Z3 ?_
 revert H; refine is (fun c5 H => ?_) fun c5 H => ?_
 refine Z10 ?_
 revert H; refine bs fun y6 h6 H => ?_
 rcases y6 with y6 | pv4 <;> dsimp only at H
 refine Tc (bJ _ _ h6).s ?_
 refine Z3 ?_
 exact Tm (()) (ij H)
 refine Tp (bJ _ _ h6).pan ?_
 refine Z2 ?_
 revert H; refine bs fun r4 H e4 => ?_
 cases e4; cases Hr3
 refine Z3 ?_
 revert H; refine bs fun r5 H e5 => ?_
 cases e5; cases Hr2
 cases H
 exact cD
 refine Z3 ?_
 revert H; refine bs fun z1 h7 H => ?_
 refine Z1 ?_
 revert H; refine bs fun y7 h8 H => ?_
 refine Z3 ?_
 refine Yg c5 (o_lssS rfl hh hh) ?_
 refine Z2 ?_
 revert H; refine bs fun y8 h9 H => ?_
 rcases y8 with y8 | pv5 <;> dsimp only at H
 refine Tc (bJ _ _ h9).s ?_
 refine Z3 ?_
 exact Tm (()) (ij H)
 refine Tp (bJ _ _ h9).pan ?_
 refine Z2 ?_
 revert H; refine bs fun r6 H e6 => ?_
 cases e6; cases Hr3
 refine Z3 ?_
 revert H; refine bs fun r7 H e7 => ?_
 cases e7; cases Hr2
 cases H
 exact cD
 refine Z3 ?_
 refine dU (⟨_, _, _, _, rfl, rfl, rfl, nu⟩) rfl rfl ?_
 refine dU (⟨_, _, _, _, rfl, rfl, rfl, nu⟩) rfl rfl ?_
 refine dU (⟨_, _, _, _, rfl, rfl, rfl, nu⟩) rfl rfl ?_
 refine dU (⟨_, _, _, _, rfl, rfl, rfl, nu⟩) rfl rfl ?_
 refine dU (⟨_, _, _, _, rfl, rfl, rfl, nu⟩) rfl rfl ?_
 refine dU (⟨_, _, _, _, rfl, rfl, rfl, nu⟩) rfl rfl ?_
 refine dU (⟨_, _, _, _, rfl, rfl, rfl, nu⟩) rfl rfl ?_
 refine dU (⟨_, _, _, _, rfl, rfl, rfl, nu⟩) rfl rfl ?_
 refine Z2 ?_
 revert H; refine bs fun y9 h10 H => ?_
 rcases y9 with y9 | pv6 <;> dsimp only at H
 refine Tc (bJ _ _ h10).s ?_
 refine Z3 ?_
 exact Tm (()) (ij H)
 refine Tp (bJ _ _ h10).pan ?_
 refine Z2 ?_
 revert H; refine bs fun r8 H e8 => ?_
 cases e8; cases Hr3
 refine Z3 ?_
 revert H; refine bs fun r9 H e9 => ?_
 cases e9; cases Hr2
 cases H
 exact cD
 clear H; intro i hi; subst o3; have H := Hr3; clear Hr3; try dsimp only at H
 try dsimp only
 refine Z1 ?_
 revert H; refine bs fun z2 h11 H => ?_
 refine Z3 ?_
 exact Tm ((k1, z2)) ⟨H, ls⟩
 refine Z6 ?_
 exact Tm (()) (ij H)
 clear H; intro i hi; subst o2; have H := Hr2; clear Hr2; try dsimp only at H
 try dsimp only
 refine aI ?_
 revert H; refine bs fun y10 h12 H => ?_
 revert H; refine bs fun y11 h13 H => ?_
 revert H; refine bs fun y12 h14 H => ?_
 apply bG (ods := [_, _, _, _, _, _, _, _, _, _, _, _, _, _, _, _]) 16 4 5 bF rfl rfl rfl
 dsimp only [bA, List.take, List.replicate, List.append, List.drop]
 refine M4 ?_
 intros
 refine Mn 1 (fun b2 => .slice (some ⟨b2, 0, none⟩) y10.length y10.length) (fun b2 => aE (.slice (some ⟨b2, 0, none⟩) y10.length y10.length) 3 (aB .i64) y10) rfl (kU (t := (aB .i64)) (z := 0) rfl (has rfl) (et rfl) rfl sO rfl h12) (fun b2 u1 => ?_)
 refine M3 ?_
 intros
 refine Mn 2 (fun b3 => .slice (some ⟨b3, 0, none⟩) y11.length y11.length) (fun b3 => aE (.slice (some ⟨b3, 0, none⟩) y11.length y11.length) 4 cH y11) rfl (kU (t := cH) (z := false) rfl (has rfl) (et rfl) rfl aCd rfl h13) (fun b3 u2 => ?_)
 refine M3 ?_
 intros
 refine Mn 3 (fun b4 => .slice (some ⟨b4, 0, none⟩) y12.length y12.length) (fun b4 => aE (.slice (some ⟨b4, 0, none⟩) y12.length y12.length) 4 cH y12) rfl (kU (t := cH) (z := false) rfl (has rfl) (et rfl) rfl aCd rfl h14) (fun b4 u3 => ?_)
 refine N_y (od := od3 4 8 12 [] false (fun b2 _ b3 _ b4 _ => fB [fSl aN a0.Free, fSl aL a0.Nodes, fSl aJ a0.Defs, aA .i64 a0.Main, fEq (.slice (some ⟨b2, 0, none⟩) y10.length y10.length), fEq (.slice (some ⟨b3, 0, none⟩) y11.length y11.length), fEq (.slice (some ⟨b4, 0, none⟩) y12.length y12.length)]) (fun b2 _ b3 _ b4 _ => [])) (φ := fB [fSl aN a0.Free, fSl aL a0.Nodes, fSl aJ a0.Defs, aA .i64 a0.Main, fEq (.slice (some ⟨b2, 0, none⟩) y10.length y10.length), fEq (.slice (some ⟨b3, 0, none⟩) y11.length y11.length), fEq (.slice (some ⟨b4, 0, none⟩) y12.length y12.length)]) rfl (fun _ => rfl) trivial rfl (dS (ψs := [fSl aN a0.Free, fSl aL a0.Nodes, fSl aJ a0.Defs, aA .i64 a0.Main, fEq (.slice (some ⟨b2, 0, none⟩) y10.length y10.length), fEq (.slice (some ⟨b3, 0, none⟩) y11.length y11.length), fEq (.slice (some ⟨b4, 0, none⟩) y12.length y12.length)]) rfl aHS rfl (aX.cons (has rfl) bO (aX.cons (has rfl) (aS (aF trivial)) (aX.cons (has rfl) (aS (aF trivial)) (aX.cons (has rfl) (aS (aF trivial)) aX.nil)))) rfl) (fun _ => ?_)
 refine N_new (od := odN3 4 8 12 [4] true (fun b2 _ b3 _ b4 _ b5 _ => fEq (ptr b5)) (fun b2 _ b3 _ b4 _ b5 _ => [aC b5 151 [fSl aN a0.Free, fSl aL a0.Nodes, fSl aJ a0.Defs, aA .i64 a0.Main, fEq (.slice (some ⟨b2, 0, none⟩) y10.length y10.length), fEq (.slice (some ⟨b3, 0, none⟩) y11.length y11.length), fEq (.slice (some ⟨b4, 0, none⟩) y12.length y12.length)]])) (p := 4) (f := fun b5 => ptr b5) (τ := fun b5 => aC b5 151 [fSl aN a0.Free, fSl aL a0.Nodes, fSl aJ a0.Defs, aA .i64 a0.Main, fEq (.slice (some ⟨b2, 0, none⟩) y10.length y10.length), fEq (.slice (some ⟨b3, 0, none⟩) y11.length y11.length), fEq (.slice (some ⟨b4, 0, none⟩) y12.length y12.length)]) rfl (fun _ => rfl) (fun _ => rfl) trivial rfl rfl (cF rfl (has rfl) bO) (fun b5 u4 => ?_)
 refine D1 14 b5 _ (fun b5 _ => fEq (.pointer (some ⟨b5, 0, none⟩))) rfl (xK rfl hh) (fun _ => ?_)
 refine Z1 ?_
 generalize hv_v1 : (Value.slice (some ⟨b2, 0, none⟩) _ _) = v1; clear hv_v1
 refine aO 1 rfl (fun hc_v1 => ?_)
 generalize hv_v2 : (Value.slice (some ⟨b3, 0, none⟩) _ _) = v2; clear hv_v2
 refine aO 2 rfl (fun hc_v2 => ?_)
 generalize hv_v3 : (Value.slice (some ⟨b4, 0, none⟩) _ _) = v3; clear hv_v3
 refine aO 3 rfl (fun hc_v3 => ?_)
 refine Z8 ?_
 refine dD ?_
 refine dD ?_
 refine dD ?_
 refine bL ?_
 refine wB (x := (⟨(⟨a0.Free, a0.Nodes, a0.Defs, a0.Main⟩ : ScopeProg), y10, y11, y12⟩ : Scope_looker)) ?_
 revert H; refine bs fun y13 h15 H => ?_
 rcases y13 with y13 | pv7 <;> dsimp only at H
 refine Tc (aCD _ _ _ _ _ _ h15).s ?_
 refine wH (fun v4 v5 v6 => ?_)
 refine aO 1 rfl (fun hc_v4 => ?_)
 refine aO 2 rfl (fun hc_v5 => ?_)
 refine aO 3 rfl (fun hc_v6 => ?_)
 refine Z1 ?_
 revert H; refine bs fun o4 H Hr4 => ?_
 refine aT (ι := List Bool) (fun i => o4 = Sum.inl i) (fun i => [(5, fEq (.pointer (some ⟨b5, 0, none⟩)))]) (fun i => [aC b5 151 [fSl aN y13.p.Free, fSl aL y13.p.Nodes, fSl aJ y13.p.Defs, aA .i64 y13.p.Main, fEq v4, fSl cH y13.met, fSl cH i], aC b1 26 [fSl aN a0.Free, fSl aL a0.Nodes, fSl aJ a0.Defs, aA .i64 a0.Main], aE v4 3 (aB .i64) y13.sizes]) ?_ ?_
 refine Z5 ?_
 refine eB ?_
 refine cW (φ := fSl cH y13.met) (v := v5) [74] cR (by intro s hs; simp only [List.mem_cons, List.not_mem_nil, or_false] at hs; rcases hs with rfl <;> rfl) ?_
 refine gX (φs' := [fSl aN y13.p.Free, fSl aL y13.p.Nodes, fSl aJ y13.p.Defs, aA .i64 y13.p.Main, fEq v4, fSl cH y13.met, fEq v6]) (i := 5) rfl rfl ?_
 refine cV ?_
 revert H; refine bs fun y14 h16 H => ?_
 refine Tc (aFe _ _ _ _ h16) ?_
 refine Z2 ?_
 revert H; refine cs (fun c6 H => ?_) fun c6 H => ?_
 refine Z4 ?_
 refine eB ?_
 refine cW (φ := fSl cH y13.defs) (v := v6) [81] cR (by intro s hs; simp only [List.mem_cons, List.not_mem_nil, or_false] at hs; rcases hs with rfl <;> rfl) ?_
 refine gX (φs' := [fSl aN y13.p.Free, fSl aL y13.p.Nodes, fSl aJ y13.p.Defs, aA .i64 y13.p.Main, fEq v4, fSl cH y13.met, fSl cH y13.defs]) (i := 6) rfl rfl ?_
 refine cV ?_
 revert H; refine bs fun y15 h17 H => ?_
 refine Tc (aFe _ _ _ _ h17) ?_
 refine Z2 ?_
 revert H; refine bs fun y16 h18 H => ?_
 rcases y16 with y16 | pv8 <;> dsimp only at H
 refine Tc (bJ _ _ h18).s ?_
 refine Z1 ?_
 refine aH [0, 2, 1] (by decide) ?_
 exact Tm (y13.defs) (ij H)
 refine Tp (bJ _ _ h18).pan ?_
 refine Z1 ?_
 revert H; refine bs fun r10 H e10 => ?_
 cases e10; cases Hr4
 cases H
 exact cD
 refine Z7 ?_
 revert H; refine bs fun y17 h19 H => ?_
 rcases y17 with y17 | pv9 <;> dsimp only at H
 refine Tc (bJ _ _ h19).s ?_
 refine Z1 ?_
 refine eB ?_
 refine cW (φ := fSl cH y13.defs) (v := v6) [] cR (fun _ h => nomatch h) ?_
 refine gX (φs' := [fSl aN y13.p.Free, fSl aL y13.p.Nodes, fSl aJ y13.p.Defs, aA .i64 y13.p.Main, fEq v4, fSl cH y13.met, fSl cH y13.defs]) (i := 6) rfl rfl ?_
 refine cV ?_
 refine aH [0, 2, 1] (by decide) ?_
 exact Tm (y13.defs) (ij H)
 refine Tp (bJ _ _ h19).pan ?_
 refine Z1 ?_
 revert H; refine bs fun r11 H e11 => ?_
 cases e11; cases Hr4
 cases H
 exact cD
 clear H; intro x3 hi; subst o4; have H := Hr4; clear Hr4; try dsimp only at H
 try dsimp only
 refine Z5 ?_
 refine eB ?_
 refine cW (φ := fSl (aB .i64) y13.sizes) (v := v4) [] cR (fun _ h => nomatch h) ?_
 refine gX (φs' := [fSl aN y13.p.Free, fSl aL y13.p.Nodes, fSl aJ y13.p.Defs, aA .i64 y13.p.Main, fSl (aB .i64) y13.sizes, fSl cH y13.met, fSl cH x3]) (i := 4) rfl rfl ?_
 refine cV ?_
 refine cW (φ := aG jT (⟨(⟨y13.p.Free, y13.p.Nodes, y13.p.Defs, y13.p.Main⟩ : ScopeProg), y13.sizes, y13.met, x3⟩ : Scope_looker)) (v := ptr b5) [5, 86, 2] (gU aP.rfl) (by intro s hs; simp only [List.mem_cons, List.not_mem_nil, or_false] at hs; rcases hs with rfl | rfl | rfl <;> rfl) ?_
 refine cV ?_
 cases H
 refine qK ?_
 refine aH [] (by decide) ?_
 exact To
 refine Tp (aCD _ _ _ _ _ _ h15).pan ?_
 refine Z1 ?_
 cases H
 exact cD
 exact fk
 kernel_rfl
def yO (fuel : Nat) (a0 : ScopeProg) (a1 : Scope_looker → Option Bool) : Option (Bool × Int) :=
 (uJ fuel (⟨a0.Free, a0.Nodes, a0.Defs, a0.Main⟩ : ScopeProg)).bind fun y1 =>
 match y1 with
 | Sum.inr pv1 => (unI 167 pv1).bind fun e1 => some (false, e1)
 | Sum.inl y1 =>
 (a1 y1).bind fun y2 =>
 some (y2, 0)
theorem aHa (fuel : Nat)  (a0 : ScopeProg) (a1 : Scope_looker → Option Bool) (r : Bool × Int) (H : yO fuel a0 a1 = some r) : FnS Tryz.prog 76 [fSt dG a0, fFn Tryz.prog (fun (x : Scope_looker) => [aG jT x]) (fun (r : Bool) => aK r) a1] [] (dC [aK r.1, aA .i64 r.2]) (fun _ => []) := by
 unfold yO at H
 refine uV Tryz.func76 rfl Tryz.ntmps76 rfl (fun β => ?_)
 refine Z1 ?_
 refine aR trivial rfl rfl (cF rfl (has rfl) bO) (fun b1 => ?_)
 refine Z1 ?_
 refine aR trivial rfl rfl (cB rfl aCZ rfl) (fun b2 => ?_)
 refine Z2 ?_
 refine aEY trivial rfl rfl (iF.cons (has rfl) iF.nil) ?_
 refine Z4 ?_
 revert H; refine bs fun y1 h1 H => ?_
 rcases y1 with y1 | pv1 <;> dsimp only at H
 refine Tc (zG _ _ _ h1).s ?_
 revert H; refine bs fun y2 h2 H => ?_
 refine aAz y1 trivial rfl rfl rfl (has rfl) (aD.cons (has rfl) aD.nil) h2 ?_
 refine Z1 ?_
 refine cY (φs' := [aA .i64 0]) trivial rfl rfl (has rfl) (has rfl) (aF trivial) (sz rfl) rfl rfl ?_
 refine Z2 ?_
 cases H
 refine aH [0] (by decide) ?_
 exact aEx (aAv (u := .returning) (by simp) rfl (bU rfl) rfl (sc rfl) (cb rfl) (aEs b2 0) rfl rfl)
 refine Tp (zG _ _ _ h1).pan ?_
 refine Z1 ?_
 have H0 := H; clear H; obtain ⟨e1, h3, H⟩ := bind_some H0; clear H0; have hv_e1 := aDV h3; subst hv_e1
 cases H
 refine aH [0] (by decide) ?_
 exact aEr (aAv (u := .panicking [{ v := .iface 167 (.agg #[.int .i64 e1]), recovered := false }]) (by simp) rfl (bU rfl) rfl (sc rfl) (cb rfl) (aCC b2 0 e1) rfl rfl)
def aAg (a0 : Scope_looker) : Option (Bool) :=
 some true
theorem aGY  (a0 : Scope_looker) (r : Bool) (H : aAg a0 = some r) : FnS Tryz.prog 77 [aG jT a0] [] (aK r) (fun _ => []) := by
 unfold aAg at H
 refine bK Tryz.func77 rfl Tryz.ntmps77 rfl (fun β => ?_)
 refine Z7 ?_
 cases H
 exact To
def tB (fuel : Nat) (a0 : ScopeProg) : Option (Int) :=
 (yO fuel (⟨a0.Free, a0.Nodes, a0.Defs, a0.Main⟩ : ScopeProg) (fun x => aAg x)).bind fun y1 =>
 some y1.2
theorem aB6 (fuel : Nat)  (a0 : ScopeProg) (r : Int) (H : tB fuel a0 = some r) : FnS Tryz.prog 35 [fSt dG a0] [] (aA .i64 r) (fun _ => []) := by
 unfold tB at H
 refine bK Tryz.func35 rfl Tryz.ntmps35 rfl (fun β => ?_)
 refine Z1 ?_
 refine aR trivial rfl rfl (cF rfl (has rfl) bO) (fun b1 => ?_)
 refine Z4 ?_
 revert H; refine bs fun y1 h1 H => ?_
 refine iM trivial rfl rfl rfl (has rfl) (aD.cons (has rfl) (aD.cons (dR rfl (rR (cb rfl) (fun x r hx => aGY x r hx))) aD.nil)) rfl (cb rfl) (aHa fuel (⟨a0.Free, a0.Nodes, a0.Defs, a0.Main⟩ : ScopeProg) (fun x => aAg x) y1 h1) rfl ?_
 refine Z11 ?_
 cases H
 refine aH [] (by decide) ?_
 exact To
def aAf (fuel : Nat) (a0 : ScopeProg) (a1 : Scope_looker → Option (List Int)) : Option ((List Int) × Int) :=
 (uJ fuel (⟨a0.Free, a0.Nodes, a0.Defs, a0.Main⟩ : ScopeProg)).bind fun y1 =>
 match y1 with
 | Sum.inr pv1 => (unI 167 pv1).bind fun e1 => some ([], e1)
 | Sum.inl y1 =>
 (a1 y1).bind fun y2 =>
 some (y2, 0)
theorem aFU (fuel : Nat)  (a0 : ScopeProg) (a1 : Scope_looker → Option (List Int)) (r : (List Int) × Int) (H : aAf fuel a0 a1 = some r) : FnS Tryz.prog 112 [fSt dG a0, fFn Tryz.prog (fun (x : Scope_looker) => [aG jT x]) (fun (r : List Int) => fSl (aB .i64) r) a1] [] (dC [fSl (aB .i64) r.1, aA .i64 r.2]) (fun _ => []) := by
 unfold aAf at H
 refine uV Tryz.func112 rfl Tryz.ntmps112 rfl (fun β => ?_)
 refine Z1 ?_
 refine aR trivial rfl rfl (cF rfl (has rfl) bO) (fun b1 => ?_)
 refine Z1 ?_
 refine aR trivial rfl rfl (cB rfl aCZ rfl) (fun b2 => ?_)
 refine Z2 ?_
 refine aEY trivial rfl rfl (iF.cons (has rfl) iF.nil) ?_
 refine Z4 ?_
 revert H; refine bs fun y1 h1 H => ?_
 rcases y1 with y1 | pv1 <;> dsimp only at H
 refine Tc (zG _ _ _ h1).s ?_
 revert H; refine bs fun y2 h2 H => ?_
 refine aAz y1 trivial rfl rfl rfl (has rfl) (aD.cons (has rfl) aD.nil) h2 ?_
 refine Z1 ?_
 refine cY (φs' := [aA .i64 0]) trivial rfl rfl (has rfl) (has rfl) (aF trivial) (sz rfl) rfl rfl ?_
 refine Z2 ?_
 cases H
 refine aH [0] (by decide) ?_
 exact aEx (aAv (u := .returning) (by simp) rfl (bU rfl) rfl (sc rfl) (cb rfl) (aEs b2 0) rfl rfl)
 refine Tp (zG _ _ _ h1).pan ?_
 refine Z1 ?_
 have H0 := H; clear H; obtain ⟨e1, h3, H⟩ := bind_some H0; clear H0; have hv_e1 := aDV h3; subst hv_e1
 cases H
 refine aH [0] (by decide) ?_
 exact aEr (aAv (u := .panicking [{ v := .iface 167 (.agg #[.int .i64 e1]), recovered := false }]) (by simp) rfl (jD rfl eF) rfl (sc rfl) (cb rfl) (aCC b2 0 e1) rfl rfl)
def nT (a0 : Scope_looker) (w0 : ScopeProg) (w1 : Scope_looker × Int → Option Int) : Nat → (List Int) → Int → Option (List Int)
| 0, _, _ => none
| k + 1, x4, x5 =>
 if x5 < (w0.Nodes.length : Int) then
  (w1 (a0, x5)).bind fun y1 =>
  (eA (x4 ++ [y1])).bind fun z1 =>
  (chk (x5 + 1)).bind fun z2 =>
  nT a0 w0 w1 k z1 z2
 else
  some x4
def wS (fuel : Nat) (a0 : Scope_looker) (w0 : ScopeProg) (w1 : Scope_looker × Int → Option Int) : Option (List Int) :=
 (nT a0 w0 w1 fuel [] 0).bind fun x1 =>
 some x1
theorem aG2 (fuel : Nat)  (a0 : Scope_looker) (w0 : ScopeProg) (w1 : Scope_looker × Int → Option Int) (r : List Int) (H : wS fuel a0 w0 w1 = some r) : FnS Tryz.prog 113 [aG jT a0, aG dG w0, aG (tFn Tryz.prog (fun (x : Scope_looker × Int) => [aG jT x.1, aA .i64 x.2]) (fun (r : Int) => aA .i64 r)) w1] [] (fSl (aB .i64) r) (fun _ => []) := by
 unfold wS at H
 refine bK Tryz.func113 rfl Tryz.ntmps113 rfl (fun β => ?_)
 refine Z6 ?_
 revert H; refine bs fun o1 H Hr1 => ?_
 refine aT (ι := List Int × Value) (fun i => o1 = i.1) (fun i => [(5, fEq i.2)]) (fun i => [aE i.2 3 (aB .i64) i.1]) ?_ ?_
 refine Z7 ?_
 refine lS (aB .i64) 3 ?_
 refine Tl (ι := Nat × List Int × Int × Value) (fun i => nT a0 w0 w1 i.1 i.2.1 i.2.2.1 = _) (fun i => i.1) (fun i => [(0, aG jT a0), (2, aG (tFn Tryz.prog (fun (x : Scope_looker × Int) => [aG jT x.1, aA .i64 x.2]) (fun (r : Int) => aA .i64 r)) w1), (5, fEq i.2.2.2), (9, aA .i64 (w0.Nodes.length : Int)), (10, aA .i64 i.2.2.1)]) (fun i => [aE i.2.2.2 3 (aB .i64) i.2.1]) (fuel, [], 0, (.slice none 0 0)) H ?_
 clear H; rintro ⟨k1, x4, x5, v3⟩ H
 replace H : nT a0 w0 w1 k1 x4 x5 = _ := H
 try dsimp only
 obtain _ | k1 := k1
 rw [nT] at H; cases H
 rw [nT] at H
 refine aO 0 rfl (fun hc_v3 => ?_)
 refine Z3 ?_
 refine aI ?_
 revert H; refine is (fun c1 H => ?_) fun c1 H => ?_
 refine Z3 ?_
 refine aI ?_
 refine Z10 ?_
 revert H; refine bs fun y1 h1 H => ?_
 refine aAz (a0, x5) trivial rfl rfl rfl (has rfl) (aD.cons (has rfl) (aD.cons (has rfl) aD.nil)) h1 ?_
 refine aR trivial rfl rfl (cC (t := (aB .i64)) (xs := [y1]) rfl (et rfl) (aQ.cons rfl (has rfl) (aS (aF trivial)) aQ.nil) rfl rfl rfl) (fun b1 => ?_)
 generalize hv_v4 : (Value.slice (some ⟨b1, 0, none⟩) _ _) = v4; clear hv_v4
 refine aO 0 rfl (fun hc_v4 => ?_)
 revert H; refine bs fun z1 h2 H => ?_
 refine lX trivial rfl rfl rfl (has rfl) (has rfl) (et rfl) rfl h2 (fun v5 => ?_)
 refine aO 0 rfl (fun hc_v5 => ?_)
 refine Z5 ?_
 revert H; refine bs fun z2 h3 H => ?_
 refine Z3 ?_
 exact Tm ((k1, z1, z2, v5)) ⟨H, ls⟩
 refine Z6 ?_
 exact Tm ((x4, v3)) (ij H)
 clear H; intro i hi; obtain ⟨x1, v1⟩ := i; subst o1; have H := Hr1; clear Hr1; try dsimp only at H
 try dsimp only
 refine aO 0 rfl (fun hc_v1 => ?_)
 refine Z5 ?_
 refine cW (φ := fSl (aB .i64) x1) (v := v1) [5, 21, 4] cR (by intro s hs; simp only [List.mem_cons, List.not_mem_nil, or_false] at hs; rcases hs with rfl | rfl | rfl <;> rfl) ?_
 refine cV ?_
 cases H
 exact To
def yC (fuel : Nat) (a0 : ScopeProg) (a1 : Scope_looker × Int → Option Int) : Option ((List Int) × Int) :=
 (aAf fuel (⟨a0.Free, a0.Nodes, a0.Defs, a0.Main⟩ : ScopeProg) (fun x => wS fuel x (⟨a0.Free, a0.Nodes, a0.Defs, a0.Main⟩ : ScopeProg) a1)).bind fun y1 =>
 some (y1.1, y1.2)
theorem aFq (fuel : Nat)  (a0 : ScopeProg) (a1 : Scope_looker × Int → Option Int) (r : (List Int) × Int) (H : yC fuel a0 a1 = some r) : FnS Tryz.prog 97 [fSt dG a0, fFn Tryz.prog (fun (x : Scope_looker × Int) => [aG jT x.1, aA .i64 x.2]) (fun (r : Int) => aA .i64 r) a1] [] (dC [fSl (aB .i64) r.1, aA .i64 r.2]) (fun _ => []) := by
 unfold yC at H
 refine bK Tryz.func97 rfl Tryz.ntmps97 rfl (fun β => ?_)
 refine Z1 ?_
 refine aR trivial rfl rfl (cF rfl (has rfl) bO) (fun b1 => ?_)
 refine aR trivial rfl rfl (cF rfl (has rfl) (aS (aA7))) (fun b2 => ?_)
 refine Z5 ?_
 refine cA ?_
 refine cW (φ := aG dG (⟨a0.Free, a0.Nodes, a0.Defs, a0.Main⟩ : ScopeProg)) (v := ptr b1) [2] (gU aP.rfl) (by intro s hs; simp only [List.mem_cons, List.not_mem_nil, or_false] at hs; rcases hs with rfl <;> rfl) ?_
 refine cV ?_
 refine cW (φ := aG (tFn Tryz.prog (fun (x : Scope_looker × Int) => [aG jT x.1, aA .i64 x.2]) (fun (r : Int) => aA .i64 r)) a1) (v := ptr b2) [3] (gU aP.rfl) (by intro s hs; simp only [List.mem_cons, List.not_mem_nil, or_false] at hs; rcases hs with rfl <;> rfl) ?_
 refine cV ?_
 refine Yy (tW rfl (aD.cons hh (aD.cons hh aD.nil))) ?_
 revert H; refine bs fun y1 h1 H => ?_
 refine iM trivial rfl rfl rfl (has rfl) (aD.cons (has rfl) (aD.cons (dR rfl (ent_fn (cb rfl) (fun x r hx => aG2 fuel x (⟨a0.Free, a0.Nodes, a0.Defs, a0.Main⟩ : ScopeProg) a1 r hx))) aD.nil)) rfl (cb rfl) (aFU fuel (⟨a0.Free, a0.Nodes, a0.Defs, a0.Main⟩ : ScopeProg) (fun x => wS fuel x (⟨a0.Free, a0.Nodes, a0.Defs, a0.Main⟩ : ScopeProg) a1) y1 h1) rfl ?_
 refine Z6 ?_
 cases H
 exact gF rfl (bU rfl) (bU rfl) rfl
def sL (a0 : Scope_looker) (a1 : Int) : Option (Int) :=
 (idx a0.sizes a1).bind fun y1 =>
 some y1
theorem aGQ  (a0 : Scope_looker) (a1 : Int) (r : Int) (H : sL a0 a1 = some r) : FnS Tryz.prog 98 [aG jT a0, aA .i64 a1] [] (aA .i64 r) (fun _ => []) := by
 unfold sL at H
 refine bK Tryz.func98 rfl Tryz.ntmps98 rfl (fun β => ?_)
 refine Z9 ?_
 revert H; refine bs fun y1 h1 H => ?_
 refine Z5 ?_
 cases H
 exact To
def uU (fuel : Nat) (a0 : ScopeProg) : Option ((List Int) × Int) :=
 (yC fuel (⟨a0.Free, a0.Nodes, a0.Defs, a0.Main⟩ : ScopeProg) (fun x => sL x.1 x.2)).bind fun y1 =>
 some (y1.1, y1.2)
theorem aH2 (fuel : Nat)  (a0 : ScopeProg) (r : (List Int) × Int) (H : uU fuel a0 = some r) : FnS Tryz.prog 78 [fSt dG a0] [] (dC [fSl (aB .i64) r.1, aA .i64 r.2]) (fun _ => []) := by
 unfold uU at H
 refine bK Tryz.func78 rfl Tryz.ntmps78 rfl (fun β => ?_)
 refine Z1 ?_
 refine aR trivial rfl rfl (cF rfl (has rfl) bO) (fun b1 => ?_)
 refine Z5 ?_
 revert H; refine bs fun y1 h1 H => ?_
 refine iM trivial rfl rfl rfl (has rfl) (aD.cons (has rfl) (aD.cons (dR rfl (rR (cb rfl) (fun x r hx => aGQ x.1 x.2 r hx))) aD.nil)) rfl (cb rfl) (aFq fuel (⟨a0.Free, a0.Nodes, a0.Defs, a0.Main⟩ : ScopeProg) (fun x => sL x.1 x.2) y1 h1) rfl ?_
 refine Z6 ?_
 cases H
 refine aH [] (by decide) ?_
 exact gF rfl (bU rfl) (bU rfl) rfl
def oS {σ : Type} (Y : Int → σ → Option σ) (y1 : ScopeDef) : Nat → Int → σ → Option (σ)
| 0, _, _ => none
| k + 1, x3, x4 =>
 if x3 < (y1.Spots.length : Int) then
  (idx y1.Spots x3).bind fun y2 =>
  (Y y2.Node x4).bind fun y3 =>
  (chk (x3 + 1)).bind fun z1 =>
  oS Y y1 k z1 y3
 else
  some x4
def sK {σ : Type} (fuel : Nat) (Y : Int → σ → Option σ) (s0 : σ) (w0 : Usage_text) (w1 : Int) : Option (σ) :=
 (idx w0.ScopeProg.Defs w1).bind fun y1 =>
 oS Y y1 fuel 0 s0
theorem aAV (fuel : Nat) {σ : Type} (J : σ → Tk) (Y : Int → σ → Option σ) (s0 : σ) (w0 : Usage_text) (w1 : Int) (r : σ) (H : sK fuel Y s0 w0 w1 = some r) : FnS Tryz.prog 101 [jC Tryz.prog (fun (x : Int) => [aA .i64 x]) Y J, aG (fR eG) w0, aG (aB .i64) w1] [J s0] (dC []) (fun _ => [J r]) := by
 unfold sK at H
 refine bK Tryz.func101 rfl Tryz.ntmps101 rfl (fun β => ?_)
 refine aI ?_
 revert H; refine bs fun y1 h1 H => ?_
 apply bG (ods := [_, _, _, _, _, _, _, _, _, _, _]) 11 0 1 bF rfl rfl rfl
 dsimp only [bA, List.take, List.replicate, List.append, List.drop]
 refine M8 ?_
 intros
 refine M3 ?_
 intros
 refine Z3 ?_
 refine Tl (ι := Nat × Int × σ) (fun i => oS Y y1 i.1 i.2.1 i.2.2 = _) (fun i => i.1) (fun i => [(0, jC Tryz.prog (fun (x : Int) => [aA .i64 x]) Y J), (14, fSl bI y1.Spots), (15, aA .i64 (y1.Spots.length : Int)), (16, aA .i64 i.2.1)]) (fun i => [J i.2.2]) (fuel, 0, s0) H ?_
 clear H; rintro ⟨k1, x3, x4⟩ H
 replace H : oS Y y1 k1 x3 x4 = _ := H
 try dsimp only
 obtain _ | k1 := k1
 rw [oS] at H; cases H
 rw [oS] at H
 refine Z3 ?_
 refine aI ?_
 revert H; refine is (fun c1 H => ?_) fun c1 H => ?_
 refine Z3 ?_
 refine aI ?_
 refine Z2 ?_
 revert H; refine bs fun y2 h2 H => ?_
 refine Z2 ?_
 refine aR trivial rfl rfl (cB rfl aBq rfl) (fun b1 => ?_)
 refine dB (φs' := [aA .i64 y2.In, aA .i64 y2.Node]) trivial rfl rfl (has rfl) (has rfl) (aM (aF trivial) (aM (aF trivial) bR)) (sz rfl) rfl rfl rfl ?_
 refine Z5 ?_
 refine cA ?_
 revert H; refine bs fun y3 h3 H => ?_
 refine xU y2.Node trivial rfl rfl rfl (has rfl) (aD.cons (has rfl) aD.nil) h3 ?_
 refine Z7 ?_
 revert H; refine bs fun z1 h4 H => ?_
 refine Z3 ?_
 refine aH [0] (by decide) ?_
 exact Tm ((k1, z1, y3)) ⟨H, ls⟩
 refine Z5 ?_
 cases H
 exact eX (.inr rfl) rfl rfl
 exact fk
 kernel_rfl
def qX (a0 : Usage_text) (a1 : Int) : Option (Usage_text × Int) :=
 some (a0, a1)
theorem aA9  (a0 : Usage_text) (a1 : Int) (r : Usage_text × Int) (H : qX a0 a1 = some r) : FnS Tryz.prog 83 [aG eG a0, aA .i64 a1] [] (dK 101 [aG (fR eG) r.1, aG (aB .i64) r.2]) (fun _ => []) := by
 unfold qX at H
 refine bK Tryz.func83 rfl Tryz.ntmps83 rfl (fun β => ?_)
 refine Z1 ?_
 refine aR trivial rfl rfl (cF rfl (has rfl) (aS (vI))) (fun b1 => ?_)
 refine aR trivial rfl rfl (cF rfl (has rfl) (aS (aF trivial))) (fun b2 => ?_)
 refine Z3 ?_
 refine cA ?_
 refine cW (φ := aG (fR eG) a0) (v := ptr b1) [2] (gU aP.rfl) (by intro s hs; simp only [List.mem_cons, List.not_mem_nil, or_false] at hs; rcases hs with rfl <;> rfl) ?_
 refine cV ?_
 refine cW (φ := aG (aB .i64) a1) (v := ptr b2) [3] (gU aP.rfl) (by intro s hs; simp only [List.mem_cons, List.not_mem_nil, or_false] at hs; rcases hs with rfl <;> rfl) ?_
 refine cV ?_
 refine Yy (tW rfl (aD.cons hh (aD.cons hh aD.nil))) ?_
 refine Z3 ?_
 cases H
 exact To
def nO {σ : Type} (Y : Int → σ → Option σ) (y1 : ScopeNode) : Nat → Int → σ → Option (σ)
| 0, _, _ => none
| k + 1, x4, x5 =>
 if x4 < (y1.Kids.length : Int) then
  (idx y1.Kids x4).bind fun y2 =>
  (Y y2 x5).bind fun y3 =>
  (chk (x4 + 1)).bind fun z1 =>
  nO Y y1 k z1 y3
 else
  some x5
def vQ {σ : Type} (Y : Int → σ → Option σ) (x6 : Int) (x8 : σ) : Option (σ) :=
 (Y x6 x8).bind fun y6 =>
 some y6
def pD {σ : Type} (Y : Int → σ → Option σ) (y7 : ScopeDef) : Nat → Int → σ → Option (σ)
| 0, _, _ => none
| k + 1, x12, x13 =>
 if x12 < (y7.Rules.length : Int) then
  (idx y7.Rules x12).bind fun y8 =>
  (Y y8.Node x13).bind fun y9 =>
  (chk (x12 + 1)).bind fun z2 =>
  pD Y y7 k z2 y9
 else
  some x13
def xA {σ : Type} (fuel : Nat) (Y : Int → σ → Option σ) (s0 : σ) (w0 : Usage_text) (w1 : Int) : Option (σ) :=
 (idx w0.ScopeProg.Nodes w1).bind fun y1 =>
 (nO Y y1 fuel 0 s0).bind fun x1 =>
 if y1.Op ≠ 4 then
  some x1
 else
  (qX w0 y1.N).bind fun y4 =>
  (sK fuel (fun (x : Int) (t : σ) => vQ Y x t) x1 y4.1 y4.2).bind fun y5 =>
  (idx w0.ScopeProg.Defs y1.N).bind fun y7 =>
  pD Y y7 fuel 0 y5
theorem aGJ (fuel : Nat) {σ : Type} (J : σ → Tk) (Y : Int → σ → Option σ) (s0 : σ) (w0 : Usage_text) (w1 : Int) (r : σ) (H : xA fuel Y s0 w0 w1 = some r) : FnS Tryz.prog 114 [jC Tryz.prog (fun (x : Int) => [aA .i64 x]) Y J, aG (fR eG) w0, aG (aB .i64) w1] [J s0] (dC []) (fun _ => [J r]) := by
 unfold xA at H
 refine uV Tryz.func114 rfl Tryz.ntmps114 rfl (fun β => ?_)
 refine Z1 ?_
 refine aR trivial rfl rfl (cF rfl (has rfl) (aS (aHG))) (fun b1 => ?_)
 refine Z1 ?_
 refine aI ?_
 revert H; refine bs fun y1 h1 H => ?_
 apply bG (ods := [_, _, _, _, _, _, _, _, _, _]) 10 1 3 bF rfl rfl rfl
 dsimp only [bA, List.take, List.replicate, List.append, List.drop]
 refine M8 ?_
 intros
 refine Mn 2 (fun b2 => ptr b2) (fun b2 => aC b2 51 [aA .i64 0, aA .i64 0, fEq (.slice none 0 0), fEq (.slice none 0 0)]) rfl (cB rfl iS rfl) (fun b2 u1 => ?_)
 refine pB (od := od1 8 [2] true (fun b2 _ => fAny) (fun b2 _ => [aC b2 51 [aA .i64 y1.Op, aA .i64 y1.N, fSl aW y1.Args, fSl (aB .i64) y1.Kids]])) (p := 2) (φs' := [aA .i64 y1.Op, aA .i64 y1.N, fSl aW y1.Args, fSl (aB .i64) y1.Kids]) rfl (fun _ => rfl) (fun _ => rfl) trivial rfl rfl rfl (has rfl) (has rfl) (aM (aF trivial) (aM (aF trivial) (aM (bB) (aM (bB) bR)))) (sz rfl) rfl rfl rfl (fun _ => ?_)
 refine Z2 ?_
 revert H; refine bs fun o1 H Hr1 => ?_
 refine aT (ι := σ) (fun i => o1 = i) (fun i => [(1, aG (fR eG) w0), (3, fEq (.pointer (some ⟨b1, 0, none⟩))), (4, fEq (.pointer (some ⟨b2, 0, none⟩)))]) (fun i => [aC b1 158 [jC Tryz.prog (fun (x : Int) => [aA .i64 x]) Y J], aC b2 51 [aA .i64 y1.Op, aA .i64 y1.N, fSl aW y1.Args, fSl (aB .i64) y1.Kids], J i]) ?_ ?_
 refine Z7 ?_
 refine aH [0, 2, 1] (by decide) ?_
 refine Tl (ι := Nat × Int × σ) (fun i => nO Y y1 i.1 i.2.1 i.2.2 = _) (fun i => i.1) (fun i => [(1, aG (fR eG) w0), (3, fEq (.pointer (some ⟨b1, 0, none⟩))), (4, fEq (.pointer (some ⟨b2, 0, none⟩))), (19, fSl (aB .i64) y1.Kids), (20, aA .i64 (y1.Kids.length : Int)), (21, aA .i64 i.2.1)]) (fun i => [aC b1 158 [jC Tryz.prog (fun (x : Int) => [aA .i64 x]) Y J], aC b2 51 [aA .i64 y1.Op, aA .i64 y1.N, fSl aW y1.Args, fSl (aB .i64) y1.Kids], J i.2.2]) (fuel, 0, s0) H ?_
 clear H; rintro ⟨k1, x4, x5⟩ H
 replace H : nO Y y1 k1 x4 x5 = _ := H
 try dsimp only
 obtain _ | k1 := k1
 rw [nO] at H; cases H
 rw [nO] at H
 refine Z3 ?_
 refine aI ?_
 revert H; refine is (fun c1 H => ?_) fun c1 H => ?_
 refine Z3 ?_
 refine aI ?_
 refine Z2 ?_
 revert H; refine bs fun y2 h2 H => ?_
 refine Z7 ?_
 refine eB ?_
 revert H; refine bs fun y3 h3 H => ?_
 refine xU y2 trivial rfl rfl rfl (has rfl) (aD.cons (has rfl) aD.nil) h3 ?_
 refine Z7 ?_
 revert H; refine bs fun z1 h4 H => ?_
 refine Z3 ?_
 refine aH [1, 2, 0] (by decide) ?_
 exact Tm ((k1, z1, y3)) ⟨H, ls⟩
 refine Z6 ?_
 exact Tm (x5) (ij H)
 clear H; intro x1 hi; subst o1; have H := Hr1; clear Hr1; try dsimp only at H
 try dsimp only
 refine aI ?_
 refine Z5 ?_
 revert H; refine is (fun c2 H => ?_) fun c2 H => ?_
 refine Z2 ?_
 cases H
 refine aH [2] (by decide) ?_
 exact aCb [] (.inl rfl) rfl rfl rfl
 refine Z3 ?_
 refine aI ?_
 refine Z4 ?_
 revert H; refine bs fun y4 h5 H => ?_
 refine Tc (aA9 _ _ _ h5) ?_
 refine Z2 ?_
 refine T_sub [(1, aG (fR eG) w0), (3, fEq (.pointer (some ⟨b1, 0, none⟩))), (4, fEq (.pointer (some ⟨b2, 0, none⟩))), (30, fEq (.pointer (some ⟨b2, 0, none⟩))), (31, aA .i64 y1.Op), (32, aK (decide (y1.Op ≠ 4))), (33, aG eG w0), (34, fEq (.pointer (some ⟨b2, 1, none⟩))), (35, aA .i64 y1.N), (36, dK 101 [aG (fR eG) y4.1, aG (aB .i64) y4.2])] (Sc (Sc (Sc (Sc (Sc (Sc (Sc (Sc (Sc (Sc fZ.nil)))))))))) ?_
 revert H; refine bs fun y5 h6 H => ?_
 refine xR (s := x1) (s' := y5) (fun (x : Int) => [aA .i64 x]) (fun (x : Int) (t : σ) => vQ Y x t) (fun (t : σ) => [aC b1 158 [jC Tryz.prog (fun (x : Int) => [aA .i64 x]) Y J], aC b2 51 [aA .i64 y1.Op, aA .i64 y1.N, fSl aW y1.Args, fSl (aB .i64) y1.Kids], J t]) (has rfl) (cb rfl) rfl (fun _ => rfl) rfl (fun J => aAV fuel J (fun (x : Int) (t : σ) => vQ Y x t) x1 y4.1 y4.2 y5 h6) (fun β' l rec x6 t t' hs hp hY => ?_) (fun rb => ?_)
 generalize t = x8 at *
 have H : vQ Y x6 x8 = some t' := hY; clear hY; unfold vQ at H; try dsimp only at H
 show T β' _ _ (sA [37] ((fun (x : Int) => [aA .i64 x]) x6) [(1, aG (fR eG) w0), (3, fEq (.pointer (some ⟨b1, 0, none⟩))), (4, fEq (.pointer (some ⟨b2, 0, none⟩))), (30, fEq (.pointer (some ⟨b2, 0, none⟩))), (31, aA .i64 y1.Op), (32, aK (decide (y1.Op ≠ 4))), (33, aG eG w0), (34, fEq (.pointer (some ⟨b2, 1, none⟩))), (35, aA .i64 y1.N), (36, dK 101 [aG (fR eG) y4.1, aG (aB .i64) y4.2])]) (tObj l (.loop rec) :: [aC b1 158 [jC Tryz.prog (fun (x : Int) => [aA .i64 x]) Y J], aC b2 51 [aA .i64 y1.Op, aA .i64 y1.N, fSl aW y1.Args, fSl (aB .i64) y1.Kids], J x8]) _
 refine Z3 ?_
 refine yJ hs ?_
 refine Z4 ?_
 refine dD ?_
 revert H; refine bs fun y6 h7 H => ?_
 refine xU x6 trivial rfl rfl rfl (has rfl) (aD.cons (has rfl) aD.nil) h7 ?_
 refine Z5 ?_
 refine aH [2, 3, 0, 1] (by decide) ?_
 cases H
 refine aH [3, 0, 1, 2] (by decide) ?_
 exact xV hs hp rfl
 generalize rb = rb1
 show T β _ _ [(1, aG (fR eG) w0), (3, fEq (.pointer (some ⟨b1, 0, none⟩))), (4, fEq (.pointer (some ⟨b2, 0, none⟩))), (30, fEq (.pointer (some ⟨b2, 0, none⟩))), (31, aA .i64 y1.Op), (32, aK (decide (y1.Op ≠ 4))), (33, aG eG w0), (34, fEq (.pointer (some ⟨b2, 1, none⟩))), (35, aA .i64 y1.N), (36, dK 101 [aG (fR eG) y4.1, aG (aB .i64) y4.2])] ([jQ rb1] ++ [aC b1 158 [jC Tryz.prog (fun (x : Int) => [aA .i64 x]) Y J], aC b2 51 [aA .i64 y1.Op, aA .i64 y1.N, fSl aW y1.Args, fSl (aB .i64) y1.Kids], J y5]) _
 dsimp only [List.append, List.cons_append, List.nil_append]
 refine Z2 ?_
 refine aI ?_
 revert H; refine bs fun y7 h8 H => ?_
 apply bG (ods := [_, _, _, _, _, _, _, _, _, _, _, _]) 12 0 4 bF rfl rfl rfl
 dsimp only [bA, List.take, List.replicate, List.append, List.drop]
 refine M8 ?_
 intros
 refine M4 ?_
 intros
 refine Z3 ?_
 refine aH [1, 2, 0, 3] (by decide) ?_
 refine Tl (ι := Nat × Int × σ) (fun i => pD Y y7 i.1 i.2.1 i.2.2 = _) (fun i => i.1) (fun i => [(3, fEq (.pointer (some ⟨b1, 0, none⟩))), (51, fSl bC y7.Rules), (52, aA .i64 (y7.Rules.length : Int)), (53, aA .i64 i.2.1)]) (fun i => [aC b1 158 [jC Tryz.prog (fun (x : Int) => [aA .i64 x]) Y J], aC b2 51 [aA .i64 y1.Op, aA .i64 y1.N, fSl aW y1.Args, fSl (aB .i64) y1.Kids], jQ rb1, J i.2.2]) (fuel, 0, y5) H ?_
 clear H; rintro ⟨k2, x12, x13⟩ H
 replace H : pD Y y7 k2 x12 x13 = _ := H
 try dsimp only
 obtain _ | k2 := k2
 rw [pD] at H; cases H
 rw [pD] at H
 refine Z3 ?_
 refine aI ?_
 revert H; refine is (fun c3 H => ?_) fun c3 H => ?_
 refine Z3 ?_
 refine aI ?_
 refine Z2 ?_
 revert H; refine bs fun y8 h9 H => ?_
 refine Z2 ?_
 refine aR trivial rfl rfl (cB rfl vF rfl) (fun b3 => ?_)
 refine dB (φs' := [aA .i64 y8.At, fSl (aB .i64) y8.Joins, aA .i64 y8.Node]) trivial rfl rfl (has rfl) (has rfl) (aM (aF trivial) (aM (bB) (aM (aF trivial) bR))) (sz rfl) rfl rfl rfl ?_
 refine Z5 ?_
 refine bL ?_
 revert H; refine bs fun y9 h10 H => ?_
 refine xU y8.Node trivial rfl rfl rfl (has rfl) (aD.cons (has rfl) aD.nil) h10 ?_
 refine Z7 ?_
 revert H; refine bs fun z2 h11 H => ?_
 refine Z3 ?_
 refine aH [2, 3, 4, 0] (by decide) ?_
 exact Tm ((k2, z2, y9)) ⟨H, ls⟩
 refine Z5 ?_
 cases H
 refine aH [2, 3] (by decide) ?_
 exact aCb [rb1] (.inr rfl) rfl rfl rfl
 exact fk
 kernel_rfl
 exact fk
 kernel_rfl
def zB (a0 : Usage_text) (a1 : Int) : Option (Usage_text × Int) :=
 some (a0, a1)
theorem aHE  (a0 : Usage_text) (a1 : Int) (r : Usage_text × Int) (H : zB a0 a1 = some r) : FnS Tryz.prog 99 [aG eG a0, aA .i64 a1] [] (dK 114 [aG (fR eG) r.1, aG (aB .i64) r.2]) (fun _ => []) := by
 unfold zB at H
 refine bK Tryz.func99 rfl Tryz.ntmps99 rfl (fun β => ?_)
 refine Z1 ?_
 refine aR trivial rfl rfl (cF rfl (has rfl) (aS (vI))) (fun b1 => ?_)
 refine aR trivial rfl rfl (cF rfl (has rfl) (aS (aF trivial))) (fun b2 => ?_)
 refine Z3 ?_
 refine cA ?_
 refine cW (φ := aG (fR eG) a0) (v := ptr b1) [2] (gU aP.rfl) (by intro s hs; simp only [List.mem_cons, List.not_mem_nil, or_false] at hs; rcases hs with rfl <;> rfl) ?_
 refine cV ?_
 refine cW (φ := aG (aB .i64) a1) (v := ptr b2) [3] (gU aP.rfl) (by intro s hs; simp only [List.mem_cons, List.not_mem_nil, or_false] at hs; rcases hs with rfl <;> rfl) ?_
 refine cV ?_
 refine Yy (tW rfl (aD.cons hh (aD.cons hh aD.nil))) ?_
 refine Z3 ?_
 cases H
 exact To
end Go.Proofs.YtmnbfgeljmhekaaGreat
set_option maxRecDepth 100000
set_option maxHeartbeats 2000000
namespace Go.Proofs.YtmnbfgeljmhekaaGreat
open Go.SX Go.SW Go.Dt
attribute [local irreducible] Code.wpIn wpListIn Exit.then Exit.inBlock
def lL (a0 : Usage_text) (a1 : Int) (y2 : ScopeNode) (y5 : ScopeDef) : Nat → Int → (aU Int Usage_channel) → Option (aU Int Usage_channel)
| 0, _, _ => none
| k + 1, x7, x8 =>
 if x7 < (y5.Chans.length : Int) then
  (idx a0.sizes a1).bind fun y6 =>
  (chk (y6 + x7)).bind fun z1 =>
  (chk (x7 + 1)).bind fun z2 =>
  lL a0 a1 y2 y5 k z2 (aU.upd x8 z1 (⟨y2.N, x7⟩ : Usage_channel))
 else
  some x8
def sH (rec_usage_text_fill : Usage_text → Int → (aU Int Usage_channel) → Option (List (aU Int Usage_channel) × List Int)) (a0 : Usage_text) (x1 : aU Int Usage_channel) (x9 : Int) (x12 : List (aU Int Usage_channel)) (x13 : List Int) : Option (List (aU Int Usage_channel) × List Int) :=
 (rec_usage_text_fill ({ a0 with denotes := x12, heads := x13 }) x9 x1).bind fun y9 =>
 some (y9.1, y9.2)
def jS : Nat → Usage_text → Int → (aU Int Usage_channel) → Option (List (aU Int Usage_channel) × List Int)
| 0, _, _, _ => none
| fuel + 1, a0, a1, a2 =>
 (idx a0.denotes a1).bind fun y1 =>
 (idx a0.ScopeProg.Nodes a1).bind fun y2 =>
 (if y2.Op = 4 then
  (idx a0.heads y2.N).bind fun y3 =>
  (some ()).bind fun _ =>
  ((idx a0.ScopeProg.Defs y2.N).bind fun y5 =>
  lL a0 a1 y2 y5 fuel 0 a2).bind fun x4 =>
  some (x4, a0.heads.set y2.N.toNat a1)
 else
  some (a2, a0.heads)).bind fun (x1, x2) =>
 (zB a0 a1).bind fun y7 =>
 (xA fuel (fun (x : Int) (t : List (aU Int Usage_channel) × List Int) => sH (jS fuel) a0 x1 x t.1 t.2) (a0.denotes.set a1.toNat a2, x2) y7.1 y7.2).bind fun y8 => match y8 with
 | (x14, x15) =>
 some (x14, x15)
theorem aH9 : ∀ (fuel : Nat), (∀ (h0_0 : Value) (h0_1 : Value) (a0 : Usage_text) (a1 : Int) (a2 : aU Int Usage_channel) (r : List (aU Int Usage_channel) × List Int) (H : jS fuel a0 a1 a2 = some r), FnS Tryz.prog 79 [aG fU (⟨a0.ScopeProg, h0_0, a0.sizes, h0_1⟩ : Usage_text_R), aA .i64 a1, fX cX (fun y => fSt dT y) a2] [aE h0_0 123 (gN cX (fun y => fSt dT y)) a0.denotes, aE h0_1 3 (aB .i64) a0.heads] (dC []) (fun _ => [aE h0_0 123 (gN cX (fun y => fSt dT y)) r.1, aE h0_1 3 (aB .i64) r.2])) := by
 intro fuel
 induction fuel with
 | zero => exact fun h0_0 h0_1 a0 a1 a2 r H => (by rw [jS] at H; cases H)
 | succ fuel ih =>
 have ih_usage_text_fill := ih
 refine ?_
 intro h0_0 h0_1 a0 a1 a2 r H
 rw [jS] at H
 refine uV Tryz.func79 rfl Tryz.ntmps79 rfl (fun β => ?_)
 refine Z1 ?_
 refine aR trivial rfl rfl (cF rfl (has rfl) (aS (vI))) (fun b1 => ?_)
 refine aR trivial rfl rfl (cF rfl (has rfl) (aS (aBo))) (fun b2 => ?_)
 refine Z1 ?_
 refine aI ?_
 revert H; refine bs fun y1 h1 H => ?_
 apply bG (ods := [_, _, _, _, _, _, _, _]) 8 0 4 bF rfl rfl rfl
 dsimp only [bA, List.take, List.replicate, List.append, List.drop]
 refine M3 ?_
 intros
 refine My (aEB rfl hh (sc rfl) rfl gQ) fun _ => ?_
 refine M3 ?_
 intros
 refine rH (od := odC [2] true (fAny) [aE h0_0 123 (gN cX (fun y => fSt dT y)) (a0.denotes.set a1.toNat a2)]) (p := 2) (z' := a2) rfl (fun _ => rfl) (fun _ => rfl) trivial rfl rfl rfl rfl (has rfl) (has rfl) (aBo) (sz rfl) (bW h1) rfl rfl (fun _ => ?_)
 refine Z9 ?_
 revert H; refine bs fun y2 h2 H => ?_
 refine Z2 ?_
 refine aR trivial rfl rfl (cB rfl iS rfl) (fun b3 => ?_)
 refine dB (φs' := [aA .i64 y2.Op, aA .i64 y2.N, fSl aW y2.Args, fSl (aB .i64) y2.Kids]) trivial rfl rfl (has rfl) (has rfl) (aM (aF trivial) (aM (aF trivial) (aM (bB) (aM (bB) bR)))) (sz rfl) rfl rfl rfl ?_
 refine Z1 ?_
 revert H; refine bs fun o1 H Hr1 => ?_
 refine aT (ι := aU Int Usage_channel × List Int) (fun i => o1 = (i.1, i.2)) (fun i => [(0, aG fU (⟨a0.ScopeProg, h0_0, a0.sizes, h0_1⟩ : Usage_text_R)), (1, aA .i64 a1), (3, fEq (.pointer (some ⟨b1, 0, none⟩))), (5, fEq (.pointer (some ⟨b2, 0, none⟩)))]) (fun i => [aC b2 123 [fX cX (fun y => fSt dT y) i.1], aC b3 51 [aA .i64 y2.Op, aA .i64 y2.N, fSl aW y2.Args, fSl (aB .i64) y2.Kids], aC b1 64 [aG fU (⟨a0.ScopeProg, h0_0, a0.sizes, h0_1⟩ : Usage_text_R)], aE h0_0 123 (gN cX (fun y => fSt dT y)) (a0.denotes.set a1.toNat a2), aE h0_1 3 (aB .i64) i.2]) ?_ ?_
 refine Z5 ?_
 revert H; refine is (fun c1 H => ?_) fun c1 H => ?_
 refine Z1 ?_
 refine aI ?_
 revert H; refine bs fun y3 h3 H => ?_
 apply bG (ods := [_, _, _, _, _, _, _, _, _]) 9 0 5 bF rfl rfl rfl
 dsimp only [bA, List.take, List.replicate, List.append, List.drop]
 refine M3 ?_
 intros
 refine My (aEB rfl hh (sc rfl) rfl gQ) fun _ => ?_
 refine M4 ?_
 intros
 refine rH (od := odC [4] true (fAny) [aE h0_1 3 (aB .i64) (a0.heads.set y2.N.toNat a1)]) (p := 4) (z' := a1) rfl (fun _ => rfl) (fun _ => rfl) trivial rfl rfl rfl rfl (has rfl) (has rfl) (aF trivial) (sz rfl) (bW h3) rfl rfl (fun _ => ?_)
 refine Z3 ?_
 refine aR trivial rfl rfl (yW (fun y => fSt dT y) cX rfl) (fun b4 => ?_)
 refine Z2 ?_
 revert H; refine bs fun o2 H Hr2 => ?_
 refine aT (ι := Unit) (fun i => o2 = ()) (fun i => [(0, aG fU (⟨a0.ScopeProg, h0_0, a0.sizes, h0_1⟩ : Usage_text_R)), (1, aA .i64 a1), (3, fEq (.pointer (some ⟨b1, 0, none⟩))), (5, fEq (.pointer (some ⟨b2, 0, none⟩))), (6, fEq (.pointer (some ⟨b3, 0, none⟩))), (7, fEq (.map (some b4)))]) (fun i => [aC b3 51 [aA .i64 y2.Op, aA .i64 y2.N, fSl aW y2.Args, fSl (aB .i64) y2.Kids], aC b2 123 [fX cX (fun y => fSt dT y) a2], aC b1 64 [aG fU (⟨a0.ScopeProg, h0_0, a0.sizes, h0_1⟩ : Usage_text_R)], hC cX (fun y => fSt dT y) b4 a2, aE h0_0 123 (gN cX (fun y => fSt dT y)) (a0.denotes.set a1.toNat a2), aE h0_1 3 (aB .i64) (a0.heads.set y2.N.toNat a1)]) ?_ ?_
 refine Z2 ?_
 refine aR trivial rfl rfl (n_range (kd := cX) (vf := (fun y => fSt dT y)) (g := a2) rfl (has rfl) wN) (fun b5 => ?_)
 refine Z2 ?_
 refine aH [2, 3, 4, 1, 5, 6, 0] (by decide) ?_
 refine Tl (ι := aU Int Usage_channel) (fun _ => True) (fun i => a2.size - i.size) (fun i => [(0, aG fU (⟨a0.ScopeProg, h0_0, a0.sizes, h0_1⟩ : Usage_text_R)), (1, aA .i64 a1), (3, fEq (.pointer (some ⟨b1, 0, none⟩))), (5, fEq (.pointer (some ⟨b2, 0, none⟩))), (6, fEq (.pointer (some ⟨b3, 0, none⟩))), (7, fEq (.map (some b4))), (40, fEq (ptr b5))]) (fun i => [aC b3 51 [aA .i64 y2.Op, aA .i64 y2.N, fSl aW y2.Args, fSl (aB .i64) y2.Kids], aC b2 123 [fX cX (fun y => fSt dT y) a2], aC b1 64 [aG fU (⟨a0.ScopeProg, h0_0, a0.sizes, h0_1⟩ : Usage_text_R)], hC cX (fun y => fSt dT y) b4 i, aE h0_0 123 (gN cX (fun y => fSt dT y)) (a0.denotes.set a1.toNat a2), aE h0_1 3 (aB .i64) (a0.heads.set y2.N.toNat a1), wU cX (fun y => fSt dT y) b5 a2 i]) aU.none trivial ?_
 intro g1 _
 try dsimp only
 refine Z1 ?_
 refine mY ?_
 refine T_next trivial rfl rfl rfl (has rfl) (fun hg => ?_) (fun x3 y4 h4 h5 h6 => ?_)
 subst hg
 refine Z2 ?_
 refine aI ?_
 refine Z6 ?_
 refine aH [1, 2, 3, 4, 5, 6] (by decide) ?_
 exact Tm (()) (ij H)
 refine Z2 ?_
 refine aI ?_
 refine Z5 ?_
 refine Yo 0 rfl (o_entry rfl hh) ?_
 refine Z2 ?_
 refine aR trivial rfl rfl (cB rfl aBT rfl) (fun b6 => ?_)
 refine Z1 ?_
 refine dB (φs' := [aA .i64 y4.def_, aA .i64 y4.index]) trivial rfl rfl (has rfl) (has rfl) (aM (aF trivial) (aM (aF trivial) bR)) (sz rfl) rfl rfl rfl ?_
 refine Z5 ?_
 refine jA ?_
 refine jH (k := x3) (y := (⟨y4.def_, y4.index⟩ : Usage_channel)) trivial (.inl rfl) rfl (has rfl) (has rfl) rfl (has rfl) rfl wN ?_
 refine Z3 ?_
 refine eB ?_
 refine T_iterC ?_
 refine aH [3, 4, 5, 1, 6, 7, 0] (by decide) ?_
 exact Tm (aU.upd g1 x3 y4) ⟨trivial, upd_meas h5 h6⟩
 clear H; intro i hi; subst o2; have H := Hr2; clear Hr2; try dsimp only at H
 try dsimp only
 revert H; refine bs fun o3 H Hr3 => ?_
 refine aT (ι := aU Int Usage_channel) (fun i => o3 = i) (fun i => [(0, aG fU (⟨a0.ScopeProg, h0_0, a0.sizes, h0_1⟩ : Usage_text_R)), (1, aA .i64 a1), (3, fEq (.pointer (some ⟨b1, 0, none⟩))), (5, fEq (.pointer (some ⟨b2, 0, none⟩))), (7, fEq (.map (some b4)))]) (fun i => [aC b3 51 [aA .i64 y2.Op, aA .i64 y2.N, fSl aW y2.Args, fSl (aB .i64) y2.Kids], aC b2 123 [fX cX (fun y => fSt dT y) a2], aC b1 64 [aG fU (⟨a0.ScopeProg, h0_0, a0.sizes, h0_1⟩ : Usage_text_R)], hC cX (fun y => fSt dT y) b4 i, aE h0_0 123 (gN cX (fun y => fSt dT y)) (a0.denotes.set a1.toNat a2), aE h0_1 3 (aB .i64) (a0.heads.set y2.N.toNat a1)]) ?_ ?_
 refine aI ?_
 revert H; refine bs fun y5 h7 H => ?_
 apply bG (ods := [_, _, _, _, _, _, _, _, _, _, _, _]) 12 0 6 bF rfl rfl rfl
 dsimp only [bA, List.take, List.replicate, List.append, List.drop]
 refine M8 ?_
 intros
 refine M4 ?_
 intros
 refine Z3 ?_
 refine Tl (ι := Nat × Int × aU Int Usage_channel) (fun i => lL a0 a1 y2 y5 i.1 i.2.1 i.2.2 = _) (fun i => i.1) (fun i => [(0, aG fU (⟨a0.ScopeProg, h0_0, a0.sizes, h0_1⟩ : Usage_text_R)), (1, aA .i64 a1), (3, fEq (.pointer (some ⟨b1, 0, none⟩))), (5, fEq (.pointer (some ⟨b2, 0, none⟩))), (6, fEq (.pointer (some ⟨b3, 0, none⟩))), (7, fEq (.map (some b4))), (59, aA .i64 (y5.Chans.length : Int)), (60, aA .i64 i.2.1)]) (fun i => [aC b3 51 [aA .i64 y2.Op, aA .i64 y2.N, fSl aW y2.Args, fSl (aB .i64) y2.Kids], aC b2 123 [fX cX (fun y => fSt dT y) a2], aC b1 64 [aG fU (⟨a0.ScopeProg, h0_0, a0.sizes, h0_1⟩ : Usage_text_R)], hC cX (fun y => fSt dT y) b4 i.2.2, aE h0_0 123 (gN cX (fun y => fSt dT y)) (a0.denotes.set a1.toNat a2), aE h0_1 3 (aB .i64) (a0.heads.set y2.N.toNat a1)]) (fuel, 0, a2) H ?_
 clear H; rintro ⟨k1, x7, x8⟩ H
 replace H : lL a0 a1 y2 y5 k1 x7 x8 = _ := H
 try dsimp only
 obtain _ | k1 := k1
 rw [lL] at H; cases H
 rw [lL] at H
 refine Z3 ?_
 refine aI ?_
 revert H; refine is (fun c2 H => ?_) fun c2 H => ?_
 refine Z3 ?_
 refine aI ?_
 refine Z5 ?_
 revert H; refine bs fun y6 h8 H => ?_
 revert H; refine bs fun z1 h9 H => ?_
 apply bG (ods := [_, _, _, _, _, _, _, _, _, _, _, _, _, _]) 14 0 6 bF rfl rfl rfl
 dsimp only [bA, List.take, List.replicate, List.append, List.drop]
 refine M8 ?_
 intros
 refine M5 ?_
 intros
 refine My (dS (ψs := [aA .i64 y2.N, aA .i64 x7]) rfl aGM rfl (aX.cons (has rfl) (aS (aF trivial)) (aX.cons (has rfl) (aS (aF trivial)) aX.nil)) rfl) fun _ => ?_
 refine Z1 ?_
 refine dD ?_
 refine jH (k := z1) (y := (⟨y2.N, x7⟩ : Usage_channel)) trivial (.inl rfl) rfl (has rfl) (has rfl) rfl (has rfl) rfl wN ?_
 refine Z4 ?_
 revert H; refine bs fun z2 h10 H => ?_
 refine Z3 ?_
 refine aH [1, 2, 3, 0, 4, 5] (by decide) ?_
 exact Tm ((k1, z2, aU.upd x8 z1 (⟨y2.N, x7⟩ : Usage_channel))) ⟨H, ls⟩
 exact fk
 kernel_rfl
 refine Z6 ?_
 exact Tm (x8) (ij H)
 exact fk
 kernel_rfl
 clear H; intro x4 hi; subst o3; have H := Hr3; clear Hr3; try dsimp only at H
 try dsimp only
 refine Z2 ?_
 refine cA ?_
 refine cY (φs' := [fEq (.map (some b4))]) trivial rfl rfl (has rfl) (has rfl) (aF trivial) (sz rfl) rfl rfl ?_
 refine Z1 ?_
 refine dD ?_
 refine cW (φ := fX cX (fun y => fSt dT y) x4) (v := .map (some b4)) [7, 78] aBO (by intro s hs; simp only [List.mem_cons, List.not_mem_nil, or_false] at hs; rcases hs with rfl | rfl <;> rfl) ?_
 refine gX (φs' := [fX cX (fun y => fSt dT y) x4]) (i := 0) rfl rfl ?_
 refine cV ?_
 exact Tm ((x4, a0.heads.set y2.N.toNat a1)) (ij H)
 exact fk
 kernel_rfl
 refine Z3 ?_
 refine aH [1, 0, 2, 3, 4] (by decide) ?_
 exact Tm ((a2, a0.heads)) (ij H)
 clear H; intro i hi; obtain ⟨x1, x2⟩ := i; subst o1; have H := Hr1; clear Hr1; try dsimp only at H
 try dsimp only
 refine Z3 ?_
 revert H; refine bs fun y7 h11 H => ?_
 refine iM trivial rfl rfl rfl (has rfl) (aD.cons (dR rfl (aF5)) (aD.cons (has rfl) aD.nil)) rfl (cb rfl) (aHE a0 a1 y7 h11) rfl ?_
 refine Z2 ?_
 refine T_sub [(0, aG fU (⟨a0.ScopeProg, h0_0, a0.sizes, h0_1⟩ : Usage_text_R)), (1, aA .i64 a1), (3, fEq (.pointer (some ⟨b1, 0, none⟩))), (5, fEq (.pointer (some ⟨b2, 0, none⟩))), (79, aG fU (⟨a0.ScopeProg, h0_0, a0.sizes, h0_1⟩ : Usage_text_R)), (80, aA .i64 a1), (81, dK 114 [aG (fR eG) y7.1, aG (aB .i64) y7.2])] (Sc (Sc (Sc (Sc (Sc (Sc (Sc fZ.nil))))))) ?_
 revert H; refine bs fun y8 h12 H => ?_
 refine xR (s := (a0.denotes.set a1.toNat a2, x2)) (s' := y8) (fun (x : Int) => [aA .i64 x]) (fun (x : Int) (t : List (aU Int Usage_channel) × List Int) => sH (jS fuel) a0 x1 x t.1 t.2) (fun (t : List (aU Int Usage_channel) × List Int) => [aC b2 123 [fX cX (fun y => fSt dT y) x1], aC b3 51 [aA .i64 y2.Op, aA .i64 y2.N, fSl aW y2.Args, fSl (aB .i64) y2.Kids], aC b1 64 [aG fU (⟨a0.ScopeProg, h0_0, a0.sizes, h0_1⟩ : Usage_text_R)], aE h0_0 123 (gN cX (fun y => fSt dT y)) t.1, aE h0_1 3 (aB .i64) t.2]) (has rfl) (cb rfl) rfl (fun _ => rfl) rfl (fun J => aGJ fuel J (fun (x : Int) (t : List (aU Int Usage_channel) × List Int) => sH (jS fuel) a0 x1 x t.1 t.2) (a0.denotes.set a1.toNat a2, x2) y7.1 y7.2 y8 h12) (fun β' l rec x9 t t' hs hp hY => ?_) (fun rb => ?_)
 obtain ⟨x12, x13⟩ := t
 have H : sH (jS fuel) a0 x1 x9 x12 x13 = some t' := hY; clear hY; unfold sH at H; try dsimp only at H
 show T β' _ _ (sA [82] ((fun (x : Int) => [aA .i64 x]) x9) [(0, aG fU (⟨a0.ScopeProg, h0_0, a0.sizes, h0_1⟩ : Usage_text_R)), (1, aA .i64 a1), (3, fEq (.pointer (some ⟨b1, 0, none⟩))), (5, fEq (.pointer (some ⟨b2, 0, none⟩))), (79, aG fU (⟨a0.ScopeProg, h0_0, a0.sizes, h0_1⟩ : Usage_text_R)), (80, aA .i64 a1), (81, dK 114 [aG (fR eG) y7.1, aG (aB .i64) y7.2])]) (tObj l (.loop rec) :: [aC b2 123 [fX cX (fun y => fSt dT y) x1], aC b3 51 [aA .i64 y2.Op, aA .i64 y2.N, fSl aW y2.Args, fSl (aB .i64) y2.Kids], aC b1 64 [aG fU (⟨a0.ScopeProg, h0_0, a0.sizes, h0_1⟩ : Usage_text_R)], aE h0_0 123 (gN cX (fun y => fSt dT y)) x12, aE h0_1 3 (aB .i64) x13]) _
 refine Z3 ?_
 refine yJ hs ?_
 refine Z5 ?_
 refine jA ?_
 refine jA ?_
 revert H; refine bs fun y9 h13 H => ?_
 refine Tc (ih_usage_text_fill _ _ _ _ _ _ h13) ?_
 refine Z2 ?_
 refine aH [3, 4, 5, 0, 1, 2] (by decide) ?_
 cases H
 refine aH [5, 0, 1, 2, 3, 4] (by decide) ?_
 exact xV hs hp rfl
 obtain ⟨x14, x15⟩ := y8; dsimp only at H
 generalize rb = rb1
 show T β _ _ [(0, aG fU (⟨a0.ScopeProg, h0_0, a0.sizes, h0_1⟩ : Usage_text_R)), (1, aA .i64 a1), (3, fEq (.pointer (some ⟨b1, 0, none⟩))), (5, fEq (.pointer (some ⟨b2, 0, none⟩))), (79, aG fU (⟨a0.ScopeProg, h0_0, a0.sizes, h0_1⟩ : Usage_text_R)), (80, aA .i64 a1), (81, dK 114 [aG (fR eG) y7.1, aG (aB .i64) y7.2])] ([jQ rb1] ++ [aC b2 123 [fX cX (fun y => fSt dT y) x1], aC b3 51 [aA .i64 y2.Op, aA .i64 y2.N, fSl aW y2.Args, fSl (aB .i64) y2.Kids], aC b1 64 [aG fU (⟨a0.ScopeProg, h0_0, a0.sizes, h0_1⟩ : Usage_text_R)], aE h0_0 123 (gN cX (fun y => fSt dT y)) x14, aE h0_1 3 (aB .i64) x15]) _
 dsimp only [List.append, List.cons_append, List.nil_append]
 refine Z1 ?_
 cases H
 refine aH [0, 4, 5] (by decide) ?_
 exact aCb [rb1] (.inr rfl) rfl rfl rfl
 exact fk
 kernel_rfl
def qG (fuel : Nat) (a0 : ScopeProg) : Option (Usage_text) :=
 (mk aU.none (a0.Nodes.length : Int)).bind fun y1 =>
 (mk 0 (a0.Defs.length : Int)).bind fun y2 =>
 (uU fuel (⟨a0.Free, a0.Nodes, a0.Defs, a0.Main⟩ : ScopeProg)).bind fun y3 =>
 (jS fuel ({ (⟨(⟨a0.Free, a0.Nodes, a0.Defs, a0.Main⟩ : ScopeProg), y1, y3.1, y2⟩ : Usage_text) with denotes := y1, heads := y2 }) a0.Main (aU.none : aU Int Usage_channel)).bind fun y4 =>
 some (⟨(⟨((⟨(⟨a0.Free, a0.Nodes, a0.Defs, a0.Main⟩ : ScopeProg), y1, y3.1, y2⟩ : Usage_text).ScopeProg).Free, ((⟨(⟨a0.Free, a0.Nodes, a0.Defs, a0.Main⟩ : ScopeProg), y1, y3.1, y2⟩ : Usage_text).ScopeProg).Nodes, ((⟨(⟨a0.Free, a0.Nodes, a0.Defs, a0.Main⟩ : ScopeProg), y1, y3.1, y2⟩ : Usage_text).ScopeProg).Defs, ((⟨(⟨a0.Free, a0.Nodes, a0.Defs, a0.Main⟩ : ScopeProg), y1, y3.1, y2⟩ : Usage_text).ScopeProg).Main⟩ : ScopeProg), y4.1, (⟨(⟨a0.Free, a0.Nodes, a0.Defs, a0.Main⟩ : ScopeProg), y1, y3.1, y2⟩ : Usage_text).sizes, y4.2⟩ : Usage_text)
theorem aBi (fuel : Nat)  (a0 : ScopeProg) (r : Usage_text) (H : qG fuel a0 = some r) : FnS Tryz.prog 36 [fSt dG a0] [] (aG bN r) (fun _ => []) := by
 unfold qG at H
 refine bK Tryz.func36 rfl Tryz.ntmps36 rfl (fun β => ?_)
 refine Z1 ?_
 refine aR trivial rfl rfl (cF rfl (has rfl) bO) (fun b1 => ?_)
 refine Z2 ?_
 refine aI ?_
 revert H; refine bs fun y1 h1 H => ?_
 revert H; refine bs fun y2 h2 H => ?_
 apply bG (ods := [_, _, _, _, _, _, _, _, _, _, _, _]) 12 3 4 bF rfl rfl rfl
 dsimp only [bA, List.take, List.replicate, List.append, List.drop]
 refine M4 ?_
 intros
 refine Mn 1 (fun b2 => .slice (some ⟨b2, 0, none⟩) y1.length y1.length) (fun b2 => aE (.slice (some ⟨b2, 0, none⟩) y1.length y1.length) 123 (gN cX (fun y => fSt dT y)) y1) rfl (n_makeE (t := (gN cX (fun y => fSt dT y))) (z := aU.none) rfl (has rfl) (et rfl) rfl aHl (aP.cons aFS aP.nil) h1) (fun b2 u1 => ?_)
 refine M3 ?_
 intros
 refine Mn 2 (fun b3 => .slice (some ⟨b3, 0, none⟩) y2.length y2.length) (fun b3 => aE (.slice (some ⟨b3, 0, none⟩) y2.length y2.length) 3 (aB .i64) y2) rfl (kU (t := (aB .i64)) (z := 0) rfl (has rfl) (et rfl) rfl sO rfl h2) (fun b3 u2 => ?_)
 refine D2 4 8 b2 _ b3 _ (fun b2 _ b3 _ => fB [fSl aN a0.Free, fSl aL a0.Nodes, fSl aJ a0.Defs, aA .i64 a0.Main, fEq (.slice (some ⟨b2, 0, none⟩) y1.length y1.length), fEq (.slice none 0 0), fEq (.slice (some ⟨b3, 0, none⟩) y2.length y2.length)]) rfl rfl (dS (ψs := [fSl aN a0.Free, fSl aL a0.Nodes, fSl aJ a0.Defs, aA .i64 a0.Main, fEq (.slice (some ⟨b2, 0, none⟩) y1.length y1.length), fEq (.slice none 0 0), fEq (.slice (some ⟨b3, 0, none⟩) y2.length y2.length)]) rfl ty_bu_84 rfl (aX.cons (has rfl) bO (aX.cons (has rfl) (aS (aF trivial)) (aX.cons (has rfl) (aS (aF trivial)) aX.nil))) rfl) (fun _ => ?_)
 refine N_new (od := odN2 4 8 [3] true (fun b2 _ b3 _ b4 _ => fEq (ptr b4)) (fun b2 _ b3 _ b4 _ => [aC b4 84 [fSl aN a0.Free, fSl aL a0.Nodes, fSl aJ a0.Defs, aA .i64 a0.Main, fEq (.slice (some ⟨b2, 0, none⟩) y1.length y1.length), fEq (.slice none 0 0), fEq (.slice (some ⟨b3, 0, none⟩) y2.length y2.length)]])) (p := 3) (f := fun b4 => ptr b4) (τ := fun b4 => aC b4 84 [fSl aN a0.Free, fSl aL a0.Nodes, fSl aJ a0.Defs, aA .i64 a0.Main, fEq (.slice (some ⟨b2, 0, none⟩) y1.length y1.length), fEq (.slice none 0 0), fEq (.slice (some ⟨b3, 0, none⟩) y2.length y2.length)]) rfl (fun _ => rfl) (fun _ => rfl) trivial rfl rfl (cF rfl (has rfl) bO) (fun b4 u3 => ?_)
 refine D1 10 b4 _ (fun b4 _ => fEq (.pointer (some ⟨b4, 0, none⟩))) rfl (xK rfl hh) (fun _ => ?_)
 refine Z1 ?_
 generalize hv_v1 : (Value.slice (some ⟨b2, 0, none⟩) _ _) = v1; clear hv_v1
 refine aO 1 rfl (fun hc_v1 => ?_)
 generalize hv_v2 : (Value.slice (some ⟨b3, 0, none⟩) _ _) = v2; clear hv_v2
 refine aO 2 rfl (fun hc_v2 => ?_)
 refine Z4 ?_
 revert H; refine bs fun y3 h3 H => ?_
 refine Tc (aH2 _ _ _ h3) ?_
 refine Z5 ?_
 refine dD ?_
 refine cY (φs' := [fSl aN a0.Free, fSl aL a0.Nodes, fSl aJ a0.Defs, aA .i64 a0.Main, fEq v1, fSl (aB .i64) y3.1, fEq v2]) trivial rfl rfl (has rfl) (has rfl) (bB) (sz rfl) rfl rfl ?_
 refine Z5 ?_
 refine aR trivial rfl rfl (yW (fun y => fSt dT y) cX rfl) (fun b5 => ?_)
 refine cA ?_
 refine cW (φ := aG fU (⟨(⟨a0.Free, a0.Nodes, a0.Defs, a0.Main⟩ : ScopeProg), v1, y3.1, v2⟩ : Usage_text_R)) (v := ptr b4) [14, 3, 16, 21, 23] (gU (aP.cons Ent.rfl (aP.cons Ent.rfl (aP.cons Ent.rfl (aP.cons Ent.rfl (aP.cons (aCI hc_v1) (aP.cons Ent.rfl (aP.cons (aCI hc_v2) aP.nil)))))))) (by intro s hs; simp only [List.mem_cons, List.not_mem_nil, or_false] at hs; rcases hs with rfl | rfl | rfl | rfl | rfl <;> rfl) ?_
 refine cV ?_
 refine cW (φ := fX cX (fun y => fSt dT y) (aU.none : aU Int Usage_channel)) (v := .map (some b5)) [26] aBO (by intro s hs; simp only [List.mem_cons, List.not_mem_nil, or_false] at hs; rcases hs with rfl <;> rfl) ?_
 refine cV ?_
 refine eB ?_
 refine eB ?_
 revert H; refine bs fun y4 h4 H => ?_
 refine Tc (aH9 _ _ _ _ _ _ _ h4) ?_
 refine Z6 ?_
 refine cW (φ := fSl (gN cX (fun y => fSt dT y)) y4.1) (v := v1) [8] cR (by intro s hs; simp only [List.mem_cons, List.not_mem_nil, or_false] at hs; rcases hs with rfl <;> rfl) ?_
 refine aEv 2 (i := 4) (φs := [fSl aN (((⟨(⟨a0.Free, a0.Nodes, a0.Defs, a0.Main⟩ : ScopeProg), y1, y3.1, y2⟩ : Usage_text).ScopeProg).Free), fSl aL (((⟨(⟨a0.Free, a0.Nodes, a0.Defs, a0.Main⟩ : ScopeProg), y1, y3.1, y2⟩ : Usage_text).ScopeProg).Nodes), fSl aJ (((⟨(⟨a0.Free, a0.Nodes, a0.Defs, a0.Main⟩ : ScopeProg), y1, y3.1, y2⟩ : Usage_text).ScopeProg).Defs), aA .i64 (((⟨(⟨a0.Free, a0.Nodes, a0.Defs, a0.Main⟩ : ScopeProg), y1, y3.1, y2⟩ : Usage_text).ScopeProg).Main), eH v1, fSl (aB .i64) ((⟨(⟨a0.Free, a0.Nodes, a0.Defs, a0.Main⟩ : ScopeProg), y1, y3.1, y2⟩ : Usage_text).sizes), eH v2]) (φs' := [fSl aN (((⟨(⟨a0.Free, a0.Nodes, a0.Defs, a0.Main⟩ : ScopeProg), y1, y3.1, y2⟩ : Usage_text).ScopeProg).Free), fSl aL (((⟨(⟨a0.Free, a0.Nodes, a0.Defs, a0.Main⟩ : ScopeProg), y1, y3.1, y2⟩ : Usage_text).ScopeProg).Nodes), fSl aJ (((⟨(⟨a0.Free, a0.Nodes, a0.Defs, a0.Main⟩ : ScopeProg), y1, y3.1, y2⟩ : Usage_text).ScopeProg).Defs), aA .i64 (((⟨(⟨a0.Free, a0.Nodes, a0.Defs, a0.Main⟩ : ScopeProg), y1, y3.1, y2⟩ : Usage_text).ScopeProg).Main), fSl (gN cX (fun y => fSt dT y)) y4.1, fSl (aB .i64) ((⟨(⟨a0.Free, a0.Nodes, a0.Defs, a0.Main⟩ : ScopeProg), y1, y3.1, y2⟩ : Usage_text).sizes), eH v2]) rfl rfl rfl ?_
 refine cV ?_
 refine cW (φ := fSl (aB .i64) y4.2) (v := v2) [12] cR (by intro s hs; simp only [List.mem_cons, List.not_mem_nil, or_false] at hs; rcases hs with rfl <;> rfl) ?_
 refine aEv 2 (i := 6) (φs := [fSl aN (((⟨(⟨a0.Free, a0.Nodes, a0.Defs, a0.Main⟩ : ScopeProg), y1, y3.1, y2⟩ : Usage_text).ScopeProg).Free), fSl aL (((⟨(⟨a0.Free, a0.Nodes, a0.Defs, a0.Main⟩ : ScopeProg), y1, y3.1, y2⟩ : Usage_text).ScopeProg).Nodes), fSl aJ (((⟨(⟨a0.Free, a0.Nodes, a0.Defs, a0.Main⟩ : ScopeProg), y1, y3.1, y2⟩ : Usage_text).ScopeProg).Defs), aA .i64 (((⟨(⟨a0.Free, a0.Nodes, a0.Defs, a0.Main⟩ : ScopeProg), y1, y3.1, y2⟩ : Usage_text).ScopeProg).Main), fSl (gN cX (fun y => fSt dT y)) y4.1, fSl (aB .i64) ((⟨(⟨a0.Free, a0.Nodes, a0.Defs, a0.Main⟩ : ScopeProg), y1, y3.1, y2⟩ : Usage_text).sizes), eH v2]) (φs' := [fSl aN (((⟨(⟨a0.Free, a0.Nodes, a0.Defs, a0.Main⟩ : ScopeProg), y1, y3.1, y2⟩ : Usage_text).ScopeProg).Free), fSl aL (((⟨(⟨a0.Free, a0.Nodes, a0.Defs, a0.Main⟩ : ScopeProg), y1, y3.1, y2⟩ : Usage_text).ScopeProg).Nodes), fSl aJ (((⟨(⟨a0.Free, a0.Nodes, a0.Defs, a0.Main⟩ : ScopeProg), y1, y3.1, y2⟩ : Usage_text).ScopeProg).Defs), aA .i64 (((⟨(⟨a0.Free, a0.Nodes, a0.Defs, a0.Main⟩ : ScopeProg), y1, y3.1, y2⟩ : Usage_text).ScopeProg).Main), fSl (gN cX (fun y => fSt dT y)) y4.1, fSl (aB .i64) ((⟨(⟨a0.Free, a0.Nodes, a0.Defs, a0.Main⟩ : ScopeProg), y1, y3.1, y2⟩ : Usage_text).sizes), fSl (aB .i64) y4.2]) rfl rfl rfl ?_
 refine cV ?_
 cases H
 refine aH [] (by decide) ?_
 exact To
 exact fk
 kernel_rfl
def zL (fuel : Nat) (a0 : ScopeProg) (a1 : Int) (a2 : Int) : Option ((Option Usage_text) × Bool) :=
 (tB fuel (⟨a0.Free, a0.Nodes, a0.Defs, a0.Main⟩ : ScopeProg)).bind fun y1 =>
 if y1 ≠ 0 then
  some (none, false)
 else
  if a1 < 0 then
   some (none, false)
  else
   if (a0.Nodes.length : Int) ≤ a1 then
    some (none, false)
   else
    (qG fuel (⟨a0.Free, a0.Nodes, a0.Defs, a0.Main⟩ : ScopeProg)).bind fun y2 =>
    (if 0 ≤ a2 then
     (idx y2.sizes a1).bind fun y3 =>
     some (decide (a2 < y3))
    else
     some false).bind fun x1 =>
    some (some y2, x1)
theorem aDv (fuel : Nat)  (a0 : ScopeProg) (a1 : Int) (a2 : Int) (r : (Option Usage_text) × Bool) (H : zL fuel a0 a1 a2 = some r) : FnS Tryz.prog 25 [fSt dG a0, aA .i64 a1, aA .i64 a2] [] (dC [fOpt bN r.1, aK r.2]) (fun _ => []) := by
 unfold zL at H
 refine bK Tryz.func25 rfl Tryz.ntmps25 rfl (fun β => ?_)
 refine Z1 ?_
 refine aR trivial rfl rfl (cF rfl (has rfl) bO) (fun b1 => ?_)
 refine Z3 ?_
 refine aI ?_
 refine Z2 ?_
 revert H; refine bs fun y1 h1 H => ?_
 refine Tc (aB6 _ _ _ h1) ?_
 refine Z2 ?_
 revert H; refine is (fun c1 H => ?_) fun c1 H => ?_
 refine Z12 ?_
 refine Z5 ?_
 cases H
 refine aH [] (by decide) ?_
 exact gF rfl (jD rfl aCg) (bU rfl) rfl
 refine Z4 ?_
 revert H; refine is (fun c2 H => ?_) fun c2 H => ?_
 refine Z12 ?_
 refine Z1 ?_
 cases H
 refine aH [] (by decide) ?_
 exact gF rfl (jD rfl aCg) (bU rfl) rfl
 refine Z7 ?_
 revert H; refine is (fun c3 H => ?_) fun c3 H => ?_
 refine Z6 ?_
 cases H
 refine aH [] (by decide) ?_
 exact gF rfl (jD rfl aCg) (bU rfl) rfl
 refine Z5 ?_
 revert H; refine bs fun y2 h2 H => ?_
 refine Tc (aBi _ _ _ h2) ?_
 refine Z2 ?_
 revert H; refine bs fun o1 H Hr1 => ?_
 refine aT (ι := Bool) (fun i => o1 = i) (fun i => [(6, aG bN y2), (7, aK i)]) (fun i => [aC b1 26 [fSl aN a0.Free, fSl aL a0.Nodes, fSl aJ a0.Defs, aA .i64 a0.Main]]) ?_ ?_
 revert H; refine is (fun c4 H => ?_) fun c4 H => ?_
 revert H; refine bs fun y3 h3 H => ?_
 apply bG (ods := [_, _, _, _, _, _, _, _, _, _, _, _, _, _, _, _]) 16 0 1 bF rfl rfl rfl
 dsimp only [bA, List.take, List.replicate, List.append, List.drop]
 refine M8 ?_
 intros
 refine M8 ?_
 intros
 refine Z2 ?_
 exact Tm (decide (a2 < y3)) (ij H)
 exact fk
 kernel_rfl
 apply bG (ods := [_, _, _, _, _, _, _, _, _, _, _, _, _, _, _, _]) 16 0 1 bF rfl rfl rfl
 dsimp only [bA, List.take, List.replicate, List.append, List.drop]
 refine M8 ?_
 intros
 refine M8 ?_
 intros
 refine Z2 ?_
 exact Tm (false) (ij H)
 exact fk
 kernel_rfl
 clear H; intro x1 hi; subst o1; have H := Hr1; clear Hr1; try dsimp only at H
 try dsimp only
 refine Z1 ?_
 cases H
 refine aH [] (by decide) ?_
 exact gF rfl (jD rfl ent_optS) (bU rfl) rfl
def mG (a0 : List Int) (a1 : List Int) (a2 : Bool) (w0 : Int × Int × Bool → Option Bool) : Nat → Int → Option ((Unit) ⊕ (Bool))
| 0, _ => none
| k + 1, x2 =>
 if x2 < (a0.length : Int) then
  (idx a0 x2).bind fun y1 =>
  (idx a1 x2).bind fun y2 =>
  (w0 (y1, y2, a2)).bind fun y3 =>
  bif y3 then
   (chk (x2 + 1)).bind fun z1 =>
   mG a0 a1 a2 w0 k z1
  else
   (some false).bind fun r => some (Sum.inr r)
 else
  some (Sum.inl ())
def rW (fuel : Nat) (a0 : List Int) (a1 : List Int) (a2 : Bool) (w0 : Int × Int × Bool → Option Bool) : Option (Bool) :=
 (mG a0 a1 a2 w0 fuel 0).bind fun o => match o with
 | Sum.inr r => some r
 | Sum.inl _ =>
 some true
theorem aAw (fuel : Nat)  (a0 : List Int) (a1 : List Int) (a2 : Bool) (w0 : Int × Int × Bool → Option Bool) (r : Bool) (H : rW fuel a0 a1 a2 w0 = some r) : FnS Tryz.prog 82 [fSl (aB .i64) a0, fSl (aB .i64) a1, aK a2, aG (tFn Tryz.prog (fun (x : Int × Int × Bool) => [aA .i64 x.1, aA .i64 x.2.1, aK x.2.2]) (fun (r : Bool) => aK r)) w0] [] (aK r) (fun _ => []) := by
 unfold rW at H
 refine bK Tryz.func82 rfl Tryz.ntmps82 rfl (fun β => ?_)
 refine Z3 ?_
 revert H; refine bs fun o1 H Hr1 => ?_
 refine aT (ι := Unit) (fun i => o1 = Sum.inl ()) (fun i => []) (fun i => []) ?_ ?_
 refine Z6 ?_
 refine Tl (ι := Nat × Int) (fun i => mG a0 a1 a2 w0 i.1 i.2 = _) (fun i => i.1) (fun i => [(0, fSl (aB .i64) a0), (1, fSl (aB .i64) a1), (2, aK a2), (3, aG (tFn Tryz.prog (fun (x : Int × Int × Bool) => [aA .i64 x.1, aA .i64 x.2.1, aK x.2.2]) (fun (r : Bool) => aK r)) w0), (10, aA .i64 (a0.length : Int)), (11, aA .i64 i.2)]) (fun i => []) (fuel, 0) H ?_
 clear H; rintro ⟨k1, x2⟩ H
 replace H : mG a0 a1 a2 w0 k1 x2 = _ := H
 try dsimp only
 obtain _ | k1 := k1
 rw [mG] at H; cases H
 rw [mG] at H
 refine Z3 ?_
 refine aI ?_
 revert H; refine is (fun c1 H => ?_) fun c1 H => ?_
 refine Z3 ?_
 refine aI ?_
 refine Z5 ?_
 refine aI ?_
 revert H; refine bs fun y1 h1 H => ?_
 revert H; refine bs fun y2 h2 H => ?_
 revert H; refine bs fun y3 h3 H => ?_
 apply bG (ods := [_, _, _, _, _, _, _, _, _, _, _, _]) 12 0 0 bF rfl rfl rfl
 dsimp only [bA, List.take, List.replicate, List.append, List.drop]
 refine M8 ?_
 intros
 refine M2 ?_
 intros
 refine aE2 (od := odC [] true (aK y3) []) (Φ := aK y3) (y1, y2, a2) rfl (fun _ => rfl) trivial rfl rfl (has rfl) (aD.cons (has rfl) (aD.cons (has rfl) (aD.cons (has rfl) aD.nil))) h3 rfl (fun _ => ?_)
 refine M1 ?_
 intros
 refine Z2 ?_
 revert H; refine cs (fun c2 H => ?_) fun c2 H => ?_
 refine Z5 ?_
 revert H; refine bs fun z1 h4 H => ?_
 refine Z3 ?_
 exact Tm ((k1, z1)) ⟨H, ls⟩
 refine Z10 ?_
 revert H; refine bs fun r1 H e1 => ?_
 cases e1; cases Hr1
 cases H
 exact To
 exact fk
 kernel_rfl
 refine Z6 ?_
 exact Tm (()) (ij H)
 clear H; intro i hi; subst o1; have H := Hr1; clear Hr1; try dsimp only at H
 try dsimp only
 refine Z4 ?_
 cases H
 exact To
def mS (fuel : Nat) (a0 : List UsageDef) (a1 : List UsageDef) (a2 : Int × Int × Bool → Option Bool) (x2 : Int) (y7 : UsageDef) : Nat → Int → Option ((Unit) ⊕ ((Unit) ⊕ (Bool)))
| 0, _ => none
| k + 1, x4 =>
 if x4 < (y7.Args.length : Int) then
  (idx a0 x2).bind fun y8 =>
  (idx y8.Args x4).bind fun y9 =>
  (idx a1 x2).bind fun y10 =>
  (idx y10.Args x4).bind fun y11 =>
  (rW fuel y9 y11 false a2).bind fun y12 =>
  bif y12 then
   (chk (x4 + 1)).bind fun z1 =>
   mS fuel a0 a1 a2 x2 y7 k z1
  else
   ((some false).bind fun r => some (Sum.inr r)).bind fun r => some (Sum.inr r)
 else
  some (Sum.inl ())
def oJ (fuel : Nat) (a0 : List UsageDef) (a1 : List UsageDef) (a2 : Int × Int × Bool → Option Bool) : Nat → Int → Option ((Unit) ⊕ (Bool))
| 0, _ => none
| k + 1, x2 =>
 if x2 < (a0.length : Int) then
  ((idx a0 x2).bind fun y1 =>
  (idx a1 x2).bind fun y2 =>
  (rW fuel y1.Chans y2.Chans true a2).bind fun y3 =>
  bif !y3 then
   ((some false).bind fun r => some (Sum.inr r)).bind fun r => some (Sum.inr r)
  else
   (idx a0 x2).bind fun y4 =>
   (idx a1 x2).bind fun y5 =>
   (rW fuel y4.Rules y5.Rules false a2).bind fun y6 =>
   bif y6 then
    (idx a0 x2).bind fun y7 =>
    mS fuel a0 a1 a2 x2 y7 fuel 0
   else
    ((some false).bind fun r => some (Sum.inr r)).bind fun r => some (Sum.inr r)).bind fun o => match o with
  | Sum.inr r => some r
  | Sum.inl _ =>
  (chk (x2 + 1)).bind fun z2 =>
  oJ fuel a0 a1 a2 k z2
 else
  some (Sum.inl ())
def qA (fuel : Nat) (a0 : List UsageDef) (a1 : List UsageDef) (a2 : Int × Int × Bool → Option Bool) : Option (Bool) :=
 (oJ fuel a0 a1 a2 fuel 0).bind fun o => match o with
 | Sum.inr r => some r
 | Sum.inl _ =>
 some true
theorem aAT (fuel : Nat)  (a0 : List UsageDef) (a1 : List UsageDef) (a2 : Int × Int × Bool → Option Bool) (r : Bool) (H : qA fuel a0 a1 a2 = some r) : FnS Tryz.prog 39 [fSl bD a0, fSl bD a1, fFn Tryz.prog (fun (x : Int × Int × Bool) => [aA .i64 x.1, aA .i64 x.2.1, aK x.2.2]) (fun (r : Bool) => aK r) a2] [] (aK r) (fun _ => []) := by
 unfold qA at H
 refine bK Tryz.func39 rfl Tryz.ntmps39 rfl (fun β => ?_)
 refine Z1 ?_
 refine aR trivial rfl rfl (cF rfl (has rfl) (aS (aA7))) (fun b1 => ?_)
 refine Z3 ?_
 refine cW (φ := aG (tFn Tryz.prog (fun (x : Int × Int × Bool) => [aA .i64 x.1, aA .i64 x.2.1, aK x.2.2]) (fun (r : Bool) => aK r)) a2) (v := ptr b1) [5] (gU aP.rfl) (by intro s hs; simp only [List.mem_cons, List.not_mem_nil, or_false] at hs; rcases hs with rfl <;> rfl) ?_
 refine cV ?_
 refine Yy (tW rfl (aD.cons hh aD.nil)) ?_
 refine Z2 ?_
 revert H; refine bs fun o1 H Hr1 => ?_
 refine aT (ι := Unit) (fun i => o1 = Sum.inl ()) (fun i => []) (fun i => []) ?_ ?_
 refine Z6 ?_
 refine Tl (ι := Nat × Int) (fun i => oJ fuel a0 a1 a2 i.1 i.2 = _) (fun i => i.1) (fun i => [(0, fSl bD a0), (1, fSl bD a1), (7, dK 82 [aG (tFn Tryz.prog (fun (x : Int × Int × Bool) => [aA .i64 x.1, aA .i64 x.2.1, aK x.2.2]) (fun (r : Bool) => aK r)) a2]), (12, aA .i64 (a0.length : Int)), (13, aA .i64 i.2)]) (fun i => []) (fuel, 0) H ?_
 clear H; rintro ⟨k1, x2⟩ H
 replace H : oJ fuel a0 a1 a2 k1 x2 = _ := H
 try dsimp only
 obtain _ | k1 := k1
 rw [oJ] at H; cases H
 rw [oJ] at H
 refine Z3 ?_
 refine aI ?_
 revert H; refine is (fun c1 H => ?_) fun c1 H => ?_
 refine dP (has rfl) c1 ?_
 refine Z2 ?_
 revert H; refine bs fun o2 H Hr2 => ?_
 refine aT (ι := Unit) (fun i => o2 = Sum.inl ()) (fun i => [(0, fSl bD a0), (1, fSl bD a1), (7, dK 82 [aG (tFn Tryz.prog (fun (x : Int × Int × Bool) => [aA .i64 x.1, aA .i64 x.2.1, aK x.2.2]) (fun (r : Bool) => aK r)) a2]), (12, aA .i64 (a0.length : Int)), (13, aA .i64 x2)]) (fun i => []) ?_ ?_
 refine Z5 ?_
 refine aI ?_
 refine aI ?_
 revert H; refine bs fun y1 h1 H => ?_
 revert H; refine bs fun y2 h2 H => ?_
 revert H; refine bs fun y3 h3 H => ?_
 revert H; refine cs (fun c2 H => ?_) fun c2 H => ?_
 apply bG (ods := [_, _, _, _, _, _, _, _, _, _, _, _, _, _, _, _, _, _, _, _, _, _, _, _, _, _, _, _]) 28 0 0 bF rfl rfl rfl
 dsimp only [bA, List.take, List.replicate, List.append, List.drop]
 refine M3 ?_
 intros
 refine My (cG rfl hh hh (el rfl) h1) fun _ => ?_
 refine M4 ?_
 intros
 refine My (cG rfl hh hh (el rfl) h2) fun _ => ?_
 refine M2 ?_
 intros
 refine aAr (od := odC [] true (aK y3) []) (Φ := aK y3) rfl (fun _ => rfl) trivial rfl rfl (has rfl) (aD.cons (has rfl) (aD.cons (has rfl) (aD.cons (has rfl) aD.nil))) rfl (cb rfl) (aAw fuel y1.Chans y2.Chans true a2 y3 h3) (fun _ => ?_)
 refine M2 ?_
 intros
 refine Mt c2 fun _ => ?_
 refine Mt c2 fun _ => ?_
 refine Mt c2 fun _ => ?_
 refine Mt c2 fun _ => ?_
 refine Mt c2 fun _ => ?_
 refine Mt c2 fun _ => ?_
 refine Mt c2 fun _ => ?_
 refine Mt c2 fun _ => ?_
 refine Mt c2 fun _ => ?_
 refine Mt c2 fun _ => ?_
 refine Mt c2 fun _ => ?_
 refine Mt c2 fun _ => ?_
 refine Mt c2 fun _ => ?_
 refine My (dQ rfl hh c2 hh) fun _ => ?_
 refine Z9 ?_
 revert H; refine bs fun r1 H e1 => ?_
 cases e1; cases Hr2
 refine Z3 ?_
 revert H; refine bs fun r2 H e2 => ?_
 cases e2; cases Hr1
 cases H
 exact To
 exact fk
 kernel_rfl
 revert H; refine bs fun y4 h4 H => ?_
 revert H; refine bs fun y5 h5 H => ?_
 revert H; refine bs fun y6 h6 H => ?_
 apply bG (ods := [_, _, _, _, _, _, _, _, _, _, _, _, _, _, _, _, _, _, _, _, _, _, _, _, _, _, _, _]) 28 0 0 bF rfl rfl rfl
 dsimp only [bA, List.take, List.replicate, List.append, List.drop]
 refine M3 ?_
 intros
 refine My (cG rfl hh hh (el rfl) h1) fun _ => ?_
 refine M4 ?_
 intros
 refine My (cG rfl hh hh (el rfl) h2) fun _ => ?_
 refine M2 ?_
 intros
 refine aAr (od := odC [] true (aK y3) []) (Φ := aK y3) rfl (fun _ => rfl) trivial rfl rfl (has rfl) (aD.cons (has rfl) (aD.cons (has rfl) (aD.cons (has rfl) aD.nil))) rfl (cb rfl) (aAw fuel y1.Chans y2.Chans true a2 y3 h3) (fun _ => ?_)
 refine M2 ?_
 intros
 refine Mg c2 (bY rfl hh) fun _ => ?_
 refine Mg c2 (bY rfl hh) fun _ => ?_
 refine Mg c2 (bY rfl hh) fun _ => ?_
 refine Mg c2 (cG rfl hh hh (el rfl) h4) fun _ => ?_
 refine Mg c2 (fW (t' := (tSl (aB .i64))) (z := y4.Rules) rfl hh (fa rfl) rfl) fun _ => ?_
 refine Mg c2 (fQ rfl hh (sc rfl) rfl) fun _ => ?_
 refine Mg c2 (bY rfl hh) fun _ => ?_
 refine Mg c2 (bY rfl hh) fun _ => ?_
 refine Mg c2 (cG rfl hh hh (el rfl) h5) fun _ => ?_
 refine Mg c2 (fW (t' := (tSl (aB .i64))) (z := y5.Rules) rfl hh (fa rfl) rfl) fun _ => ?_
 refine Mg c2 (fQ rfl hh (sc rfl) rfl) fun _ => ?_
 refine aAr (od := odC [] true (aK y6) []) (Φ := aK y6) rfl (fun _ => rfl) ⟨_, _, rfl, rfl, c2⟩ rfl rfl (has rfl) (aD.cons (has rfl) (aD.cons (has rfl) (aD.cons (has rfl) aD.nil))) rfl (cb rfl) (aAw fuel y4.Rules y5.Rules false a2 y6 h6) (fun _ => ?_)
 refine Mg c2 (kR rfl hh) fun _ => ?_
 refine My (cQ rfl hh c2 hh) fun _ => ?_
 refine Z2 ?_
 revert H; refine cs (fun c3 H => ?_) fun c3 H => ?_
 refine dN (has rfl) (pH c3) ?_
 refine Z5 ?_
 revert H; refine bs fun y7 h7 H => ?_
 refine Yy (cG rfl hh hh (el rfl) h7) ?_
 refine Z6 ?_
 refine Tl (ι := Nat × Int) (fun i => mS fuel a0 a1 a2 x2 y7 i.1 i.2 = _) (fun i => i.1) (fun i => [(0, fSl bD a0), (1, fSl bD a1), (7, dK 82 [aG (tFn Tryz.prog (fun (x : Int × Int × Bool) => [aA .i64 x.1, aA .i64 x.2.1, aK x.2.2]) (fun (r : Bool) => aK r)) a2]), (12, aA .i64 (a0.length : Int)), (13, aA .i64 x2), (8, aA .i64 x2), (49, aA .i64 (y7.Args.length : Int)), (50, aA .i64 i.2)]) (fun i => []) (fuel, 0) H ?_
 clear H; rintro ⟨k2, x4⟩ H
 replace H : mS fuel a0 a1 a2 x2 y7 k2 x4 = _ := H
 try dsimp only
 obtain _ | k2 := k2
 rw [mS] at H; cases H
 rw [mS] at H
 refine Z3 ?_
 refine aI ?_
 revert H; refine is (fun c4 H => ?_) fun c4 H => ?_
 refine dP (has rfl) c4 ?_
 refine Z2 ?_
 refine aI ?_
 refine Z5 ?_
 refine aI ?_
 revert H; refine bs fun y8 h8 H => ?_
 revert H; refine bs fun y9 h9 H => ?_
 revert H; refine bs fun y10 h10 H => ?_
 revert H; refine bs fun y11 h11 H => ?_
 revert H; refine bs fun y12 h12 H => ?_
 apply bG (ods := [_, _, _, _, _, _, _, _, _, _, _, _, _, _, _, _, _, _, _]) 19 0 0 bF rfl rfl rfl
 dsimp only [bA, List.take, List.replicate, List.append, List.drop]
 refine M3 ?_
 intros
 refine My (cG rfl hh hh (el rfl) h8) fun _ => ?_
 refine M3 ?_
 intros
 refine My (cG rfl hh hh (el rfl) h9) fun _ => ?_
 refine M3 ?_
 intros
 refine My (cG rfl hh hh (el rfl) h10) fun _ => ?_
 refine M3 ?_
 intros
 refine My (cG rfl hh hh (el rfl) h11) fun _ => ?_
 refine M1 ?_
 intros
 refine aAr (od := odC [] true (aK y12) []) (Φ := aK y12) rfl (fun _ => rfl) trivial rfl rfl (has rfl) (aD.cons (has rfl) (aD.cons (has rfl) (aD.cons (has rfl) aD.nil))) rfl (cb rfl) (aAw fuel y9 y11 false a2 y12 h12) (fun _ => ?_)
 refine M1 ?_
 intros
 refine Z2 ?_
 revert H; refine cs (fun c5 H => ?_) fun c5 H => ?_
 refine dN (has rfl) (pH c5) ?_
 refine Z4 ?_
 revert H; refine bs fun z1 h13 H => ?_
 refine Yy (fO rfl hh hh h13) ?_
 refine Z2 ?_
 exact Tm ((k2, z1)) ⟨H, ls⟩
 refine dP (has rfl) (oZ c5) ?_
 refine Z10 ?_
 revert H; refine bs fun r3 H e3 => ?_
 cases e3; cases Hr2
 refine Z3 ?_
 revert H; refine bs fun r4 H e4 => ?_
 cases e4; cases Hr1
 cases H
 exact To
 exact fk
 kernel_rfl
 refine dN (has rfl) c4 ?_
 refine Z6 ?_
 exact Tm (()) (ij H)
 refine dP (has rfl) (oZ c3) ?_
 refine Z6 ?_
 revert H; refine bs fun r5 H e5 => ?_
 cases e5; cases Hr2
 refine Z3 ?_
 revert H; refine bs fun r6 H e6 => ?_
 cases e6; cases Hr1
 cases H
 exact To
 exact fk
 kernel_rfl
 clear H; intro i hi; subst o2; have H := Hr2; clear Hr2; try dsimp only at H
 try dsimp only
 refine Z1 ?_
 revert H; refine bs fun z2 h14 H => ?_
 refine Yy (fO rfl hh hh h14) ?_
 refine Z2 ?_
 exact Tm ((k1, z2)) ⟨H, ls⟩
 refine dN (has rfl) c1 ?_
 refine Z5 ?_
 exact Tm (()) (ij H)
 clear H; intro i hi; subst o1; have H := Hr1; clear Hr1; try dsimp only at H
 try dsimp only
 refine Z4 ?_
 cases H
 exact To
def xY (a0 : Int) (a1 : Int) (a2 : Bool) : Option (Bool) :=
 (if 1 ≤ a0 then
  if a0 ≤ 4 then
   bif a2 then
    some true
   else
    some (decide (a0 ≠ 2))
  else
   some false
 else
  some false).bind fun x1 =>
 some x1
theorem aHP  (a0 : Int) (a1 : Int) (a2 : Bool) (r : Bool) (H : xY a0 a1 a2 = some r) : FnS Tryz.prog 63 [aA .i64 a0, aA .i64 a1, aK a2] [] (aK r) (fun _ => []) := by
 unfold xY at H
 refine bK Tryz.func63 rfl Tryz.ntmps63 rfl (fun β => ?_)
 refine Z3 ?_
 revert H; refine bs fun o1 H Hr1 => ?_
 refine aT (ι := Bool) (fun i => o1 = i) (fun i => [(6, aK i)]) (fun i => []) ?_ ?_
 refine Z4 ?_
 revert H; refine is (fun c1 H => ?_) fun c1 H => ?_
 refine Z4 ?_
 revert H; refine is (fun c2 H => ?_) fun c2 H => ?_
 refine Z2 ?_
 revert H; refine cs (fun c3 H => ?_) fun c3 H => ?_
 refine Z6 ?_
 exact Tm (true) (ij H)
 refine Z6 ?_
 exact Tm (decide (a0 ≠ 2)) (ij H)
 refine Z2 ?_
 refine dU (⟨_, _, _, _, rfl, rfl, rfl, nu⟩) rfl rfl ?_
 refine dU (⟨_, _, _, _, rfl, rfl, rfl, nu⟩) rfl rfl ?_
 refine Z4 ?_
 exact Tm (false) (ij H)
 refine Z6 ?_
 refine dU (⟨_, _, _, _, rfl, rfl, rfl, nu⟩) rfl rfl ?_
 refine dU (⟨_, _, _, _, rfl, rfl, rfl, nu⟩) rfl rfl ?_
 refine Z4 ?_
 exact Tm (false) (ij H)
 clear H; intro x1 hi; subst o1; have H := Hr1; clear Hr1; try dsimp only at H
 try dsimp only
 refine Z1 ?_
 cases H
 exact To
end Go.Proofs.YtmnbfgeljmhekaaGreat
set_option maxRecDepth 100000
set_option maxHeartbeats 2000000
namespace Go.Proofs.YtmnbfgeljmhekaaGreat
open Go.SX Go.SW Go.Dt
attribute [local irreducible] Code.wpIn wpListIn Exit.then Exit.inBlock
def uH (y1 : ScopeDef) (y2 : UsageDef) : Nat → Int → Option ((Unit) ⊕ ((Unit) ⊕ (Bool)))
| 0, _ => none
| k + 1, x4 =>
 if x4 < (y2.Args.length : Int) then
  (idx y2.Args x4).bind fun y3 =>
  (idx y1.Chans x4).bind fun y4 =>
  if (y3.length : Int) ≠ y4.Many then
   ((some false).bind fun r => some (Sum.inr r)).bind fun r => some (Sum.inr r)
  else
   (chk (x4 + 1)).bind fun z1 =>
   uH y1 y2 k z1
 else
  some (Sum.inl ())
def tZ (fuel : Nat) (a0 : Usage_text) (a1 : List UsageDef) : Nat → Int → Option ((Unit) ⊕ (Bool))
| 0, _ => none
| k + 1, x2 =>
 if x2 < (a0.ScopeProg.Defs.length : Int) then
  ((idx a0.ScopeProg.Defs x2).bind fun y1 =>
  (idx a1 x2).bind fun y2 =>
  if (y2.Chans.length : Int) ≠ (y1.Chans.length : Int) then
   ((some false).bind fun r => some (Sum.inr r)).bind fun r => some (Sum.inr r)
  else
   if (y2.Rules.length : Int) ≠ (y1.Rules.length : Int) then
    ((some false).bind fun r => some (Sum.inr r)).bind fun r => some (Sum.inr r)
   else
    if (y2.Args.length : Int) ≠ (y1.Chans.length : Int) then
     ((some false).bind fun r => some (Sum.inr r)).bind fun r => some (Sum.inr r)
    else
     uH y1 y2 fuel 0).bind fun o => match o with
  | Sum.inr r => some r
  | Sum.inl _ =>
  (chk (x2 + 1)).bind fun z2 =>
  tZ fuel a0 a1 k z2
 else
  some (Sum.inl ())
def xW (fuel : Nat) (a0 : Usage_text) (a1 : List UsageDef) : Option (Bool) :=
 if (a1.length : Int) ≠ (a0.ScopeProg.Defs.length : Int) then
  some false
 else
  (tZ fuel a0 a1 fuel 0).bind fun o => match o with
  | Sum.inr r => some r
  | Sum.inl _ =>
  (qA fuel a1 a1 (fun x => xY x.1 x.2.1 x.2.2)).bind fun y5 =>
  some y5
theorem aDQ (fuel : Nat)  (a0 : Usage_text) (a1 : List UsageDef) (r : Bool) (H : xW fuel a0 a1 = some r) : FnS Tryz.prog 26 [aG bN a0, fSl bD a1] [] (aK r) (fun _ => []) := by
 unfold xW at H
 refine bK Tryz.func26 rfl Tryz.ntmps26 rfl (fun β => ?_)
 refine Z3 ?_
 refine aI ?_
 refine Z11 ?_
 revert H; refine is (fun c1 H => ?_) fun c1 H => ?_
 refine Z5 ?_
 cases H
 exact To
 refine Z3 ?_
 revert H; refine bs fun o1 H Hr1 => ?_
 refine aT (ι := Unit) (fun i => o1 = Sum.inl ()) (fun i => [(1, fSl bD a1)]) (fun i => []) ?_ ?_
 refine Z10 ?_
 refine Tl (ι := Nat × Int) (fun i => tZ fuel a0 a1 i.1 i.2 = _) (fun i => i.1) (fun i => [(1, fSl bD a1), (23, fSl aJ a0.ScopeProg.Defs), (24, aA .i64 (a0.ScopeProg.Defs.length : Int)), (25, aA .i64 i.2)]) (fun i => []) (fuel, 0) H ?_
 clear H; rintro ⟨k1, x2⟩ H
 replace H : tZ fuel a0 a1 k1 x2 = _ := H
 try dsimp only
 obtain _ | k1 := k1
 rw [tZ] at H; cases H
 rw [tZ] at H
 refine Z3 ?_
 refine aI ?_
 revert H; refine is (fun c2 H => ?_) fun c2 H => ?_
 refine Z3 ?_
 revert H; refine bs fun o2 H Hr2 => ?_
 refine aT (ι := Unit) (fun i => o2 = Sum.inl ()) (fun i => [(1, fSl bD a1), (23, fSl aJ a0.ScopeProg.Defs), (24, aA .i64 (a0.ScopeProg.Defs.length : Int)), (25, aA .i64 x2)]) (fun i => []) ?_ ?_
 refine Z3 ?_
 revert H; refine bs fun y1 h1 H => ?_
 refine Z2 ?_
 refine aR trivial rfl rfl (cB rfl jW rfl) (fun b1 => ?_)
 refine Z1 ?_
 refine dB (φs' := [fSl aY y1.Chans, fSl bI y1.Spots, fSl bC y1.Rules]) trivial rfl rfl (has rfl) (has rfl) (aM (bB) (aM (bB) (aM (bB) bR))) (sz rfl) rfl rfl rfl ?_
 refine Z4 ?_
 revert H; refine bs fun y2 h2 H => ?_
 refine Z2 ?_
 refine aR trivial rfl rfl (cB rfl sS rfl) (fun b2 => ?_)
 refine dB (φs' := [fSl (aB .i64) y2.Chans, fSl (aB .i64) y2.Rules, fSl (tSl (aB .i64)) y2.Args]) trivial rfl rfl (has rfl) (has rfl) (aM (bB) (aM (bB) (aM (bB) bR))) (sz rfl) rfl rfl rfl ?_
 refine Z1 ?_
 refine aI ?_
 refine Z9 ?_
 revert H; refine is (fun c3 H => ?_) fun c3 H => ?_
 refine Z12 ?_
 refine Z12 ?_
 refine Z1 ?_
 revert H; refine bs fun r1 H e1 => ?_
 cases e1; cases Hr2
 refine Z3 ?_
 revert H; refine bs fun r2 H e2 => ?_
 cases e2; cases Hr1
 cases H
 refine aH [] (by decide) ?_
 exact To
 refine Z9 ?_
 revert H; refine is (fun c4 H => ?_) fun c4 H => ?_
 refine Z12 ?_
 refine Z4 ?_
 revert H; refine bs fun r3 H e3 => ?_
 cases e3; cases Hr2
 refine Z3 ?_
 revert H; refine bs fun r4 H e4 => ?_
 cases e4; cases Hr1
 cases H
 refine aH [] (by decide) ?_
 exact To
 refine Z9 ?_
 revert H; refine is (fun c5 H => ?_) fun c5 H => ?_
 refine Z7 ?_
 revert H; refine bs fun r5 H e5 => ?_
 cases e5; cases Hr2
 refine Z3 ?_
 revert H; refine bs fun r6 H e6 => ?_
 cases e6; cases Hr1
 cases H
 refine aH [] (by decide) ?_
 exact To
 refine Z10 ?_
 refine Tl (ι := Nat × Int) (fun i => uH y1 y2 i.1 i.2 = _) (fun i => i.1) (fun i => [(1, fSl bD a1), (23, fSl aJ a0.ScopeProg.Defs), (24, aA .i64 (a0.ScopeProg.Defs.length : Int)), (25, aA .i64 x2), (6, fEq (.pointer (some ⟨b1, 0, none⟩))), (60, fSl (tSl (aB .i64)) y2.Args), (61, aA .i64 (y2.Args.length : Int)), (62, aA .i64 i.2)]) (fun i => [aC b2 61 [fSl (aB .i64) y2.Chans, fSl (aB .i64) y2.Rules, fSl (tSl (aB .i64)) y2.Args], aC b1 99 [fSl aY y1.Chans, fSl bI y1.Spots, fSl bC y1.Rules]]) (fuel, 0) H ?_
 clear H; rintro ⟨k2, x4⟩ H
 replace H : uH y1 y2 k2 x4 = _ := H
 try dsimp only
 obtain _ | k2 := k2
 rw [uH] at H; cases H
 rw [uH] at H
 refine Z3 ?_
 refine aI ?_
 revert H; refine is (fun c6 H => ?_) fun c6 H => ?_
 refine Z3 ?_
 refine aI ?_
 refine Z3 ?_
 revert H; refine bs fun y3 h3 H => ?_
 refine Z11 ?_
 revert H; refine bs fun y4 h4 H => ?_
 refine Z5 ?_
 revert H; refine is (fun c7 H => ?_) fun c7 H => ?_
 refine Z11 ?_
 revert H; refine bs fun r7 H e7 => ?_
 cases e7; cases Hr2
 refine Z3 ?_
 revert H; refine bs fun r8 H e8 => ?_
 cases e8; cases Hr1
 cases H
 refine aH [] (by decide) ?_
 exact To
 refine Z5 ?_
 revert H; refine bs fun z1 h5 H => ?_
 refine Z3 ?_
 exact Tm ((k2, z1)) ⟨H, ls⟩
 refine Z7 ?_
 refine aH [] (by decide) ?_
 exact Tm (()) (ij H)
 clear H; intro i hi; subst o2; have H := Hr2; clear Hr2; try dsimp only at H
 try dsimp only
 refine Z1 ?_
 revert H; refine bs fun z2 h6 H => ?_
 refine Z3 ?_
 exact Tm ((k1, z2)) ⟨H, ls⟩
 refine Z6 ?_
 exact Tm (()) (ij H)
 clear H; intro i hi; subst o1; have H := Hr1; clear Hr1; try dsimp only at H
 try dsimp only
 refine Z3 ?_
 revert H; refine bs fun y5 h7 H => ?_
 refine iM trivial rfl rfl rfl (has rfl) (aD.cons (has rfl) (aD.cons (has rfl) (aD.cons (dR rfl (rR (cb rfl) (fun x r hx => aHP x.1 x.2.1 x.2.2 r hx))) aD.nil))) rfl (cb rfl) (aAT fuel a1 a1 (fun x => xY x.1 x.2.1 x.2.2) y5 h7) rfl ?_
 refine Z3 ?_
 cases H
 exact To
def nV (a0 : Int) : Option (Int) :=
 if a0 = 1 then
  some 0
 else
  if a0 = 4 then
   some 2
  else
   some 1
theorem vL  (a0 : Int) (r : Int) (H : nV a0 = some r) : FnS Tryz.prog 46 [aA .i64 a0] [] (aA .i64 r) (fun _ => []) := by
 unfold nV at H
 refine bK Tryz.func46 rfl Tryz.ntmps46 rfl (fun β => ?_)
 refine Z3 ?_
 refine aI ?_
 refine Z8 ?_
 revert H; refine is (fun c1 H => ?_) fun c1 H => ?_
 refine Z7 ?_
 cases H
 exact To
 refine Z5 ?_
 revert H; refine is (fun c2 H => ?_) fun c2 H => ?_
 refine Z7 ?_
 cases H
 exact To
 refine Z8 ?_
 cases H
 exact To
def oV (a0 : Int) (a1 : Int) : Option (Int) :=
 (chk (a0 + a1)).bind fun z1 =>
 some (min z1 2)
theorem zY  (a0 : Int) (a1 : Int) (r : Int) (H : oV a0 a1 = some r) : FnS Tryz.prog 66 [aA .i64 a0, aA .i64 a1] [] (aA .i64 r) (fun _ => []) := by
 unfold oV at H
 refine bK Tryz.func66 rfl Tryz.ntmps66 rfl (fun β => ?_)
 refine Z6 ?_
 revert H; refine bs fun z1 h1 H => ?_
 refine Z5 ?_
 cases H
 exact To
def qM (a0 : Usage_text) (a1 : Usage_channel) (a2 : Int) : Option (Bool) :=
 (idx a0.ScopeProg.Defs a1.def_).bind fun y1 =>
 (idx y1.Chans a1.index).bind fun y2 =>
 (idx a0.ScopeProg.Nodes a2).bind fun y3 =>
 some (decide (y2.Many = (y3.Args.length : Int)))
theorem aEO  (a0 : Usage_text) (a1 : Usage_channel) (a2 : Int) (r : Bool) (H : qM a0 a1 a2 = some r) : FnS Tryz.prog 75 [aG bN a0, fSt dT a1, aA .i64 a2] [] (aK r) (fun _ => []) := by
 unfold qM at H
 refine bK Tryz.func75 rfl Tryz.ntmps75 rfl (fun β => ?_)
 refine Z1 ?_
 refine aR trivial rfl rfl (cF rfl (has rfl) bO) (fun b1 => ?_)
 refine Z2 ?_
 refine aI ?_
 revert H; refine bs fun y1 h1 H => ?_
 revert H; refine bs fun y2 h2 H => ?_
 revert H; refine bs fun y3 h3 H => ?_
 apply bG (ods := [_, _, _, _, _, _, _, _, _, _, _, _, _, _, _, _, _, _, _, _, _, _, _, _, _, _, _]) 27 0 1 bF rfl rfl rfl
 dsimp only [bA, List.take, List.replicate, List.append, List.drop]
 refine M8 ?_
 intros
 refine M8 ?_
 intros
 refine M8 ?_
 intros
 refine M3 ?_
 intros
 refine Z3 ?_
 cases H
 refine aH [] (by decide) ?_
 exact To
 exact fk
 kernel_rfl
def kV (a1 : List UsageDef) (a3 : Int) (y1 : ScopeNode) (y2 : aU Int Usage_channel) : Nat → Int → Int → Option (Int)
| 0, _, _ => none
| k + 1, x5, x6 =>
 if x6 < (y1.Args.length : Int) then
  ((idx y1.Args x6).bind fun y4 =>
  if y4.Op ≠ 2 then
   some x5
  else
   if y4.N ≠ a3 then
    some x5
   else
    bif (y2.get y1.N).isSome then
     (idx a1 (((y2.get y1.N).getD (⟨0, 0⟩ : Usage_channel)).def_)).bind fun y5 =>
     (idx y5.Args (((y2.get y1.N).getD (⟨0, 0⟩ : Usage_channel)).index)).bind fun y6 =>
     (idx y6 x6).bind fun y7 =>
     (nV y7).bind fun y8 =>
     (oV x5 y8).bind fun y9 =>
     some y9
    else
     some 2).bind fun x7 =>
  (chk (x6 + 1)).bind fun z1 =>
  kV a1 a3 y1 y2 k x7 z1
 else
  some x5
def vW (fuel : Nat) (a0 : Usage_text) (a1 : List UsageDef) (a2 : Int) (a3 : Int) : Option (Int) :=
 (idx a0.ScopeProg.Nodes a2).bind fun y1 =>
 (idx a0.denotes a2).bind fun y2 =>
 (bif (y2.get y1.N).isSome then
  (qM a0 (⟨((y2.get y1.N).getD (⟨0, 0⟩ : Usage_channel)).def_, ((y2.get y1.N).getD (⟨0, 0⟩ : Usage_channel)).index⟩ : Usage_channel) a2).bind fun y3 =>
  bif y3 then
   some (Sum.inl ())
  else
   (some 0).bind fun r => some (Sum.inr r)
 else
  some (Sum.inl ())).bind fun o => match o with
 | Sum.inr r => some r
 | Sum.inl _ =>
 (if y1.N = a3 then
  some 1
 else
  some 0).bind fun x1 =>
 (kV a1 a3 y1 y2 fuel x1 0).bind fun x2 =>
 some x2
theorem aHK (fuel : Nat)  (a0 : Usage_text) (a1 : List UsageDef) (a2 : Int) (a3 : Int) (r : Int) (H : vW fuel a0 a1 a2 a3 = some r) : FnS Tryz.prog 64 [aG bN a0, fSl bD a1, aA .i64 a2, aA .i64 a3] [] (aA .i64 r) (fun _ => []) := by
 unfold vW at H
 refine bK Tryz.func64 rfl Tryz.ntmps64 rfl (fun β => ?_)
 refine Z10 ?_
 revert H; refine bs fun y1 h1 H => ?_
 refine Z2 ?_
 refine aR trivial rfl rfl (cB rfl iS rfl) (fun b1 => ?_)
 refine dB (φs' := [aA .i64 y1.Op, aA .i64 y1.N, fSl aW y1.Args, fSl (aB .i64) y1.Kids]) trivial rfl rfl (has rfl) (has rfl) (aM (aF trivial) (aM (aF trivial) (aM (bB) (aM (bB) bR)))) (sz rfl) rfl rfl rfl ?_
 refine Z1 ?_
 refine aI ?_
 revert H; refine bs fun y2 h2 H => ?_
 apply bG (ods := [_, _, _, _, _, _, _, _, _, _, _, _, _, _, _, _]) 16 1 2 bF rfl rfl rfl
 dsimp only [bA, List.take, List.replicate, List.append, List.drop]
 refine M8 ?_
 intros
 refine M1 ?_
 intros
 refine My (aEb (zα := (⟨0, 0⟩ : Usage_channel)) (k := y1.N) rfl hh hh rfl wN (tD [(.int .i64 0), (.int .i64 0)])) fun _ => ?_
 refine M3 ?_
 intros
 refine Mn 1 (fun b2 => ptr b2) (fun b2 => aC b2 121 [aA .i64 0, aA .i64 0]) rfl (cB rfl aBT rfl) (fun b2 u1 => ?_)
 refine pB (od := od1 13 [1] true (fun b2 _ => fAny) (fun b2 _ => [aC b2 121 [aA .i64 (((y2.get y1.N).getD (⟨0, 0⟩ : Usage_channel)).def_), aA .i64 (((y2.get y1.N).getD (⟨0, 0⟩ : Usage_channel)).index)]])) (p := 1) (φs' := [aA .i64 (((y2.get y1.N).getD (⟨0, 0⟩ : Usage_channel)).def_), aA .i64 (((y2.get y1.N).getD (⟨0, 0⟩ : Usage_channel)).index)]) rfl (fun _ => rfl) (fun _ => rfl) trivial rfl rfl rfl (has rfl) (has rfl) (aM (aF trivial) (aM (aF trivial) bR)) (sz rfl) rfl rfl rfl (fun _ => ?_)
 refine M1 ?_
 intros
 refine Z2 ?_
 revert H; refine bs fun o1 H Hr1 => ?_
 refine aT (ι := Unit) (fun i => o1 = Sum.inl ()) (fun i => [(1, fSl bD a1), (3, aA .i64 a3), (9, fEq (.pointer (some ⟨b1, 0, none⟩))), (10, fEq (.pointer (some ⟨b2, 0, none⟩))), (11, aK ((y2.get y1.N).isSome))]) (fun i => [aC b1 51 [aA .i64 y1.Op, aA .i64 y1.N, fSl aW y1.Args, fSl (aB .i64) y1.Kids], aC b2 121 [aA .i64 (((y2.get y1.N).getD (⟨0, 0⟩ : Usage_channel)).def_), aA .i64 (((y2.get y1.N).getD (⟨0, 0⟩ : Usage_channel)).index)]]) ?_ ?_
 refine Z3 ?_
 revert H; refine cs (fun c1 H => ?_) fun c1 H => ?_
 refine Z3 ?_
 revert H; refine bs fun y3 h3 H => ?_
 refine Tc (aEO _ _ _ _ h3) ?_
 refine Z3 ?_
 revert H; refine cs (fun c2 H => ?_) fun c2 H => ?_
 refine Z3 ?_
 exact Tm (()) (ij H)
 refine Z5 ?_
 revert H; refine bs fun r1 H e1 => ?_
 cases e1; cases Hr1
 cases H
 refine aH [] (by decide) ?_
 exact To
 refine Z10 ?_
 exact Tm (()) (ij H)
 clear H; intro i hi; subst o1; have H := Hr1; clear Hr1; try dsimp only at H
 try dsimp only
 refine Z3 ?_
 revert H; refine bs fun o2 H Hr2 => ?_
 refine aT (ι := Int) (fun i => o2 = i) (fun i => [(1, fSl bD a1), (3, aA .i64 a3), (9, fEq (.pointer (some ⟨b1, 0, none⟩))), (10, fEq (.pointer (some ⟨b2, 0, none⟩))), (11, aK ((y2.get y1.N).isSome)), (12, aA .i64 i)]) (fun i => [aC b1 51 [aA .i64 y1.Op, aA .i64 y1.N, fSl aW y1.Args, fSl (aB .i64) y1.Kids], aC b2 121 [aA .i64 (((y2.get y1.N).getD (⟨0, 0⟩ : Usage_channel)).def_), aA .i64 (((y2.get y1.N).getD (⟨0, 0⟩ : Usage_channel)).index)]]) ?_ ?_
 refine Z6 ?_
 revert H; refine is (fun c3 H => ?_) fun c3 H => ?_
 refine Z4 ?_
 exact Tm (1) (ij H)
 refine Z3 ?_
 exact Tm (0) (ij H)
 clear H; intro x1 hi; subst o2; have H := Hr2; clear Hr2; try dsimp only at H
 try dsimp only
 revert H; refine bs fun o3 H Hr3 => ?_
 refine aT (ι := Int) (fun i => o3 = i) (fun i => [(12, aA .i64 i)]) (fun i => [aC b1 51 [aA .i64 y1.Op, aA .i64 y1.N, fSl aW y1.Args, fSl (aB .i64) y1.Kids], aC b2 121 [aA .i64 (((y2.get y1.N).getD (⟨0, 0⟩ : Usage_channel)).def_), aA .i64 (((y2.get y1.N).getD (⟨0, 0⟩ : Usage_channel)).index)]]) ?_ ?_
 refine Z7 ?_
 refine Tl (ι := Nat × Int × Int) (fun i => kV a1 a3 y1 y2 i.1 i.2.1 i.2.2 = _) (fun i => i.1) (fun i => [(1, fSl bD a1), (3, aA .i64 a3), (10, fEq (.pointer (some ⟨b2, 0, none⟩))), (11, aK ((y2.get y1.N).isSome)), (12, aA .i64 i.2.1), (49, fSl aW y1.Args), (50, aA .i64 (y1.Args.length : Int)), (51, aA .i64 i.2.2)]) (fun i => [aC b1 51 [aA .i64 y1.Op, aA .i64 y1.N, fSl aW y1.Args, fSl (aB .i64) y1.Kids], aC b2 121 [aA .i64 (((y2.get y1.N).getD (⟨0, 0⟩ : Usage_channel)).def_), aA .i64 (((y2.get y1.N).getD (⟨0, 0⟩ : Usage_channel)).index)]]) (fuel, x1, 0) H ?_
 clear H; rintro ⟨k1, x5, x6⟩ H
 replace H : kV a1 a3 y1 y2 k1 x5 x6 = _ := H
 try dsimp only
 obtain _ | k1 := k1
 rw [kV] at H; cases H
 rw [kV] at H
 refine Z3 ?_
 refine aI ?_
 revert H; refine is (fun c4 H => ?_) fun c4 H => ?_
 refine Z3 ?_
 revert H; refine bs fun o4 H Hr4 => ?_
 refine aT (ι := Int) (fun i => o4 = i) (fun i => [(1, fSl bD a1), (3, aA .i64 a3), (10, fEq (.pointer (some ⟨b2, 0, none⟩))), (11, aK ((y2.get y1.N).isSome)), (12, aA .i64 i), (49, fSl aW y1.Args), (50, aA .i64 (y1.Args.length : Int)), (51, aA .i64 x6)]) (fun i => [aC b1 51 [aA .i64 y1.Op, aA .i64 y1.N, fSl aW y1.Args, fSl (aB .i64) y1.Kids], aC b2 121 [aA .i64 (((y2.get y1.N).getD (⟨0, 0⟩ : Usage_channel)).def_), aA .i64 (((y2.get y1.N).getD (⟨0, 0⟩ : Usage_channel)).index)]]) ?_ ?_
 refine Z3 ?_
 revert H; refine bs fun y4 h4 H => ?_
 refine Z2 ?_
 refine aR trivial rfl rfl (cB rfl aAI rfl) (fun b3 => ?_)
 refine Z1 ?_
 refine dB (φs' := [aA .i64 y4.Op, aA .i64 y4.N, gG y4.Kids]) trivial rfl rfl (has rfl) (has rfl) (aM (aF trivial) (aM (aF trivial) (aM (zU) bR))) (sz rfl) rfl rfl rfl ?_
 refine Z7 ?_
 revert H; refine is (fun c5 H => ?_) fun c5 H => ?_
 refine Z12 ?_
 refine aH [1, 2] (by decide) ?_
 exact Tm (x5) (ij H)
 refine Z7 ?_
 revert H; refine is (fun c6 H => ?_) fun c6 H => ?_
 refine Z5 ?_
 refine aH [1, 2] (by decide) ?_
 exact Tm (x5) (ij H)
 refine Z5 ?_
 revert H; refine cs (fun c7 H => ?_) fun c7 H => ?_
 refine Z1 ?_
 revert H; refine bs fun y5 h5 H => ?_
 revert H; refine bs fun y6 h6 H => ?_
 revert H; refine bs fun y7 h7 H => ?_
 revert H; refine bs fun y8 h8 H => ?_
 revert H; refine bs fun y9 h9 H => ?_
 apply bG (ods := [_, _, _, _, _, _, _, _, _, _, _, _, _, _, _, _, _]) 17 0 3 bF rfl rfl rfl
 dsimp only [bA, List.take, List.replicate, List.append, List.drop]
 refine M8 ?_
 intros
 refine M6 ?_
 intros
 refine bP (od := odC [] true (aA .i64 y8) []) (Φ := aA .i64 y8) rfl (fun _ => rfl) trivial rfl rfl (has rfl) (aD.cons (has rfl) aD.nil) rfl (cb rfl) (vL y7 y8 h8) (fun _ => ?_)
 refine bP (od := odC [] true (aA .i64 y9) []) (Φ := aA .i64 y9) rfl (fun _ => rfl) trivial rfl rfl (has rfl) (aD.cons (has rfl) (aD.cons (has rfl) aD.nil)) rfl (cb rfl) (zY x5 y8 y9 h9) (fun _ => ?_)
 refine M1 ?_
 intros
 refine Z5 ?_
 refine aH [1, 2] (by decide) ?_
 exact Tm (y9) (ij H)
 exact fk
 kernel_rfl
 refine Z7 ?_
 refine aH [1, 2] (by decide) ?_
 exact Tm (2) (ij H)
 clear H; intro x7 hi; subst o4; have H := Hr4; clear Hr4; try dsimp only at H
 try dsimp only
 refine Z1 ?_
 revert H; refine bs fun z1 h10 H => ?_
 refine Z3 ?_
 exact Tm ((k1, x7, z1)) ⟨H, ls⟩
 refine Z6 ?_
 exact Tm (x5) (ij H)
 clear H; intro x2 hi; subst o3; have H := Hr3; clear Hr3; try dsimp only at H
 try dsimp only
 refine Z5 ?_
 cases H
 refine aH [] (by decide) ?_
 exact To
 exact fk
 kernel_rfl
def oU (a0 : Int) (a1 : Int) : Option (Int) :=
 if a0 < a1 then
  some a1
 else
  some a0
theorem aDD  (a0 : Int) (a1 : Int) (r : Int) (H : oU a0 a1 = some r) : FnS Tryz.prog 67 [aA .i64 a0, aA .i64 a1] [] (aA .i64 r) (fun _ => []) := by
 unfold oU at H
 refine bK Tryz.func67 rfl Tryz.ntmps67 rfl (fun β => ?_)
 refine Z3 ?_
 refine aI ?_
 refine Z5 ?_
 revert H; refine is (fun c1 H => ?_) fun c1 H => ?_
 refine Z6 ?_
 cases H
 exact To
 refine Z8 ?_
 cases H
 exact To
def wK (a0 : Int) (a1 : Int) : Option (Int) :=
 (chk (a0 * a1)).bind fun z1 =>
 some (min z1 2)
theorem aHs  (a0 : Int) (a1 : Int) (r : Int) (H : wK a0 a1 = some r) : FnS Tryz.prog 93 [aA .i64 a0, aA .i64 a1] [] (aA .i64 r) (fun _ => []) := by
 unfold wK at H
 refine bK Tryz.func93 rfl Tryz.ntmps93 rfl (fun β => ?_)
 refine Z6 ?_
 revert H; refine bs fun z1 h1 H => ?_
 refine Z5 ?_
 cases H
 exact To
end Go.Proofs.YtmnbfgeljmhekaaGreat
set_option maxRecDepth 100000
set_option maxHeartbeats 2000000
namespace Go.Proofs.YtmnbfgeljmhekaaGreat
open Go.SX Go.SW Go.Dt
attribute [local irreducible] Code.wpIn wpListIn Exit.then Exit.inBlock
def sD (rec_usage_text_sends : Usage_text → (List UsageDef) → Int → Int → Option (Int)) (a0 : Usage_text) (a1 : List UsageDef) (a3 : Int) (x1 : Int) (x3 : Int) : Option (Int) :=
 (rec_usage_text_sends a0 a1 x1 a3).bind fun y6 =>
 (oV x3 y6).bind fun y7 =>
 some y7
def oN (rec_usage_text_sends : Usage_text → (List UsageDef) → Int → Int → Option (Int)) (a0 : Usage_text) (a1 : List UsageDef) (a3 : Int) (y1 : ScopeNode) (y8 : ScopeDef) : Nat → Int → Int → Option (Int)
| 0, _, _ => none
| k + 1, x8, x9 =>
 if x8 < (y8.Rules.length : Int) then
  (idx y8.Rules x8).bind fun y9 =>
  (idx a1 y1.N).bind fun y10 =>
  (idx y10.Rules x8).bind fun y11 =>
  (nV y11).bind fun y12 =>
  (rec_usage_text_sends a0 a1 y9.Node a3).bind fun y13 =>
  (wK y12 y13).bind fun y14 =>
  (oV x9 y14).bind fun y15 =>
  (chk (x8 + 1)).bind fun z1 =>
  oN rec_usage_text_sends a0 a1 a3 y1 y8 k z1 y15
 else
  some x9
mutual
def fG : Nat → Usage_text → (List UsageDef) → Int → Int → Option (Int)
| 0, _, _, _, _ => none
| fuel + 1, a0, a1, a2, a3 =>
 (idx a0.ScopeProg.Nodes a2).bind fun y1 =>
 if y1.Op = 2 then
  (vW fuel a0 a1 a2 a3).bind fun y2 =>
  some y2
 else
  if y1.Op = 3 then
   ((sU fuel) a0 a1 a2 a3 (fun x => oV x.1 x.2)).bind fun y3 =>
   some y3
  else
   if y1.Op = 5 then
    ((sU fuel) a0 a1 a2 a3 (fun x => oU x.1 x.2)).bind fun y4 =>
    some y4
   else
    (if y1.Op = 6 then
     some (decide (y1.Op = 6))
    else
     some (decide (y1.Op = 8))).bind fun x1 =>
    bif x1 then
     (idx a0.ScopeProg.Nodes a2).bind fun y5 =>
     (idx y5.Kids 0).bind fun y6 =>
     ((fG fuel) a0 a1 y6 a3).bind fun y7 =>
     some y7
    else
     if y1.Op = 4 then
      ((pO fuel) a0 a1 a2 a3).bind fun y8 =>
      some y8
     else
      some 0
def sU : Nat → Usage_text → (List UsageDef) → Int → Int → (Int × Int → Option Int) → Option (Int)
| 0, _, _, _, _, _ => none
| fuel + 1, a0, a1, a2, a3, a4 =>
 (idx a0.ScopeProg.Nodes a2).bind fun y1 =>
 (idx y1.Kids 0).bind fun y2 =>
 ((fG fuel) a0 a1 y2 a3).bind fun y3 =>
 (idx y1.Kids 1).bind fun y4 =>
 ((fG fuel) a0 a1 y4 a3).bind fun y5 =>
 (a4 (y3, y5)).bind fun y6 =>
 some y6
def pO : Nat → Usage_text → (List UsageDef) → Int → Int → Option (Int)
| 0, _, _, _, _ => none
| fuel + 1, a0, a1, a2, a3 =>
 (idx a0.ScopeProg.Nodes a2).bind fun y1 =>
 (idx y1.Kids 0).bind fun y2 =>
 ((fG fuel) a0 a1 y2 a3).bind fun y3 =>
 (qX a0 y1.N).bind fun y4 =>
 (sK fuel (fun (x : Int) (t : Int) => sD (fG fuel) a0 a1 a3 x t) y3 y4.1 y4.2).bind fun y5 =>
 ((idx a0.ScopeProg.Defs y1.N).bind fun y8 =>
 oN (fG fuel) a0 a1 a3 y1 y8 fuel 0 y5).bind fun x5 =>
 some x5
end
theorem aDR : ∀ (fuel : Nat), (∀  (a0 : Usage_text) (a1 : List UsageDef) (a2 : Int) (a3 : Int) (r : Int) (H : fG fuel a0 a1 a2 a3 = some r), FnS Tryz.prog 27 [aG bN a0, fSl bD a1, aA .i64 a2, aA .i64 a3] [] (aA .i64 r) (fun _ => [])) ∧ (∀  (a0 : Usage_text) (a1 : List UsageDef) (a2 : Int) (a3 : Int) (a4 : Int × Int → Option Int) (r : Int) (H : sU fuel a0 a1 a2 a3 a4 = some r), FnS Tryz.prog 65 [aG bN a0, fSl bD a1, aA .i64 a2, aA .i64 a3, fFn Tryz.prog (fun (x : Int × Int) => [aA .i64 x.1, aA .i64 x.2]) (fun (r : Int) => aA .i64 r) a4] [] (aA .i64 r) (fun _ => [])) ∧ (∀  (a0 : Usage_text) (a1 : List UsageDef) (a2 : Int) (a3 : Int) (r : Int) (H : pO fuel a0 a1 a2 a3 = some r), FnS Tryz.prog 68 [aG bN a0, fSl bD a1, aA .i64 a2, aA .i64 a3] [] (aA .i64 r) (fun _ => [])) := by
 intro fuel
 induction fuel with
 | zero => exact ⟨fun a0 a1 a2 a3 r H => (by rw [fG] at H; cases H), fun a0 a1 a2 a3 a4 r H => (by rw [sU] at H; cases H), fun a0 a1 a2 a3 r H => (by rw [pO] at H; cases H)⟩
 | succ fuel ih =>
 obtain ⟨ih_usage_text_sends, ih_usage_text_both, ih_usage_text_inner⟩ := ih
 refine ⟨?_, ?_, ?_⟩
 intro a0 a1 a2 a3 r H
 rw [fG] at H
 refine bK Tryz.func27 rfl Tryz.ntmps27 rfl (fun β => ?_)
 refine Z3 ?_
 refine aI ?_
 refine Z7 ?_
 revert H; refine bs fun y1 h1 H => ?_
 refine Z9 ?_
 revert H; refine is (fun c1 H => ?_) fun c1 H => ?_
 refine Z6 ?_
 revert H; refine bs fun y2 h2 H => ?_
 refine Tc (aHK _ _ _ _ _ _ h2) ?_
 refine Z5 ?_
 cases H
 exact To
 refine Z5 ?_
 revert H; refine is (fun c2 H => ?_) fun c2 H => ?_
 refine Z6 ?_
 revert H; refine bs fun y3 h3 H => ?_
 refine iM trivial rfl rfl rfl (has rfl) (aD.cons (has rfl) (aD.cons (has rfl) (aD.cons (has rfl) (aD.cons (has rfl) (aD.cons (dR rfl (rR (cb rfl) (fun x r hx => zY x.1 x.2 r hx))) aD.nil))))) rfl (cb rfl) (ih_usage_text_both a0 a1 a2 a3 (fun x => oV x.1 x.2) y3 h3) rfl ?_
 refine Z5 ?_
 cases H
 exact To
 refine Z5 ?_
 revert H; refine is (fun c3 H => ?_) fun c3 H => ?_
 refine Z6 ?_
 revert H; refine bs fun y4 h4 H => ?_
 refine iM trivial rfl rfl rfl (has rfl) (aD.cons (has rfl) (aD.cons (has rfl) (aD.cons (has rfl) (aD.cons (has rfl) (aD.cons (dR rfl (rR (cb rfl) (fun x r hx => aDD x.1 x.2 r hx))) aD.nil))))) rfl (cb rfl) (ih_usage_text_both a0 a1 a2 a3 (fun x => oU x.1 x.2) y4 h4) rfl ?_
 refine Z5 ?_
 cases H
 exact To
 refine Z1 ?_
 revert H; refine bs fun o1 H Hr1 => ?_
 refine aT (ι := Bool) (fun i => o1 = i) (fun i => [(0, aG bN a0), (1, fSl bD a1), (2, aA .i64 a2), (3, aA .i64 a3), (17, aA .i64 y1.Op), (39, aK i)]) (fun i => []) ?_ ?_
 refine Z4 ?_
 revert H; refine is (fun c4 H => ?_) fun c4 H => ?_
 refine Z3 ?_
 exact Tm (decide (y1.Op = 6)) (ij H)
 refine Z5 ?_
 exact Tm (decide (y1.Op = 8)) (ij H)
 clear H; intro x1 hi; subst o1; have H := Hr1; clear Hr1; try dsimp only at H
 try dsimp only
 revert H; refine cs (fun c5 H => ?_) fun c5 H => ?_
 refine Z10 ?_
 revert H; refine bs fun y5 h5 H => ?_
 refine Z3 ?_
 revert H; refine bs fun y6 h6 H => ?_
 refine Z3 ?_
 revert H; refine bs fun y7 h7 H => ?_
 refine Tc (ih_usage_text_sends _ _ _ _ _ h7) ?_
 refine Z5 ?_
 cases H
 exact To
 refine Z5 ?_
 revert H; refine is (fun c6 H => ?_) fun c6 H => ?_
 refine Z6 ?_
 revert H; refine bs fun y8 h8 H => ?_
 refine Tc (ih_usage_text_inner _ _ _ _ _ h8) ?_
 refine Z5 ?_
 cases H
 exact To
 refine Z8 ?_
 cases H
 exact To
 intro a0 a1 a2 a3 a4 r H
 rw [sU] at H
 refine bK Tryz.func65 rfl Tryz.ntmps65 rfl (fun β => ?_)
 refine Z10 ?_
 revert H; refine bs fun y1 h1 H => ?_
 refine Z5 ?_
 refine aI ?_
 revert H; refine bs fun y2 h2 H => ?_
 revert H; refine bs fun y3 h3 H => ?_
 revert H; refine bs fun y4 h4 H => ?_
 revert H; refine bs fun y5 h5 H => ?_
 revert H; refine bs fun y6 h6 H => ?_
 apply bG (ods := [_, _, _, _, _, _, _, _, _, _, _, _, _, _, _, _, _]) 17 0 0 bF rfl rfl rfl
 dsimp only [bA, List.take, List.replicate, List.append, List.drop]
 refine M7 ?_
 intros
 refine bP (od := odC [] true (aA .i64 y3) []) (Φ := aA .i64 y3) rfl (fun _ => rfl) trivial rfl rfl (has rfl) (aD.cons (has rfl) (aD.cons (has rfl) (aD.cons (has rfl) (aD.cons (has rfl) aD.nil)))) rfl (cb rfl) (ih_usage_text_sends a0 a1 y2 a3 y3 h3) (fun _ => ?_)
 refine M6 ?_
 intros
 refine bP (od := odC [] true (aA .i64 y5) []) (Φ := aA .i64 y5) rfl (fun _ => rfl) trivial rfl rfl (has rfl) (aD.cons (has rfl) (aD.cons (has rfl) (aD.cons (has rfl) (aD.cons (has rfl) aD.nil)))) rfl (cb rfl) (ih_usage_text_sends a0 a1 y4 a3 y5 h5) (fun _ => ?_)
 refine aE2 (od := odC [] true (aA .i64 y6) []) (Φ := aA .i64 y6) (y3, y5) rfl (fun _ => rfl) trivial rfl rfl (has rfl) (aD.cons (has rfl) (aD.cons (has rfl) aD.nil)) h6 rfl (fun _ => ?_)
 refine M1 ?_
 intros
 refine Z3 ?_
 cases H
 exact To
 exact fk
 kernel_rfl
 intro a0 a1 a2 a3 r H
 rw [pO] at H
 refine uV Tryz.func68 rfl Tryz.ntmps68 rfl (fun β => ?_)
 refine Z1 ?_
 refine aR trivial rfl rfl (cF rfl (has rfl) (aS (vI))) (fun b1 => ?_)
 refine aR trivial rfl rfl (cF rfl (has rfl) (aS (bB))) (fun b2 => ?_)
 refine aR trivial rfl rfl (cF rfl (has rfl) (aS (aF trivial))) (fun b3 => ?_)
 refine Z9 ?_
 revert H; refine bs fun y1 h1 H => ?_
 refine Z2 ?_
 refine aR trivial rfl rfl (cB rfl iS rfl) (fun b4 => ?_)
 refine dB (φs' := [aA .i64 y1.Op, aA .i64 y1.N, fSl aW y1.Args, fSl (aB .i64) y1.Kids]) trivial rfl rfl (has rfl) (has rfl) (aM (aF trivial) (aM (aF trivial) (aM (bB) (aM (bB) bR)))) (sz rfl) rfl rfl rfl ?_
 refine Z1 ?_
 refine aI ?_
 revert H; refine bs fun y2 h2 H => ?_
 revert H; refine bs fun y3 h3 H => ?_
 apply bG (ods := [_, _, _, _, _, _, _, _, _, _]) 10 1 5 bF rfl rfl rfl
 dsimp only [bA, List.take, List.replicate, List.append, List.drop]
 refine M7 ?_
 intros
 refine bP (od := odC [] true (aA .i64 y3) []) (Φ := aA .i64 y3) rfl (fun _ => rfl) trivial rfl rfl (has rfl) (aD.cons (has rfl) (aD.cons (has rfl) (aD.cons (has rfl) (aD.cons (has rfl) aD.nil)))) rfl (cb rfl) (ih_usage_text_sends a0 a1 y2 a3 y3 h3) (fun _ => ?_)
 refine Mn 4 (fun b5 => ptr b5) (fun b5 => aC b5 67 [aA .i64 0]) rfl (cB rfl aFh rfl) (fun b5 u1 => ?_)
 refine jY (od := od1 8 [4] true (fun b5 _ => fAny) (fun b5 _ => [aC b5 67 [aA .i64 y3]])) (p := 4) (φs' := [aA .i64 y3]) rfl (fun _ => rfl) (fun _ => rfl) trivial rfl rfl rfl (has rfl) (has rfl) (aF trivial) (sz rfl) rfl rfl (fun _ => ?_)
 refine Z2 ?_
 refine aI ?_
 refine Z4 ?_
 revert H; refine bs fun y4 h4 H => ?_
 refine iM trivial rfl rfl rfl (has rfl) (aD.cons (dR rfl aEW) (aD.cons (has rfl) aD.nil)) rfl (cb rfl) (aA9 a0 y1.N y4 h4) rfl ?_
 refine Z2 ?_
 refine T_sub [(0, aG bN a0), (1, fSl bD a1), (2, aA .i64 a2), (3, aA .i64 a3), (4, fEq (.pointer (some ⟨b1, 0, none⟩))), (5, fEq (.pointer (some ⟨b2, 0, none⟩))), (7, fEq (.pointer (some ⟨b3, 0, none⟩))), (8, aA .i64 0), (14, aG bN a0), (15, aG bN a0), (16, aG dG a0.ScopeProg), (17, aG (tSl aL) a0.ScopeProg.Nodes), (18, fSl aL a0.ScopeProg.Nodes), (19, aA .i64 a2), (20, aG aL y1), (21, fSt aL y1), (9, fEq (.pointer (some ⟨b4, 0, none⟩))), (22, aG bN a0), (23, fSl bD a1), (24, fEq (.pointer (some ⟨b4, 3, none⟩))), (25, fSl (aB .i64) y1.Kids), (26, aG (aB .i64) y2), (27, aA .i64 y2), (28, aA .i64 a3), (29, aA .i64 y3), (10, fEq (.pointer (some ⟨b5, 0, none⟩))), (30, aG bN a0), (31, fEq (.pointer (some ⟨b4, 1, none⟩))), (32, aA .i64 y1.N), (33, dK 101 [aG (fR eG) y4.1, aG (aB .i64) y4.2])] (Sc (Sc (Sc (Sc (Sc (Sc (Sc (Sc (Sc (Sc (Sc (Sc (Sc (Sc (Sc (Sc (Sc (Sc (Sc (Sc (Sc (Sc (Sc (Sc (Sc (Sc (Sc (Sc (Sc (Sc fZ.nil)))))))))))))))))))))))))))))) ?_
 revert H; refine bs fun y5 h5 H => ?_
 refine xR (s := y3) (s' := y5) (fun (x : Int) => [aA .i64 x]) (fun (x : Int) (t : Int) => sD (fG fuel) a0 a1 a3 x t) (fun (t : Int) => [aC b4 51 [aA .i64 y1.Op, aA .i64 y1.N, fSl aW y1.Args, fSl (aB .i64) y1.Kids], aC b3 3 [aA .i64 a3], aC b2 27 [fSl bD a1], aC b1 64 [aG bN a0], aC b5 67 [aA .i64 t]]) (has rfl) (cb rfl) rfl (fun _ => rfl) rfl (fun J => aAV fuel J (fun (x : Int) (t : Int) => sD (fG fuel) a0 a1 a3 x t) y3 y4.1 y4.2 y5 h5) (fun β' l rec x1 t t' hs hp hY => ?_) (fun rb => ?_)
 generalize t = x3 at *
 have H : sD (fG fuel) a0 a1 a3 x1 x3 = some t' := hY; clear hY; unfold sD at H; try dsimp only at H
 show T β' _ _ (sA [34] ((fun (x : Int) => [aA .i64 x]) x1) [(0, aG bN a0), (1, fSl bD a1), (2, aA .i64 a2), (3, aA .i64 a3), (4, fEq (.pointer (some ⟨b1, 0, none⟩))), (5, fEq (.pointer (some ⟨b2, 0, none⟩))), (7, fEq (.pointer (some ⟨b3, 0, none⟩))), (8, aA .i64 0), (14, aG bN a0), (15, aG bN a0), (16, aG dG a0.ScopeProg), (17, aG (tSl aL) a0.ScopeProg.Nodes), (18, fSl aL a0.ScopeProg.Nodes), (19, aA .i64 a2), (20, aG aL y1), (21, fSt aL y1), (9, fEq (.pointer (some ⟨b4, 0, none⟩))), (22, aG bN a0), (23, fSl bD a1), (24, fEq (.pointer (some ⟨b4, 3, none⟩))), (25, fSl (aB .i64) y1.Kids), (26, aG (aB .i64) y2), (27, aA .i64 y2), (28, aA .i64 a3), (29, aA .i64 y3), (10, fEq (.pointer (some ⟨b5, 0, none⟩))), (30, aG bN a0), (31, fEq (.pointer (some ⟨b4, 1, none⟩))), (32, aA .i64 y1.N), (33, dK 101 [aG (fR eG) y4.1, aG (aB .i64) y4.2])]) (tObj l (.loop rec) :: [aC b4 51 [aA .i64 y1.Op, aA .i64 y1.N, fSl aW y1.Args, fSl (aB .i64) y1.Kids], aC b3 3 [aA .i64 a3], aC b2 27 [fSl bD a1], aC b1 64 [aG bN a0], aC b5 67 [aA .i64 x3]]) _
 refine Z3 ?_
 refine yJ hs ?_
 refine Z1 ?_
 revert H; refine bs fun y6 h6 H => ?_
 revert H; refine bs fun y7 h7 H => ?_
 apply bG (ods := [_, _, _, _, _, _, _, _]) 8 0 6 bF rfl rfl rfl
 dsimp only [bA, List.take, List.replicate, List.append, List.drop]
 refine M5 ?_
 intros
 refine bP (od := odC [] true (aA .i64 y6) []) (Φ := aA .i64 y6) rfl (fun _ => rfl) trivial rfl rfl (has rfl) (aD.cons (has rfl) (aD.cons (has rfl) (aD.cons (has rfl) (aD.cons (has rfl) aD.nil)))) rfl (cb rfl) (ih_usage_text_sends a0 a1 x1 a3 y6 h6) (fun _ => ?_)
 refine bP (od := odC [] true (aA .i64 y7) []) (Φ := aA .i64 y7) rfl (fun _ => rfl) trivial rfl rfl (has rfl) (aD.cons (has rfl) (aD.cons (has rfl) aD.nil)) rfl (cb rfl) (zY x3 y6 y7 h7) (fun _ => ?_)
 refine jY (od := odC [5] true (fAny) [aC b5 67 [aA .i64 y7]]) (p := 5) (φs' := [aA .i64 y7]) rfl (fun _ => rfl) (fun _ => rfl) trivial rfl rfl rfl (has rfl) (has rfl) (aF trivial) (sz rfl) rfl rfl (fun _ => ?_)
 refine Z3 ?_
 refine aH [1, 2, 3, 4, 5, 0] (by decide) ?_
 cases H
 refine aH [5, 0, 1, 2, 3, 4] (by decide) ?_
 exact xV hs hp rfl
 exact fk
 kernel_rfl
 generalize rb = rb1
 show T β _ _ [(0, aG bN a0), (1, fSl bD a1), (2, aA .i64 a2), (3, aA .i64 a3), (4, fEq (.pointer (some ⟨b1, 0, none⟩))), (5, fEq (.pointer (some ⟨b2, 0, none⟩))), (7, fEq (.pointer (some ⟨b3, 0, none⟩))), (8, aA .i64 0), (14, aG bN a0), (15, aG bN a0), (16, aG dG a0.ScopeProg), (17, aG (tSl aL) a0.ScopeProg.Nodes), (18, fSl aL a0.ScopeProg.Nodes), (19, aA .i64 a2), (20, aG aL y1), (21, fSt aL y1), (9, fEq (.pointer (some ⟨b4, 0, none⟩))), (22, aG bN a0), (23, fSl bD a1), (24, fEq (.pointer (some ⟨b4, 3, none⟩))), (25, fSl (aB .i64) y1.Kids), (26, aG (aB .i64) y2), (27, aA .i64 y2), (28, aA .i64 a3), (29, aA .i64 y3), (10, fEq (.pointer (some ⟨b5, 0, none⟩))), (30, aG bN a0), (31, fEq (.pointer (some ⟨b4, 1, none⟩))), (32, aA .i64 y1.N), (33, dK 101 [aG (fR eG) y4.1, aG (aB .i64) y4.2])] ([jQ rb1] ++ [aC b4 51 [aA .i64 y1.Op, aA .i64 y1.N, fSl aW y1.Args, fSl (aB .i64) y1.Kids], aC b3 3 [aA .i64 a3], aC b2 27 [fSl bD a1], aC b1 64 [aG bN a0], aC b5 67 [aA .i64 y5]]) _
 dsimp only [List.append, List.cons_append, List.nil_append]
 refine Z2 ?_
 revert H; refine bs fun o1 H Hr1 => ?_
 refine aT (ι := Int) (fun i => o1 = i) (fun i => [(10, fEq (.pointer (some ⟨b5, 0, none⟩)))]) (fun i => [aC b4 51 [aA .i64 y1.Op, aA .i64 y1.N, fSl aW y1.Args, fSl (aB .i64) y1.Kids], aC b3 3 [aA .i64 a3], aC b2 27 [fSl bD a1], aC b1 64 [aG bN a0], aC b5 67 [aA .i64 i], jQ rb1]) ?_ ?_
 refine aI ?_
 revert H; refine bs fun y8 h8 H => ?_
 apply bG (ods := [_, _, _, _, _, _, _, _, _, _, _, _]) 12 0 6 bF rfl rfl rfl
 dsimp only [bA, List.take, List.replicate, List.append, List.drop]
 refine M8 ?_
 intros
 refine M4 ?_
 intros
 refine Z3 ?_
 refine aH [1, 2, 3, 4, 5, 0] (by decide) ?_
 refine Tl (ι := Nat × Int × Int) (fun i => oN (fG fuel) a0 a1 a3 y1 y8 i.1 i.2.1 i.2.2 = _) (fun i => i.1) (fun i => [(4, fEq (.pointer (some ⟨b1, 0, none⟩))), (5, fEq (.pointer (some ⟨b2, 0, none⟩))), (7, fEq (.pointer (some ⟨b3, 0, none⟩))), (9, fEq (.pointer (some ⟨b4, 0, none⟩))), (10, fEq (.pointer (some ⟨b5, 0, none⟩))), (51, fSl bC y8.Rules), (52, aA .i64 (y8.Rules.length : Int)), (53, aA .i64 i.2.1)]) (fun i => [aC b4 51 [aA .i64 y1.Op, aA .i64 y1.N, fSl aW y1.Args, fSl (aB .i64) y1.Kids], aC b3 3 [aA .i64 a3], aC b2 27 [fSl bD a1], aC b1 64 [aG bN a0], aC b5 67 [aA .i64 i.2.2], jQ rb1]) (fuel, 0, y5) H ?_
 clear H; rintro ⟨k1, x8, x9⟩ H
 replace H : oN (fG fuel) a0 a1 a3 y1 y8 k1 x8 x9 = _ := H
 try dsimp only
 obtain _ | k1 := k1
 rw [oN] at H; cases H
 rw [oN] at H
 refine Z3 ?_
 refine aI ?_
 revert H; refine is (fun c1 H => ?_) fun c1 H => ?_
 refine Z3 ?_
 refine aI ?_
 refine Z3 ?_
 revert H; refine bs fun y9 h9 H => ?_
 refine Z2 ?_
 refine aR trivial rfl rfl (cB rfl vF rfl) (fun b6 => ?_)
 refine Z1 ?_
 refine dB (φs' := [aA .i64 y9.At, fSl (aB .i64) y9.Joins, aA .i64 y9.Node]) trivial rfl rfl (has rfl) (has rfl) (aM (aF trivial) (aM (bB) (aM (aF trivial) bR))) (sz rfl) rfl rfl rfl ?_
 refine Z1 ?_
 revert H; refine bs fun y10 h10 H => ?_
 revert H; refine bs fun y11 h11 H => ?_
 revert H; refine bs fun y12 h12 H => ?_
 revert H; refine bs fun y13 h13 H => ?_
 revert H; refine bs fun y14 h14 H => ?_
 revert H; refine bs fun y15 h15 H => ?_
 apply bG (ods := [_, _, _, _, _, _, _, _, _, _, _, _, _, _, _, _, _, _, _, _]) 20 0 7 bF rfl rfl rfl
 dsimp only [bA, List.take, List.replicate, List.append, List.drop]
 refine M8 ?_
 intros
 refine M2 ?_
 intros
 refine bP (od := odC [] true (aA .i64 y12) []) (Φ := aA .i64 y12) rfl (fun _ => rfl) trivial rfl rfl (has rfl) (aD.cons (has rfl) aD.nil) rfl (cb rfl) (vL y11 y12 h12) (fun _ => ?_)
 refine M5 ?_
 intros
 refine bP (od := odC [] true (aA .i64 y13) []) (Φ := aA .i64 y13) rfl (fun _ => rfl) trivial rfl rfl (has rfl) (aD.cons (has rfl) (aD.cons (has rfl) (aD.cons (has rfl) (aD.cons (has rfl) aD.nil)))) rfl (cb rfl) (ih_usage_text_sends a0 a1 y9.Node a3 y13 h13) (fun _ => ?_)
 refine bP (od := odC [] true (aA .i64 y14) []) (Φ := aA .i64 y14) rfl (fun _ => rfl) trivial rfl rfl (has rfl) (aD.cons (has rfl) (aD.cons (has rfl) aD.nil)) rfl (cb rfl) (aHs y12 y13 y14 h14) (fun _ => ?_)
 refine bP (od := odC [] true (aA .i64 y15) []) (Φ := aA .i64 y15) rfl (fun _ => rfl) trivial rfl rfl (has rfl) (aD.cons (has rfl) (aD.cons (has rfl) aD.nil)) rfl (cb rfl) (zY x9 y14 y15 h15) (fun _ => ?_)
 refine jY (od := odC [5] true (fAny) [aC b5 67 [aA .i64 y15]]) (p := 5) (φs' := [aA .i64 y15]) rfl (fun _ => rfl) (fun _ => rfl) trivial rfl rfl rfl (has rfl) (has rfl) (aF trivial) (sz rfl) rfl rfl (fun _ => ?_)
 refine Z5 ?_
 revert H; refine bs fun z1 h16 H => ?_
 refine Z3 ?_
 refine aH [1, 2, 3, 4, 5, 6] (by decide) ?_
 exact Tm ((k1, z1, y15)) ⟨H, ls⟩
 exact fk
 kernel_rfl
 refine Z6 ?_
 exact Tm (x9) (ij H)
 exact fk
 kernel_rfl
 clear H; intro x5 hi; subst o1; have H := Hr1; clear Hr1; try dsimp only at H
 try dsimp only
 refine Z5 ?_
 cases H
 refine aH [5] (by decide) ?_
 exact aEL [rb1] rfl (bU rfl) rfl rfl
 exact fk
 kernel_rfl
theorem aFk (fuel : Nat)  (a0 : Usage_text) (a1 : List UsageDef) (a2 : Int) (a3 : Int) (r : Int) (H : fG fuel a0 a1 a2 a3 = some r) : FnS Tryz.prog 27 [aG bN a0, fSl bD a1, aA .i64 a2, aA .i64 a3] [] (aA .i64 r) (fun _ => []) := (aDR fuel).1 a0 a1 a2 a3 r H
theorem aFx (fuel : Nat)  (a0 : Usage_text) (a1 : List UsageDef) (a2 : Int) (a3 : Int) (r : Int) (H : pO fuel a0 a1 a2 a3 = some r) : FnS Tryz.prog 68 [aG bN a0, fSl bD a1, aA .i64 a2, aA .i64 a3] [] (aA .i64 r) (fun _ => []) := (aDR fuel).2.2 a0 a1 a2 a3 r H
def qT (a0 : Int) : Option (Int) :=
 if a0 = 0 then
  some 1
 else
  if a0 = 1 then
   some 3
  else
   some 4
theorem zO  (a0 : Int) (r : Int) (H : qT a0 = some r) : FnS Tryz.prog 28 [aA .i64 a0] [] (aA .i64 r) (fun _ => []) := by
 unfold qT at H
 refine bK Tryz.func28 rfl Tryz.ntmps28 rfl (fun β => ?_)
 refine Z3 ?_
 refine aI ?_
 refine Z8 ?_
 revert H; refine is (fun c1 H => ?_) fun c1 H => ?_
 refine Z7 ?_
 cases H
 exact To
 refine Z5 ?_
 revert H; refine is (fun c2 H => ?_) fun c2 H => ?_
 refine Z7 ?_
 cases H
 exact To
 refine Z8 ?_
 cases H
 exact To
def aBN (fuel : Nat) (a0 : ScopeProg) (a1 : List UsageDef) (a2 : Int) (a3 : Int) : Option (Int × Int) :=
 (zL fuel (⟨a0.Free, a0.Nodes, a0.Defs, a0.Main⟩ : ScopeProg) a2 a3).bind fun y1 =>
 bif !y1.2 then
  some (0, 2)
 else
  (y1.1).bind fun y2 =>
  (xW fuel y2 a1).bind fun y3 =>
  bif y3 then
   (fG fuel y2 a1 a2 a3).bind fun y4 =>
   (qT y4).bind fun y5 =>
   some (y5, 0)
  else
   some (0, 2)
theorem aG4 (fuel : Nat)  (a0 : ScopeProg) (a1 : List UsageDef) (a2 : Int) (a3 : Int) (r : Int × Int) (H : aBN fuel a0 a1 a2 a3 = some r) : FnS Tryz.prog 10 [fSt dG a0, fSl bD a1, aA .i64 a2, aA .i64 a3] [] (dC [aA .i64 r.1, aA .i64 r.2]) (fun _ => []) := by
 unfold aBN at H
 refine bK Tryz.func10 rfl Tryz.ntmps10 rfl (fun β => ?_)
 refine Z1 ?_
 refine aR trivial rfl rfl (cF rfl (has rfl) bO) (fun b1 => ?_)
 refine Z7 ?_
 revert H; refine bs fun y1 h1 H => ?_
 refine Tc (aDv _ _ _ _ _ h1) ?_
 refine Z6 ?_
 refine aI ?_
 refine Z4 ?_
 revert H; refine cs (fun c1 H => ?_) fun c1 H => ?_
 refine Z12 ?_
 cases H
 refine aH [] (by decide) ?_
 exact gF rfl (bU rfl) (bU rfl) rfl
 refine Z2 ?_
 revert H; refine bs fun y2 h2 H => ?_
 refine lW 17 rfl (tJ h2) ?_
 refine lW 10 rfl (tJ h2) ?_
 refine lW 22 rfl (tJ h2) ?_
 revert H; refine bs fun y3 h3 H => ?_
 refine Tc (aDQ _ _ _ _ h3) ?_
 refine Z3 ?_
 revert H; refine cs (fun c2 H => ?_) fun c2 H => ?_
 refine Z8 ?_
 revert H; refine bs fun y4 h4 H => ?_
 refine Tc (aFk _ _ _ _ _ _ h4) ?_
 revert H; refine bs fun y5 h5 H => ?_
 refine Tc (zO _ _ h5) ?_
 refine Z4 ?_
 cases H
 refine aH [] (by decide) ?_
 exact gF rfl (bU rfl) (bU rfl) rfl
 refine Z6 ?_
 cases H
 refine aH [] (by decide) ?_
 exact gF rfl (bU rfl) (bU rfl) rfl
def rP (rec_usage_text_sure : Usage_text → Int → Int → Option (Int)) (a0 : Usage_text) (a2 : Int) (x1 : Int) (x3 : Int) : Option (Int) :=
 (rec_usage_text_sure a0 x1 a2).bind fun y6 =>
 (chk (x3 + y6)).bind fun z1 =>
 some z1
mutual
def gS : Nat → Usage_text → Int → Int → Option (Int)
| 0, _, _, _ => none
| fuel + 1, a0, a1, a2 =>
 (idx a0.ScopeProg.Nodes a1).bind fun y1 =>
 (if y1.Op = 2 then
  (idx a0.denotes a1).bind fun y2 =>
  bif (y2.get a2).isSome then
   if y1.N = a2 then
    (qM a0 (⟨((y2.get a2).getD (⟨0, 0⟩ : Usage_channel)).def_, ((y2.get a2).getD (⟨0, 0⟩ : Usage_channel)).index⟩ : Usage_channel) a1).bind fun y3 =>
    bif y3 then
     (some 1).bind fun r => some (Sum.inr r)
    else
     some (Sum.inl ())
   else
    some (Sum.inl ())
  else
   some (Sum.inl ())
 else
  if y1.Op = 3 then
   (idx y1.Kids 0).bind fun y4 =>
   ((gS fuel) a0 y4 a2).bind fun y5 =>
   (idx y1.Kids 1).bind fun y6 =>
   ((gS fuel) a0 y6 a2).bind fun y7 =>
   (chk (y5 + y7)).bind fun z1 =>
   (some z1).bind fun r => some (Sum.inr r)
  else
   if y1.Op = 5 then
    (idx y1.Kids 0).bind fun y8 =>
    ((gS fuel) a0 y8 a2).bind fun y9 =>
    (idx y1.Kids 1).bind fun y10 =>
    ((gS fuel) a0 y10 a2).bind fun y11 =>
    (some (min y9 y11)).bind fun r => some (Sum.inr r)
   else
    if y1.Op = 4 then
     ((lR fuel) a0 a1 a2).bind fun y12 =>
     (some y12).bind fun r => some (Sum.inr r)
    else
     some (Sum.inl ())).bind fun o => match o with
 | Sum.inr r => some r
 | Sum.inl _ =>
 some 0
def lR : Nat → Usage_text → Int → Int → Option (Int)
| 0, _, _, _ => none
| fuel + 1, a0, a1, a2 =>
 (idx a0.ScopeProg.Nodes a1).bind fun y1 =>
 (idx y1.Kids 0).bind fun y2 =>
 ((gS fuel) a0 y2 a2).bind fun y3 =>
 (qX a0 y1.N).bind fun y4 =>
 (sK fuel (fun (x : Int) (t : Int) => rP (gS fuel) a0 a2 x t) y3 y4.1 y4.2).bind fun y5 =>
 some y5
end
theorem aE1 : ∀ (fuel : Nat), (∀  (a0 : Usage_text) (a1 : Int) (a2 : Int) (r : Int) (H : gS fuel a0 a1 a2 = some r), FnS Tryz.prog 33 [aG bN a0, aA .i64 a1, aA .i64 a2] [] (aA .i64 r) (fun _ => [])) ∧ (∀  (a0 : Usage_text) (a1 : Int) (a2 : Int) (r : Int) (H : lR fuel a0 a1 a2 = some r), FnS Tryz.prog 41 [aG bN a0, aA .i64 a1, aA .i64 a2] [] (aA .i64 r) (fun _ => [])) := by
 intro fuel
 induction fuel with
 | zero => exact ⟨fun a0 a1 a2 r H => (by rw [gS] at H; cases H), fun a0 a1 a2 r H => (by rw [lR] at H; cases H)⟩
 | succ fuel ih =>
 obtain ⟨ih_usage_text_sure, ih_usage_text_begun⟩ := ih
 refine ⟨?_, ?_⟩
 intro a0 a1 a2 r H
 rw [gS] at H
 refine bK Tryz.func33 rfl Tryz.ntmps33 rfl (fun β => ?_)
 refine Z10 ?_
 revert H; refine bs fun y1 h1 H => ?_
 refine Z2 ?_
 refine aR trivial rfl rfl (cB rfl iS rfl) (fun b1 => ?_)
 refine dB (φs' := [aA .i64 y1.Op, aA .i64 y1.N, fSl aW y1.Args, fSl (aB .i64) y1.Kids]) trivial rfl rfl (has rfl) (has rfl) (aM (aF trivial) (aM (aF trivial) (aM (bB) (aM (bB) bR)))) (sz rfl) rfl rfl rfl ?_
 refine Z1 ?_
 revert H; refine bs fun o1 H Hr1 => ?_
 refine aT (ι := Unit) (fun i => o1 = Sum.inl ()) (fun i => []) (fun i => [aC b1 51 [aA .i64 y1.Op, aA .i64 y1.N, fSl aW y1.Args, fSl (aB .i64) y1.Kids]]) ?_ ?_
 refine Z9 ?_
 revert H; refine is (fun c1 H => ?_) fun c1 H => ?_
 refine Z7 ?_
 revert H; refine bs fun y2 h2 H => ?_
 refine Z3 ?_
 refine Yy (aEb (zα := (⟨0, 0⟩ : Usage_channel)) (k := a2) rfl hh hh rfl wN (tD [(.int .i64 0), (.int .i64 0)])) ?_
 refine Z3 ?_
 refine aR trivial rfl rfl (cB rfl aBT rfl) (fun b2 => ?_)
 refine dB (φs' := [aA .i64 (((y2.get a2).getD (⟨0, 0⟩ : Usage_channel)).def_), aA .i64 (((y2.get a2).getD (⟨0, 0⟩ : Usage_channel)).index)]) trivial rfl rfl (has rfl) (has rfl) (aM (aF trivial) (aM (aF trivial) bR)) (sz rfl) rfl rfl rfl ?_
 refine Z5 ?_
 revert H; refine cs (fun c2 H => ?_) fun c2 H => ?_
 refine Z6 ?_
 revert H; refine is (fun c3 H => ?_) fun c3 H => ?_
 refine Z3 ?_
 revert H; refine bs fun y3 h3 H => ?_
 refine Tc (aEO _ _ _ _ h3) ?_
 refine Z2 ?_
 revert H; refine cs (fun c4 H => ?_) fun c4 H => ?_
 refine Z7 ?_
 revert H; refine bs fun r1 H e1 => ?_
 cases e1; cases Hr1
 cases H
 refine aH [] (by decide) ?_
 exact To
 refine Z4 ?_
 refine aH [1] (by decide) ?_
 exact Tm (()) (ij H)
 refine Z10 ?_
 refine aH [1] (by decide) ?_
 exact Tm (()) (ij H)
 refine Z12 ?_
 refine Z4 ?_
 refine aH [1] (by decide) ?_
 exact Tm (()) (ij H)
 refine Z5 ?_
 revert H; refine is (fun c5 H => ?_) fun c5 H => ?_
 refine Z1 ?_
 refine aI ?_
 revert H; refine bs fun y4 h4 H => ?_
 revert H; refine bs fun y5 h5 H => ?_
 revert H; refine bs fun y6 h6 H => ?_
 revert H; refine bs fun y7 h7 H => ?_
 revert H; refine bs fun z1 h8 H => ?_
 apply bG (ods := [_, _, _, _, _, _, _, _, _, _, _, _, _, _, _, _]) 16 0 1 bF rfl rfl rfl
 dsimp only [bA, List.take, List.replicate, List.append, List.drop]
 refine M6 ?_
 intros
 refine bP (od := odC [] true (aA .i64 y5) []) (Φ := aA .i64 y5) rfl (fun _ => rfl) trivial rfl rfl (has rfl) (aD.cons (has rfl) (aD.cons (has rfl) (aD.cons (has rfl) aD.nil))) rfl (cb rfl) (ih_usage_text_sure a0 y4 a2 y5 h5) (fun _ => ?_)
 refine M6 ?_
 intros
 refine bP (od := odC [] true (aA .i64 y7) []) (Φ := aA .i64 y7) rfl (fun _ => rfl) trivial rfl rfl (has rfl) (aD.cons (has rfl) (aD.cons (has rfl) (aD.cons (has rfl) aD.nil))) rfl (cb rfl) (ih_usage_text_sure a0 y6 a2 y7 h7) (fun _ => ?_)
 refine M2 ?_
 intros
 refine Z5 ?_
 revert H; refine bs fun r2 H e2 => ?_
 cases e2; cases Hr1
 cases H
 refine aH [] (by decide) ?_
 exact To
 exact fk
 kernel_rfl
 refine Z5 ?_
 revert H; refine is (fun c6 H => ?_) fun c6 H => ?_
 refine Z1 ?_
 refine aI ?_
 revert H; refine bs fun y8 h9 H => ?_
 revert H; refine bs fun y9 h10 H => ?_
 revert H; refine bs fun y10 h11 H => ?_
 revert H; refine bs fun y11 h12 H => ?_
 apply bG (ods := [_, _, _, _, _, _, _, _, _, _, _, _, _, _, _, _]) 16 0 1 bF rfl rfl rfl
 dsimp only [bA, List.take, List.replicate, List.append, List.drop]
 refine M6 ?_
 intros
 refine bP (od := odC [] true (aA .i64 y9) []) (Φ := aA .i64 y9) rfl (fun _ => rfl) trivial rfl rfl (has rfl) (aD.cons (has rfl) (aD.cons (has rfl) (aD.cons (has rfl) aD.nil))) rfl (cb rfl) (ih_usage_text_sure a0 y8 a2 y9 h10) (fun _ => ?_)
 refine M6 ?_
 intros
 refine bP (od := odC [] true (aA .i64 y11) []) (Φ := aA .i64 y11) rfl (fun _ => rfl) trivial rfl rfl (has rfl) (aD.cons (has rfl) (aD.cons (has rfl) (aD.cons (has rfl) aD.nil))) rfl (cb rfl) (ih_usage_text_sure a0 y10 a2 y11 h12) (fun _ => ?_)
 refine M2 ?_
 intros
 refine Z5 ?_
 revert H; refine bs fun r3 H e3 => ?_
 cases e3; cases Hr1
 cases H
 refine aH [] (by decide) ?_
 exact To
 exact fk
 kernel_rfl
 refine Z5 ?_
 revert H; refine is (fun c7 H => ?_) fun c7 H => ?_
 refine Z5 ?_
 revert H; refine bs fun y12 h13 H => ?_
 refine Tc (ih_usage_text_begun _ _ _ _ h13) ?_
 refine Z5 ?_
 revert H; refine bs fun r4 H e4 => ?_
 cases e4; cases Hr1
 cases H
 refine aH [] (by decide) ?_
 exact To
 refine Z4 ?_
 exact Tm (()) (ij H)
 clear H; intro i hi; subst o1; have H := Hr1; clear Hr1; try dsimp only at H
 try dsimp only
 refine Z4 ?_
 cases H
 refine aH [] (by decide) ?_
 exact To
 intro a0 a1 a2 r H
 rw [lR] at H
 refine uV Tryz.func41 rfl Tryz.ntmps41 rfl (fun β => ?_)
 refine Z1 ?_
 refine aR trivial rfl rfl (cF rfl (has rfl) (aS (vI))) (fun b1 => ?_)
 refine aR trivial rfl rfl (cF rfl (has rfl) (aS (aF trivial))) (fun b2 => ?_)
 refine Z9 ?_
 revert H; refine bs fun y1 h1 H => ?_
 refine Z2 ?_
 refine aR trivial rfl rfl (cB rfl iS rfl) (fun b3 => ?_)
 refine dB (φs' := [aA .i64 y1.Op, aA .i64 y1.N, fSl aW y1.Args, fSl (aB .i64) y1.Kids]) trivial rfl rfl (has rfl) (has rfl) (aM (aF trivial) (aM (aF trivial) (aM (bB) (aM (bB) bR)))) (sz rfl) rfl rfl rfl ?_
 refine Z1 ?_
 refine aI ?_
 revert H; refine bs fun y2 h2 H => ?_
 revert H; refine bs fun y3 h3 H => ?_
 apply bG (ods := [_, _, _, _, _, _, _, _, _]) 9 1 4 bF rfl rfl rfl
 dsimp only [bA, List.take, List.replicate, List.append, List.drop]
 refine M6 ?_
 intros
 refine bP (od := odC [] true (aA .i64 y3) []) (Φ := aA .i64 y3) rfl (fun _ => rfl) trivial rfl rfl (has rfl) (aD.cons (has rfl) (aD.cons (has rfl) (aD.cons (has rfl) aD.nil))) rfl (cb rfl) (ih_usage_text_sure a0 y2 a2 y3 h3) (fun _ => ?_)
 refine Mn 3 (fun b4 => ptr b4) (fun b4 => aC b4 3 [aA .i64 0]) rfl (cB rfl sO rfl) (fun b4 u1 => ?_)
 refine jY (od := od1 7 [3] true (fun b4 _ => fAny) (fun b4 _ => [aC b4 3 [aA .i64 y3]])) (p := 3) (φs' := [aA .i64 y3]) rfl (fun _ => rfl) (fun _ => rfl) trivial rfl rfl rfl (has rfl) (has rfl) (aF trivial) (sz rfl) rfl rfl (fun _ => ?_)
 refine Z2 ?_
 refine aI ?_
 refine Z4 ?_
 revert H; refine bs fun y4 h4 H => ?_
 refine iM trivial rfl rfl rfl (has rfl) (aD.cons (dR rfl aEW) (aD.cons (has rfl) aD.nil)) rfl (cb rfl) (aA9 a0 y1.N y4 h4) rfl ?_
 refine Z2 ?_
 refine T_sub [(0, aG bN a0), (1, aA .i64 a1), (2, aA .i64 a2), (3, fEq (.pointer (some ⟨b1, 0, none⟩))), (5, fEq (.pointer (some ⟨b2, 0, none⟩))), (6, aA .i64 0), (10, aG bN a0), (11, aG bN a0), (12, aG dG a0.ScopeProg), (13, aG (tSl aL) a0.ScopeProg.Nodes), (14, fSl aL a0.ScopeProg.Nodes), (15, aA .i64 a1), (16, aG aL y1), (17, fSt aL y1), (7, fEq (.pointer (some ⟨b3, 0, none⟩))), (18, aG bN a0), (19, fEq (.pointer (some ⟨b3, 3, none⟩))), (20, fSl (aB .i64) y1.Kids), (21, aG (aB .i64) y2), (22, aA .i64 y2), (23, aA .i64 a2), (24, aA .i64 y3), (8, fEq (.pointer (some ⟨b4, 0, none⟩))), (25, aG bN a0), (26, fEq (.pointer (some ⟨b3, 1, none⟩))), (27, aA .i64 y1.N), (28, dK 101 [aG (fR eG) y4.1, aG (aB .i64) y4.2])] (Sc (Sc (Sc (Sc (Sc (Sc (Sc (Sc (Sc (Sc (Sc (Sc (Sc (Sc (Sc (Sc (Sc (Sc (Sc (Sc (Sc (Sc (Sc (Sc (Sc (Sc (Sc fZ.nil))))))))))))))))))))))))))) ?_
 revert H; refine bs fun y5 h5 H => ?_
 refine xR (s := y3) (s' := y5) (fun (x : Int) => [aA .i64 x]) (fun (x : Int) (t : Int) => rP (gS fuel) a0 a2 x t) (fun (t : Int) => [aC b3 51 [aA .i64 y1.Op, aA .i64 y1.N, fSl aW y1.Args, fSl (aB .i64) y1.Kids], aC b2 3 [aA .i64 a2], aC b1 64 [aG bN a0], aC b4 3 [aA .i64 t]]) (has rfl) (cb rfl) rfl (fun _ => rfl) rfl (fun J => aAV fuel J (fun (x : Int) (t : Int) => rP (gS fuel) a0 a2 x t) y3 y4.1 y4.2 y5 h5) (fun β' l rec x1 t t' hs hp hY => ?_) (fun rb => ?_)
 generalize t = x3 at *
 have H : rP (gS fuel) a0 a2 x1 x3 = some t' := hY; clear hY; unfold rP at H; try dsimp only at H
 show T β' _ _ (sA [29] ((fun (x : Int) => [aA .i64 x]) x1) [(0, aG bN a0), (1, aA .i64 a1), (2, aA .i64 a2), (3, fEq (.pointer (some ⟨b1, 0, none⟩))), (5, fEq (.pointer (some ⟨b2, 0, none⟩))), (6, aA .i64 0), (10, aG bN a0), (11, aG bN a0), (12, aG dG a0.ScopeProg), (13, aG (tSl aL) a0.ScopeProg.Nodes), (14, fSl aL a0.ScopeProg.Nodes), (15, aA .i64 a1), (16, aG aL y1), (17, fSt aL y1), (7, fEq (.pointer (some ⟨b3, 0, none⟩))), (18, aG bN a0), (19, fEq (.pointer (some ⟨b3, 3, none⟩))), (20, fSl (aB .i64) y1.Kids), (21, aG (aB .i64) y2), (22, aA .i64 y2), (23, aA .i64 a2), (24, aA .i64 y3), (8, fEq (.pointer (some ⟨b4, 0, none⟩))), (25, aG bN a0), (26, fEq (.pointer (some ⟨b3, 1, none⟩))), (27, aA .i64 y1.N), (28, dK 101 [aG (fR eG) y4.1, aG (aB .i64) y4.2])]) (tObj l (.loop rec) :: [aC b3 51 [aA .i64 y1.Op, aA .i64 y1.N, fSl aW y1.Args, fSl (aB .i64) y1.Kids], aC b2 3 [aA .i64 a2], aC b1 64 [aG bN a0], aC b4 3 [aA .i64 x3]]) _
 refine Z3 ?_
 refine yJ hs ?_
 refine Z1 ?_
 revert H; refine bs fun y6 h6 H => ?_
 revert H; refine bs fun z1 h7 H => ?_
 apply bG (ods := [_, _, _, _, _, _, _]) 7 0 5 bF rfl rfl rfl
 dsimp only [bA, List.take, List.replicate, List.append, List.drop]
 refine M4 ?_
 intros
 refine bP (od := odC [] true (aA .i64 y6) []) (Φ := aA .i64 y6) rfl (fun _ => rfl) trivial rfl rfl (has rfl) (aD.cons (has rfl) (aD.cons (has rfl) (aD.cons (has rfl) aD.nil))) rfl (cb rfl) (ih_usage_text_sure a0 x1 a2 y6 h6) (fun _ => ?_)
 refine M1 ?_
 intros
 refine jY (od := odC [4] true (fAny) [aC b4 3 [aA .i64 z1]]) (p := 4) (φs' := [aA .i64 z1]) rfl (fun _ => rfl) (fun _ => rfl) trivial rfl rfl rfl (has rfl) (has rfl) (aF trivial) (sz rfl) rfl rfl (fun _ => ?_)
 refine Z3 ?_
 refine aH [1, 2, 3, 4, 0] (by decide) ?_
 cases H
 refine aH [4, 0, 1, 2, 3] (by decide) ?_
 exact xV hs hp rfl
 exact fk
 kernel_rfl
 generalize rb = rb1
 show T β _ _ [(0, aG bN a0), (1, aA .i64 a1), (2, aA .i64 a2), (3, fEq (.pointer (some ⟨b1, 0, none⟩))), (5, fEq (.pointer (some ⟨b2, 0, none⟩))), (6, aA .i64 0), (10, aG bN a0), (11, aG bN a0), (12, aG dG a0.ScopeProg), (13, aG (tSl aL) a0.ScopeProg.Nodes), (14, fSl aL a0.ScopeProg.Nodes), (15, aA .i64 a1), (16, aG aL y1), (17, fSt aL y1), (7, fEq (.pointer (some ⟨b3, 0, none⟩))), (18, aG bN a0), (19, fEq (.pointer (some ⟨b3, 3, none⟩))), (20, fSl (aB .i64) y1.Kids), (21, aG (aB .i64) y2), (22, aA .i64 y2), (23, aA .i64 a2), (24, aA .i64 y3), (8, fEq (.pointer (some ⟨b4, 0, none⟩))), (25, aG bN a0), (26, fEq (.pointer (some ⟨b3, 1, none⟩))), (27, aA .i64 y1.N), (28, dK 101 [aG (fR eG) y4.1, aG (aB .i64) y4.2])] ([jQ rb1] ++ [aC b3 51 [aA .i64 y1.Op, aA .i64 y1.N, fSl aW y1.Args, fSl (aB .i64) y1.Kids], aC b2 3 [aA .i64 a2], aC b1 64 [aG bN a0], aC b4 3 [aA .i64 y5]]) _
 dsimp only [List.append, List.cons_append, List.nil_append]
 refine Z7 ?_
 cases H
 refine aH [0] (by decide) ?_
 exact aEL [rb1] rfl (bU rfl) rfl rfl
 exact fk
 kernel_rfl
theorem aH1 (fuel : Nat)  (a0 : Usage_text) (a1 : Int) (a2 : Int) (r : Int) (H : gS fuel a0 a1 a2 = some r) : FnS Tryz.prog 33 [aG bN a0, aA .i64 a1, aA .i64 a2] [] (aA .i64 r) (fun _ => []) := (aE1 fuel).1 a0 a1 a2 r H
theorem aDG (fuel : Nat)  (a0 : Usage_text) (a1 : Int) (a2 : Int) (r : Int) (H : lR fuel a0 a1 a2 = some r) : FnS Tryz.prog 41 [aG bN a0, aA .i64 a1, aA .i64 a2] [] (aA .i64 r) (fun _ => []) := (aE1 fuel).2 a0 a1 a2 r H
def aAN (fuel : Nat) (a0 : ScopeProg) (a1 : Int) (a2 : Int) : Option (Int × Int) :=
 (zL fuel (⟨a0.Free, a0.Nodes, a0.Defs, a0.Main⟩ : ScopeProg) a1 a2).bind fun y1 =>
 bif y1.2 then
  (y1.1).bind fun y2 =>
  (gS fuel y2 a1 a2).bind fun y3 =>
  some (y3, 0)
 else
  some (0, 2)
theorem aIa (fuel : Nat)  (a0 : ScopeProg) (a1 : Int) (a2 : Int) (r : Int × Int) (H : aAN fuel a0 a1 a2 = some r) : FnS Tryz.prog 12 [fSt dG a0, aA .i64 a1, aA .i64 a2] [] (dC [aA .i64 r.1, aA .i64 r.2]) (fun _ => []) := by
 unfold aAN at H
 refine bK Tryz.func12 rfl Tryz.ntmps12 rfl (fun β => ?_)
 refine Z1 ?_
 refine aR trivial rfl rfl (cF rfl (has rfl) bO) (fun b1 => ?_)
 refine Z7 ?_
 revert H; refine bs fun y1 h1 H => ?_
 refine Tc (aDv _ _ _ _ _ h1) ?_
 refine Z6 ?_
 refine aI ?_
 refine Z4 ?_
 revert H; refine cs (fun c1 H => ?_) fun c1 H => ?_
 refine Z7 ?_
 revert H; refine bs fun y2 h2 H => ?_
 refine lW 15 rfl (tJ h2) ?_
 refine lW 8 rfl (tJ h2) ?_
 refine lW 19 rfl (tJ h2) ?_
 revert H; refine bs fun y3 h3 H => ?_
 refine Tc (aH1 _ _ _ _ _ h3) ?_
 refine Z4 ?_
 cases H
 refine aH [] (by decide) ?_
 exact gF rfl (bU rfl) (bU rfl) rfl
 refine Z6 ?_
 cases H
 refine aH [] (by decide) ?_
 exact gF rfl (bU rfl) (bU rfl) rfl
def aBJ (a0 : Int) (a1 : Int) : Option (Int × Int) :=
 (shrI .u64 a0 32).bind fun z1 =>
 (shrI .u64 a1 32).bind fun z2 =>
 (shrI .u64 (IntKind.wrap .u64 ((andI .u64 a0 4294967295) * (andI .u64 a1 4294967295))) 32).bind fun z3 =>
 (shrI .u64 (IntKind.wrap .u64 ((IntKind.wrap .u64 (z1 * (andI .u64 a1 4294967295))) + z3)) 32).bind fun z4 =>
 (shrI .u64 (IntKind.wrap .u64 ((andI .u64 (IntKind.wrap .u64 ((IntKind.wrap .u64 (z1 * (andI .u64 a1 4294967295))) + z3)) 4294967295) + (IntKind.wrap .u64 ((andI .u64 a0 4294967295) * z2)))) 32).bind fun z5 =>
 some (IntKind.wrap .u64 ((IntKind.wrap .u64 ((IntKind.wrap .u64 (z1 * z2)) + z4)) + z5), IntKind.wrap .u64 (a0 * a1))
theorem aGI  (a0 : Int) (a1 : Int) (r : Int × Int) (H : aBJ a0 a1 = some r) : FnS Tryz.prog 116 [aA .u64 a0, aA .u64 a1] [] (dC [aA .u64 r.1, aA .u64 r.2]) (fun _ => []) := by
 unfold aBJ at H
 refine bK Tryz.func116 rfl Tryz.ntmps116 rfl (fun β => ?_)
 refine Z11 ?_
 revert H; refine bs fun z1 h1 H => ?_
 refine Z10 ?_
 revert H; refine bs fun z2 h2 H => ?_
 refine Z12 ?_
 refine Z2 ?_
 revert H; refine bs fun z3 h3 H => ?_
 refine Z11 ?_
 revert H; refine bs fun z4 h4 H => ?_
 refine Z12 ?_
 refine Z6 ?_
 revert H; refine bs fun z5 h5 H => ?_
 refine Z11 ?_
 cases H
 exact gF rfl (bU rfl) (bU rfl) rfl
def aBQ (a0 : Int) (a1 : Int) : Option (Int × Int) :=
 (aBJ a0 a1).bind fun y1 =>
 some (y1.1, y1.2)
theorem aGS  (a0 : Int) (a1 : Int) (r : Int × Int) (H : aBQ a0 a1 = some r) : FnS Tryz.prog 100 [aA .u64 a0, aA .u64 a1] [] (dC [aA .u64 r.1, aA .u64 r.2]) (fun _ => []) := by
 unfold aBQ at H
 refine bK Tryz.func100 rfl Tryz.ntmps100 rfl (fun β => ?_)
 refine Z4 ?_
 refine aI ?_
 refine Z6 ?_
 revert H; refine bs fun y1 h1 H => ?_
 refine Tc (aGI _ _ _ h1) ?_
 refine Z12 ?_
 refine Z1 ?_
 cases H
 exact gF rfl (bU rfl) (bU rfl) rfl
end Go.Proofs.YtmnbfgeljmhekaaGreat
set_option maxRecDepth 100000
set_option maxHeartbeats 2000000
namespace Go.Proofs.YtmnbfgeljmhekaaGreat
open Go.SX Go.SW Go.Dt
attribute [local irreducible] Code.wpIn wpListIn Exit.then Exit.inBlock
def uR  : Nat → (List Int) → Int → Option (List Int)
| 0, _, _ => none
| k + 1, x4, x5 =>
 if x5 < (x4.length : Int) then
  (slc x4 x5 (x4.length : Int)).bind fun y3 =>
  (slc x4 0 x5).bind fun y4 =>
  (chk (x5 + ((min (Int.toNat x5 - Int.toNat 0) (Int.toNat (x4.length : Int) - Int.toNat x5) : Nat) : Int))).bind fun z1 =>
  uR k (cpy x4 (List.drop (Int.toNat 0) x4) (Int.toNat x5) (min (Int.toNat x5 - Int.toNat 0) (Int.toNat (x4.length : Int) - Int.toNat x5))) z1
 else
  some x4
def sR (fuel : Nat) (a0 : List Int) (a1 : Int) : Option (List Int) :=
 if a1 < 0 then
  none
 else
  (aBQ (IntKind.wrap .u64 (a0.length : Int)) (IntKind.wrap .u64 a1)).bind fun y1 =>
  if 0 < y1.1 then
   none
  else
   if 9223372036854775807 < y1.2 then
    none
   else
    (mk 0 (IntKind.wrap .i64 y1.2)).bind fun y2 =>
    (uR fuel (cpy y2 a0 0 (min a0.length y2.length)) ((min a0.length y2.length : Nat) : Int)).bind fun x1 =>
    some x1
theorem aAR (fuel : Nat)  (a0 : List Int) (a1 : Int) (r : List Int) (H : sR fuel a0 a1 = some r) : FnS Tryz.prog 80 [fSl (aB .i64) a0, aA .i64 a1] [] fAny (fun v => [(fun v => aE v 30 (aB .i64) r) v]) := by
 unfold sR at H
 refine bK Tryz.func80 rfl Tryz.ntmps80 rfl (fun β => ?_)
 refine Z3 ?_
 refine aI ?_
 refine Z4 ?_
 revert H; refine is (fun c1 H => ?_) fun c1 H => ?_
 refine Z2 ?_
 refine Yy (nW rfl hh aAQ) ?_
 cases H
 refine Z6 ?_
 refine Yy (aA2 rfl hh aCc aAS) ?_
 refine Z1 ?_
 refine Yy (aA2 rfl hh aCc aAS) ?_
 revert H; refine bs fun y1 h1 H => ?_
 refine Tc (aGS _ _ _ h1) ?_
 refine Z6 ?_
 refine aI ?_
 refine Z4 ?_
 revert H; refine is (fun c2 H => ?_) fun c2 H => ?_
 refine Z6 ?_
 refine Yy (nW rfl hh aAQ) ?_
 cases H
 refine Z4 ?_
 revert H; refine is (fun c3 H => ?_) fun c3 H => ?_
 refine Z2 ?_
 refine Yy (nW rfl hh aAQ) ?_
 cases H
 refine Z5 ?_
 refine Yy (aA2 rfl hh aAS aCc) ?_
 revert H; refine bs fun y2 h2 H => ?_
 refine aR trivial rfl rfl (kU (t := (aB .i64)) (z := 0) rfl (has rfl) (et rfl) rfl ty_ze_30 rfl h2) (fun b1 => ?_)
 generalize hv_v1 : (Value.slice (some ⟨b1, 0, none⟩) _ _) = v1; clear hv_v1
 refine aO 0 rfl (fun hc_v1 => ?_)
 refine Z5 ?_
 refine T_copyF (ys := a0) trivial rfl rfl rfl (has rfl) (has rfl) (et rfl) ?_
 refine Z2 ?_
 revert H; refine bs fun o1 H Hr1 => ?_
 refine aT (ι := List Int) (fun i => o1 = i) (fun i => [(7, fEq v1)]) (fun i => [aE v1 30 (aB .i64) i]) ?_ ?_
 refine Z1 ?_
 refine Tl (ι := Nat × List Int × Int) (fun i => uR i.1 i.2.1 i.2.2 = _) (fun i => i.1) (fun i => [(7, fEq v1), (8, aA .i64 i.2.2)]) (fun i => [aE v1 30 (aB .i64) i.2.1]) (fuel, cpy y2 a0 0 (min a0.length y2.length), ((min a0.length y2.length : Nat) : Int)) H ?_
 clear H; rintro ⟨k1, x4, x5⟩ H
 replace H : uR k1 x4 x5 = _ := H
 try dsimp only
 obtain _ | k1 := k1
 rw [uR] at H; cases H
 rw [uR] at H
 refine aI ?_
 refine Z6 ?_
 revert H; refine is (fun c4 H => ?_) fun c4 H => ?_
 refine Z4 ?_
 revert H; refine bs fun y3 h3 H => ?_
 revert H; refine bs fun y4 h4 H => ?_
 revert H; refine bs fun z1 h5 H => ?_
 apply bG (ods := [_, _, _, _, _, _, _, _, _, _]) 10 0 1 bF rfl rfl rfl
 dsimp only [bA, List.take, List.replicate, List.append, List.drop]
 refine M3 ?_
 intros
 refine Mo 0 rfl (aC9 (l := x5) (h := (x4.length : Int)) rfl hh (aCk hh) aBI (el rfl) h3) fun _ => ?_
 refine M2 ?_
 intros
 refine Mo 0 rfl (aC9 (l := 0) (h := x5) rfl hh aBI (aCk hh) (el rfl) h4) fun _ => ?_
 refine N_copyR (od := odC [0] true (aA .i64 ((min (Int.toNat x5 - Int.toNat 0) (Int.toNat (x4.length : Int) - Int.toNat x5) : Nat) : Int)) [aE v1 30 (aB .i64) (cpy x4 (List.drop (Int.toNat 0) x4) (Int.toNat x5) (min (Int.toNat x5 - Int.toNat 0) (Int.toNat (x4.length : Int) - Int.toNat x5)))]) (p := 0) rfl (fun _ => rfl) (fun _ => rfl) trivial rfl rfl rfl rfl (has rfl) (has rfl) (et rfl) ⟨(yP h3).1, (yP h3).2, (yP h4).1, (yP h4).2⟩ (fun _ => ?_)
 refine M2 ?_
 intros
 refine Z4 ?_
 exact Tm ((k1, cpy x4 (List.drop (Int.toNat 0) x4) (Int.toNat x5) (min (Int.toNat x5 - Int.toNat 0) (Int.toNat (x4.length : Int) - Int.toNat x5)), z1)) ⟨H, ls⟩
 exact fk
 kernel_rfl
 refine Z6 ?_
 exact Tm (x4) (ij H)
 clear H; intro x1 hi; subst o1; have H := Hr1; clear Hr1; try dsimp only at H
 try dsimp only
 refine Z5 ?_
 cases H
 exact tR rfl (bU rfl) (fun _ _ _ => trivial) rfl
def mU (fuel : Nat) (y1 : ScopeDef) : Nat → Int → (List (List Int)) → Option (List (List Int))
| 0, _, _ => none
| k + 1, x10, x11 =>
 if x10 < (y1.Chans.length : Int) then
  (idx y1.Chans x10).bind fun y4 =>
  (sR fuel [1] y4.Many).bind fun y5 =>
  (eA (x11 ++ ([y5] : List (List Int)))).bind fun z1 =>
  (chk (x10 + 1)).bind fun z2 =>
  mU fuel y1 k z2 z1
 else
  some x11
def nF (fuel : Nat) (a0 : Usage_text) : Nat → (List UsageDef) → Int → Option (List UsageDef)
| 0, _, _ => none
| k + 1, x4, x5 =>
 if x5 < (a0.ScopeProg.Defs.length : Int) then
  ((idx a0.ScopeProg.Defs x5).bind fun y1 =>
  (sR fuel [1] (y1.Chans.length : Int)).bind fun y2 =>
  (sR fuel [1] (y1.Rules.length : Int)).bind fun y3 =>
  (mU fuel y1 fuel 0 []).bind fun x7 =>
  (eA (x4 ++ ([(⟨y2, y3, x7⟩ : UsageDef)] : List UsageDef))).bind fun z3 =>
  some z3).bind fun x6 =>
  (chk (x5 + 1)).bind fun z4 =>
  nF fuel a0 k x6 z4
 else
  some x4
def tV (fuel : Nat) (a0 : Usage_text) : Option (List UsageDef) :=
 (nF fuel a0 fuel [] 0).bind fun x1 =>
 some x1
theorem aFt (fuel : Nat)  (a0 : Usage_text) (r : List UsageDef) (H : tV fuel a0 = some r) : FnS Tryz.prog 37 [aG bN a0] [] fAny (fun v => [(fun v => bE v 61 bV r) v]) := by
 unfold tV at H
 refine bK Tryz.func37 rfl Tryz.ntmps37 rfl (fun β => ?_)
 refine Z6 ?_
 revert H; refine bs fun o1 H Hr1 => ?_
 refine aT (ι := List UsageDef × Value) (fun i => o1 = i.1) (fun i => [(3, fEq i.2)]) (fun i => [bE i.2 61 bV i.1]) ?_ ?_
 refine Z10 ?_
 refine pU bV 61 ?_
 refine Tl (ι := Nat × List UsageDef × Int × Value) (fun i => nF fuel a0 i.1 i.2.1 i.2.2.1 = _) (fun i => i.1) (fun i => [(3, fEq i.2.2.2), (13, fSl aJ a0.ScopeProg.Defs), (14, aA .i64 (a0.ScopeProg.Defs.length : Int)), (15, aA .i64 i.2.2.1)]) (fun i => [bE i.2.2.2 61 bV i.2.1]) (fuel, [], 0, (.slice none 0 0)) H ?_
 clear H; rintro ⟨k1, x4, x5, v3⟩ H
 replace H : nF fuel a0 k1 x4 x5 = _ := H
 try dsimp only
 obtain _ | k1 := k1
 rw [nF] at H; cases H
 rw [nF] at H
 refine cM 0 rfl (fun hc_v3 => ?_)
 refine Z3 ?_
 refine aI ?_
 revert H; refine is (fun c1 H => ?_) fun c1 H => ?_
 refine Z3 ?_
 revert H; refine bs fun o2 H Hr2 => ?_
 refine aT (ι := List UsageDef × Value) (fun i => o2 = i.1) (fun i => [(13, fSl aJ a0.ScopeProg.Defs), (14, aA .i64 (a0.ScopeProg.Defs.length : Int)), (15, aA .i64 x5), (3, fEq i.2)]) (fun i => [bE i.2 61 bV i.1]) ?_ ?_
 refine Z2 ?_
 revert H; refine bs fun y1 h1 H => ?_
 refine Z2 ?_
 refine aR trivial rfl rfl (cB rfl jW rfl) (fun b1 => ?_)
 refine dB (φs' := [fSl aY y1.Chans, fSl bI y1.Spots, fSl bC y1.Rules]) trivial rfl rfl (has rfl) (has rfl) (aM (bB) (aM (bB) (aM (bB) bR))) (sz rfl) rfl rfl rfl ?_
 refine Z1 ?_
 refine aI ?_
 revert H; refine bs fun y2 h2 H => ?_
 revert H; refine bs fun y3 h3 H => ?_
 apply bG (ods := [_, _, _, _, _, _, _, _, _, _, _, _, _]) 13 3 5 bF rfl rfl rfl
 dsimp only [bA, List.take, List.replicate, List.append, List.drop]
 refine Mf (φ := fSl (aB .i64) [1]) (cC (t := (aB .i64)) (xs := [1]) rfl (et rfl) (aQ.cons rfl (has rfl) (aS (aF trivial)) aQ.nil) rfl rfl rfl) (fun b => cR) fun _ => ?_
 refine M3 ?_
 intros
 refine aBP (od := odN [2] true (fun _ v6 => eH v6) (fun _ v6 => [aE v6 30 (aB .i64) y2])) (p := 2) (τ := fun v => aE v 30 (aB .i64) y2) rfl (fun _ => rfl) (fun _ => rfl) trivial rfl rfl rfl (has rfl) (aD.cons (has rfl) (aD.cons (has rfl) aD.nil)) rfl (cb rfl) (aAR fuel [1] (y1.Chans.length : Int) y2 h2) (fun _ => dI) (fun u1 v6 => ?_)
 refine Mf (φ := fSl (aB .i64) [1]) (cC (t := (aB .i64)) (xs := [1]) rfl (et rfl) (aQ.cons rfl (has rfl) (aS (aF trivial)) aQ.nil) rfl rfl rfl) (fun b => cR) fun _ => ?_
 refine M3 ?_
 intros
 refine aBP (od := odN [3] true (fun _ v8 => eH v8) (fun _ v8 => [aE v8 30 (aB .i64) y3])) (p := 3) (τ := fun v => aE v 30 (aB .i64) y3) rfl (fun _ => rfl) (fun _ => rfl) trivial rfl rfl rfl (has rfl) (aD.cons (has rfl) (aD.cons (has rfl) aD.nil)) rfl (cb rfl) (aAR fuel [1] (y1.Rules.length : Int) y3 h3) (fun _ => dI) (fun u2 v8 => ?_)
 refine D2 4 9 _ v6 _ v8 (fun _ v6 _ v8 => fB [eH v6, eH v8, fEq (.slice none 0 0)]) rfl rfl (dS (ψs := [eH v6, eH v8, fEq (.slice none 0 0)]) rfl aBY rfl (aX.cons (has rfl) (aS (iX)) (aX.cons (has rfl) (aS (iX)) aX.nil)) rfl) (fun _ => ?_)
 refine Mn 4 (fun b4 => ptr b4) (fun b4 => aC b4 61 [fEq (.slice none 0 0), fEq (.slice none 0 0), fEq (.slice none 0 0)]) rfl (cB rfl sS rfl) (fun b4 u3 => ?_)
 refine pB (od := od3 4 9 11 [4] true (fun _ v6 _ v8 b4 _ => fAny) (fun _ v6 _ v8 b4 _ => [aC b4 61 [eH v6, eH v8, fEq (.slice none 0 0)]])) (p := 4) (φs' := [eH v6, eH v8, fEq (.slice none 0 0)]) rfl (fun _ => rfl) (fun _ => rfl) trivial rfl rfl rfl (has rfl) (has rfl) (aM (iX) (aM (iX) (aM (aF trivial) bR))) (sz rfl) rfl rfl rfl (fun _ => ?_)
 refine Z1 ?_
 refine lW 23 rfl gQ ?_
 refine lW 28 rfl gQ ?_
 refine lW 29 rfl (gZ (aP.cons gQ (aP.cons gQ (aP.cons Ent.rfl aP.nil)))) ?_
 refine aO 2 rfl (fun hc_v6 => ?_)
 refine aO 3 rfl (fun hc_v8 => ?_)
 refine bL ?_
 refine T_blkE (aP.cons gQ (aP.cons gQ (aP.cons Ent.rfl aP.nil))) ?_
 refine Z1 ?_
 revert H; refine bs fun o3 H Hr3 => ?_
 refine aT (ι := List (List Int) × Value) (fun i => o3 = i.1) (fun i => [(3, fEq v3), (13, fSl aJ a0.ScopeProg.Defs), (14, aA .i64 (a0.ScopeProg.Defs.length : Int)), (15, aA .i64 x5), (6, fEq (.pointer (some ⟨b4, 0, none⟩)))]) (fun i => [aC b4 61 [fEq v6, fEq v8, fEq i.2], aC b1 99 [fSl aY y1.Chans, fSl bI y1.Spots, fSl bC y1.Rules], bE v3 61 bV x4, aE v6 30 (aB .i64) y2, aE v8 30 (aB .i64) y3, bE i.2 58 (bQ 30 (aB .i64)) i.1]) ?_ ?_
 refine Z7 ?_
 refine pU (bQ 30 (aB .i64)) 58 ?_
 refine aH [1, 2, 3, 4, 5, 0] (by decide) ?_
 refine Tl (ι := Nat × Int × List (List Int) × Value) (fun i => mU fuel y1 i.1 i.2.1 i.2.2.1 = _) (fun i => i.1) (fun i => [(3, fEq v3), (13, fSl aJ a0.ScopeProg.Defs), (14, aA .i64 (a0.ScopeProg.Defs.length : Int)), (15, aA .i64 x5), (6, fEq (.pointer (some ⟨b4, 0, none⟩))), (31, fSl aY y1.Chans), (32, aA .i64 (y1.Chans.length : Int)), (33, aA .i64 i.2.1)]) (fun i => [aC b4 61 [fEq v6, fEq v8, fEq i.2.2.2], aC b1 99 [fSl aY y1.Chans, fSl bI y1.Spots, fSl bC y1.Rules], bE v3 61 bV x4, aE v6 30 (aB .i64) y2, aE v8 30 (aB .i64) y3, bE i.2.2.2 58 (bQ 30 (aB .i64)) i.2.2.1]) (fuel, 0, [], (.slice none 0 0)) H ?_
 clear H; rintro ⟨k2, x10, x11, v11⟩ H
 replace H : mU fuel y1 k2 x10 x11 = _ := H
 try dsimp only
 obtain _ | k2 := k2
 rw [mU] at H; cases H
 rw [mU] at H
 refine cM 5 rfl (fun hc_v11 => ?_)
 refine Z3 ?_
 refine aI ?_
 revert H; refine is (fun c2 H => ?_) fun c2 H => ?_
 refine Z3 ?_
 refine aI ?_
 refine Z2 ?_
 revert H; refine bs fun y4 h4 H => ?_
 refine Z2 ?_
 refine aR trivial rfl rfl (cB rfl aAC rfl) (fun b5 => ?_)
 refine dB (φs' := [aA .i64 y4.At, aA .i64 y4.Many]) trivial rfl rfl (has rfl) (has rfl) (aM (aF trivial) (aM (aF trivial) bR)) (sz rfl) rfl rfl rfl ?_
 refine Z1 ?_
 revert H; refine bs fun y5 h5 H => ?_
 apply bG (ods := [_, _, _, _, _, _, _]) 7 2 9 bF rfl rfl rfl
 dsimp only [bA, List.take, List.replicate, List.append, List.drop]
 refine M2 ?_
 intros
 refine Mf (φ := fSl (aB .i64) [1]) (cC (t := (aB .i64)) (xs := [1]) rfl (et rfl) (aQ.cons rfl (has rfl) (aS (aF trivial)) aQ.nil) rfl rfl rfl) (fun b => cR) fun _ => ?_
 refine M2 ?_
 intros
 refine aBP (od := odN [7] true (fun _ v13 => eH v13) (fun _ v13 => [aE v13 30 (aB .i64) y5])) (p := 7) (τ := fun v => aE v 30 (aB .i64) y5) rfl (fun _ => rfl) (fun _ => rfl) trivial rfl rfl rfl (has rfl) (aD.cons (has rfl) (aD.cons (has rfl) aD.nil)) rfl (cb rfl) (aAR fuel [1] y4.Many y5 h5) (fun _ => dI) (fun u4 v13 => ?_)
 refine N_new (od := odN1 5 [8] true (fun _ v13 b7 _ => fEq (.slice (some ⟨b7, 0, none⟩) 1 1)) (fun _ v13 b7 _ => [aE (.slice (some ⟨b7, 0, none⟩) 1 1) 58 (tF 1) [[⟨eH v13, iX⟩]]])) (p := 8) (f := fun b7 => .slice (some ⟨b7, 0, none⟩) 1 1) (τ := fun b7 => aE (.slice (some ⟨b7, 0, none⟩) 1 1) 58 (tF 1) [[⟨eH v13, iX⟩]]) rfl (fun _ => rfl) (fun _ => rfl) trivial rfl rfl (cC (t := tF 1) (xs := [[⟨eH v13, iX⟩]]) rfl (et rfl) (aQ.cons rfl (has rfl) (aS (iX)) aQ.nil) rfl rfl rfl) (fun b7 u5 => ?_)
 refine Z1 ?_
 refine lW 42 rfl gQ ?_
 refine aO 7 rfl (fun hc_v13 => ?_)
 generalize hv_v14 : (Value.slice (some ⟨b7, 0, none⟩) 1 1) = v14; clear hv_v14
 refine T_fr8 ?_
 refine kT ?_
 refine T_fr8 ?_
 refine eP (p := 0) (f := (fun v => aE v 30 (aB .i64) y5)) (hf := (fun _ => dI)) rfl gQ ?_
 refine lM (o := (bQ 30 (aB .i64))) (xs := ([y5] : List (List Int))) rfl rfl rfl ?_
 refine cM 0 rfl (fun hc_v14 => ?_)
 revert H; refine bs fun z1 h6 H => ?_
 refine T_fr7 ?_
 refine cA ?_
 refine rI (q := (bQ 30 (aB .i64))) trivial rfl rfl rfl (has rfl) (has rfl) (et rfl) rfl h6 (fun v15 => ?_)
 refine cM 0 rfl (fun hc_v15 => ?_)
 refine Z1 ?_
 refine eB ?_
 refine cY (φs' := [fEq v6, fEq v8, fEq v15]) trivial rfl rfl (has rfl) (has rfl) (aF hc_v15) (sz rfl) rfl rfl ?_
 refine Z4 ?_
 revert H; refine bs fun z2 h7 H => ?_
 refine Z3 ?_
 refine aH [0, 3, 4, 5, 6, 1] (by decide) ?_
 exact Tm ((k2, z2, z1, v15)) ⟨H, ls⟩
 exact fk
 kernel_rfl
 refine Z6 ?_
 exact Tm ((x11, v11)) (ij H)
 clear H; intro i hi; obtain ⟨x7, v9⟩ := i; subst o3; have H := Hr3; clear Hr3; try dsimp only at H
 try dsimp only
 refine cM 5 rfl (fun hc_v9 => ?_)
 refine Z3 ?_
 refine aR trivial rfl rfl (cC (t := tF 3) (xs := [[⟨fEq v6, aF hc_v6⟩, ⟨fEq v8, aF hc_v8⟩, ⟨fEq v9, aF hc_v9⟩]]) rfl (et rfl) (aQ.cons rfl (has rfl) bO aQ.nil) rfl rfl rfl) (fun b8 => ?_)
 generalize hv_v16 : (Value.slice (some ⟨b8, 0, none⟩) _ _) = v16; clear hv_v16
 refine kT ?_
 refine bL ?_
 refine eP (p := 0) (f := (fun v => aE v 30 (aB .i64) y2)) (hf := (fun _ => dI)) rfl Ent.rfl ?_
 refine bL ?_
 refine eP (p := 1) (f := (fun v => aE v 30 (aB .i64) y3)) (hf := (fun _ => dI)) rfl Ent.rfl ?_
 refine bL ?_
 refine eP (p := 2) (f := (fun v => bE v 58 (bQ 30 (aB .i64)) x7)) (hf := (fun _ => iC)) rfl Ent.rfl ?_
 refine lM (o := bV) (xs := ([(⟨y2, y3, x7⟩ : UsageDef)] : List UsageDef)) rfl rfl rfl ?_
 refine cM 0 rfl (fun hc_v16 => ?_)
 revert H; refine bs fun z3 h8 H => ?_
 refine dD ?_
 refine cA ?_
 refine rI (q := bV) trivial rfl rfl rfl (has rfl) (has rfl) (et rfl) rfl h8 (fun v17 => ?_)
 refine cM 0 rfl (fun hc_v17 => ?_)
 refine Z4 ?_
 refine aH [0] (by decide) ?_
 exact Tm ((z3, v17)) (ij H)
 exact fk
 kernel_rfl
 clear H; intro i hi; obtain ⟨x6, v4⟩ := i; subst o2; have H := Hr2; clear Hr2; try dsimp only at H
 try dsimp only
 refine cM 0 rfl (fun hc_v4 => ?_)
 refine Z1 ?_
 revert H; refine bs fun z4 h9 H => ?_
 refine Z3 ?_
 exact Tm ((k1, x6, z4, v4)) ⟨H, ls⟩
 refine Z6 ?_
 exact Tm ((x4, v3)) (ij H)
 clear H; intro i hi; obtain ⟨x1, v1⟩ := i; subst o1; have H := Hr1; clear Hr1; try dsimp only at H
 try dsimp only
 refine cM 0 rfl (fun hc_v1 => ?_)
 refine Z5 ?_
 cases H
 exact tR rfl (bU rfl) (fun _ _ _ => trivial) rfl
def rC (a0 : Usage_text) (a1 : Int) (a2 : Int) : Option (Int) :=
 (idx a0.heads a1).bind fun y1 =>
 (idx a0.sizes y1).bind fun y2 =>
 (chk (y2 + a2)).bind fun z1 =>
 some z1
theorem zT  (a0 : Usage_text) (a1 : Int) (a2 : Int) (r : Int) (H : rC a0 a1 a2 = some r) : FnS Tryz.prog 42 [aG bN a0, aA .i64 a1, aA .i64 a2] [] (aA .i64 r) (fun _ => []) := by
 unfold rC at H
 refine bK Tryz.func42 rfl Tryz.ntmps42 rfl (fun β => ?_)
 refine Z3 ?_
 refine aI ?_
 revert H; refine bs fun y1 h1 H => ?_
 revert H; refine bs fun y2 h2 H => ?_
 revert H; refine bs fun z1 h3 H => ?_
 apply bG (ods := [_, _, _, _, _, _, _, _, _, _, _, _, _, _, _, _]) 16 0 0 bF rfl rfl rfl
 dsimp only [bA, List.take, List.replicate, List.append, List.drop]
 refine M8 ?_
 intros
 refine M8 ?_
 intros
 refine Z3 ?_
 cases H
 exact To
 exact fk
 kernel_rfl
def nJ (fuel : Nat) (a0 : Usage_text) (a1 : List UsageDef) (a2 : Int) (y1 : ScopeDef) : Nat → (List (List Int)) → Int → (List Int) → Option (List (List Int) × List Int)
| 0, _, _, _ => none
| k + 1, x6, x7, x8 =>
 if x7 < (y1.Chans.length : Int) then
  (idx y1.Chans x7).bind fun y3 =>
  (idx a0.heads a2).bind fun y4 =>
  (rC a0 a2 x7).bind fun y5 =>
  (pO fuel a0 a1 y4 y5).bind fun y6 =>
  (qT y6).bind fun y7 =>
  (eA (x8 ++ [y7])).bind fun z1 =>
  (mk 0 y3.Many).bind fun y8 =>
  (idx x6 x7).bind fun y9 =>
  (chk (x7 + 1)).bind fun z2 =>
  nJ fuel a0 a1 a2 y1 k (x6.set x7.toNat y8) z2 z1
 else
  some (x6, x8)
def nG (a1 : List UsageDef) (a2 : Int) (y10 : ScopeRule) : Nat → Int → Int → Option (Int)
| 0, _, _ => none
| k + 1, x22, x23 =>
 if x23 < (y10.Joins.length : Int) then
  (idx y10.Joins x23).bind fun y11 =>
  (idx a1 a2).bind fun y12 =>
  (idx y12.Chans y11).bind fun y13 =>
  (nV y13).bind fun y14 =>
  (chk (x23 + 1)).bind fun z3 =>
  nG a1 a2 y10 k (min x22 y14) z3
 else
  some x22
def mE (fuel : Nat) (a0 : Usage_text) (a1 : List UsageDef) (y10 : ScopeRule) (x27 : List (List Int)) (y20 : Int) (y21 : List Int) : Nat → Int → Int → (List Int) → Option (List (List Int) × Int)
| 0, _, _, _ => none
| k + 1, x35, x36, x37 =>
 if x36 < (y21.length : Int) then
  (idx x27 y20).bind fun y22 =>
  (idx x27 y20).bind fun y23 =>
  (idx x37 x36).bind fun y24 =>
  (fG fuel a0 a1 y10.Node x35).bind fun y25 =>
  (oU y24 y25).bind fun y26 =>
  (idx x37 x36).bind fun y27 =>
  (chk (x35 + 1)).bind fun z6 =>
  (chk (x36 + 1)).bind fun z7 =>
  mE fuel a0 a1 y10 x27 y20 y21 k z6 z7 (x37.set x36.toNat y26)
 else
  some (x27.set y20.toNat x37, x35)
def nB (fuel : Nat) (a0 : Usage_text) (a1 : List UsageDef) (y10 : ScopeRule) (z4 : List Int) : Nat → (List (List Int)) → Int → Int → Option (List (List Int) × List Int)
| 0, _, _, _ => none
| k + 1, x27, x28, x29 =>
 if x29 < (y10.Joins.length : Int) then
  ((idx y10.Joins x29).bind fun y20 =>
  (idx x27 y20).bind fun y21 =>
  mE fuel a0 a1 y10 x27 y20 y21 fuel x28 0 y21).bind fun (x30, x31) =>
  (chk (x29 + 1)).bind fun z8 =>
  nB fuel a0 a1 y10 z4 k x30 x31 z8
 else
  some (x27, z4)
def lV (fuel : Nat) (a0 : Usage_text) (a1 : List UsageDef) (a2 : Int) (y1 : ScopeDef) : Nat → (List (List Int)) → Int → (List Int) → Option (List (List Int) × List Int)
| 0, _, _, _ => none
| k + 1, x14, x15, x16 =>
 if x15 < (y1.Rules.length : Int) then
  ((idx y1.Rules x15).bind fun y10 =>
  (nG a1 a2 y10 fuel 2 0).bind fun x19 =>
  (qT x19).bind fun y15 =>
  (eA (x16 ++ [y15])).bind fun z4 =>
  (idx a1 a2).bind fun y16 =>
  (idx y16.Rules x15).bind fun y17 =>
  (nV y17).bind fun y18 =>
  if y18 = 0 then
   some (x14, z4)
  else
   (rC a0 a2 (y1.Chans.length : Int)).bind fun y19 =>
   (chk (y19 + (y1.Spots.length : Int))).bind fun z5 =>
   nB fuel a0 a1 y10 z4 fuel x14 z5 0).bind fun (x17, x18) =>
  (chk (x15 + 1)).bind fun z9 =>
  lV fuel a0 a1 a2 y1 k x17 z9 x18
 else
  some (x14, x16)
def nH (y28 : List Int) : Nat → (List Int) → Int → Option (List Int)
| 0, _, _ => none
| k + 1, x50, x51 =>
 if x51 < (y28.length : Int) then
  (idx y28 x51).bind fun y29 =>
  (qT y29).bind fun y30 =>
  (eA (x50 ++ [y30])).bind fun z10 =>
  (chk (x51 + 1)).bind fun z11 =>
  nH y28 k z10 z11
 else
  some x50
def oB (fuel : Nat) (x9 : List (List Int)) : Nat → (List (List Int)) → Int → (List (List Int)) → Option (List (List Int))
| 0, _, _, _ => none
| k + 1, x42, x43, x44 =>
 if x43 < (x9.length : Int) then
  ((idx x42 x43).bind fun y28 =>
  (nH y28 fuel [] 0).bind fun x47 =>
  (eA (x44 ++ ([x47] : List (List Int)))).bind fun z12 =>
  some (x42.set x43.toNat y28, z12)).bind fun (x45, x46) =>
  (chk (x43 + 1)).bind fun z13 =>
  oB fuel x9 k x45 z13 x46
 else
  some x44
def uD (fuel : Nat) (a0 : Usage_text) (a1 : List UsageDef) (a2 : Int) : Option (UsageDef) :=
 (idx a0.ScopeProg.Defs a2).bind fun y1 =>
 (mk ([] : List Int) (y1.Chans.length : Int)).bind fun y2 =>
 (nJ fuel a0 a1 a2 y1 fuel y2 0 []).bind fun (x1, x2) =>
 (lV fuel a0 a1 a2 y1 fuel x1 0 []).bind fun (x9, x10) =>
 (oB fuel x9 fuel x9 0 []).bind fun x38 =>
 some (⟨x2, x10, x38⟩ : UsageDef)
theorem aGt (fuel : Nat)  (a0 : Usage_text) (a1 : List UsageDef) (a2 : Int) (r : UsageDef) (H : uD fuel a0 a1 a2 = some r) : FnS Tryz.prog 81 [aG bN a0, fSl bD a1, aA .i64 a2] [] fAny (fun v => [rK .agg [.own (fun v => aE v 30 (aB .i64) r.Chans) (fun _ => dI), .own (fun v => aE v 30 (aB .i64) r.Rules) (fun _ => dI), .own (fun v => bE v 58 (bQ 30 (aB .i64)) r.Args) (fun _ => iC)] v]) := by
 unfold uD at H
 refine bK Tryz.func81 rfl Tryz.ntmps81 rfl (fun β => ?_)
 refine Z1 ?_
 refine aR trivial rfl rfl (cB rfl sS rfl) (fun b1 => ?_)
 refine Z8 ?_
 revert H; refine bs fun y1 h1 H => ?_
 refine Z2 ?_
 refine aR trivial rfl rfl (cB rfl jW rfl) (fun b2 => ?_)
 refine dB (φs' := [fSl aY y1.Chans, fSl bI y1.Spots, fSl bC y1.Rules]) trivial rfl rfl (has rfl) (has rfl) (aM (bB) (aM (bB) (aM (bB) bR))) (sz rfl) rfl rfl rfl ?_
 refine Z2 ?_
 refine aR trivial rfl rfl (cB rfl sS rfl) (fun b3 => ?_)
 refine Z5 ?_
 revert H; refine bs fun y2 h2 H => ?_
 obtain ⟨h3, h4⟩ := mk_rep (z' := ([⟨fEq (.slice none 0 0), aF trivial⟩] : List LF)) h2
 refine aR trivial rfl rfl (kU (t := tF 1) (z := [⟨fEq (.slice none 0 0), aF trivial⟩]) rfl (has rfl) (et rfl) rfl aGi rfl h4) (fun b4 => ?_)
 generalize hv_v1 : (Value.slice (some ⟨b4, 0, none⟩) _ _) = v1; clear hv_v1
 refine T_nilsD2 (o := (bQ 67 (aB .i64))) (ys := y2) h3 rfl nil_tk ?_
 refine cM 0 rfl (fun hc_v1 => ?_)
 refine Z2 ?_
 revert H; refine bs fun o1 H Hr1 => ?_
 refine aT (ι := List (List Int) × List Int × Value) (fun i => o1 = (i.1, i.2.1)) (fun i => [(0, aG bN a0), (1, fSl bD a1), (2, aA .i64 a2), (6, fEq (.pointer (some ⟨b1, 0, none⟩))), (7, fEq (.pointer (some ⟨b2, 0, none⟩))), (8, fEq (.pointer (some ⟨b3, 0, none⟩))), (9, fEq v1)]) (fun i => [aC b3 61 [fEq i.2.2, fEq (.slice none 0 0), fEq (.slice none 0 0)], aC b2 99 [fSl aY y1.Chans, fSl bI y1.Spots, fSl bC y1.Rules], aC b1 61 [fEq (.slice none 0 0), fEq (.slice none 0 0), fEq (.slice none 0 0)], bE v1 157 (bQ 67 (aB .i64)) i.1, aE i.2.2 30 (aB .i64) i.2.1]) ?_ ?_
 refine Z7 ?_
 refine lS (aB .i64) 30 ?_
 refine aH [2, 3, 4, 1, 0] (by decide) ?_
 refine Tl (ι := Nat × List (List Int) × Int × List Int × Value) (fun i => nJ fuel a0 a1 a2 y1 i.1 i.2.1 i.2.2.1 i.2.2.2.1 = _) (fun i => i.1) (fun i => [(0, aG bN a0), (1, fSl bD a1), (2, aA .i64 a2), (6, fEq (.pointer (some ⟨b1, 0, none⟩))), (7, fEq (.pointer (some ⟨b2, 0, none⟩))), (8, fEq (.pointer (some ⟨b3, 0, none⟩))), (9, fEq v1), (39, fSl aY y1.Chans), (40, aA .i64 (y1.Chans.length : Int)), (41, aA .i64 i.2.2.1)]) (fun i => [aC b3 61 [fEq i.2.2.2.2, fEq (.slice none 0 0), fEq (.slice none 0 0)], aC b2 99 [fSl aY y1.Chans, fSl bI y1.Spots, fSl bC y1.Rules], aC b1 61 [fEq (.slice none 0 0), fEq (.slice none 0 0), fEq (.slice none 0 0)], bE v1 157 (bQ 67 (aB .i64)) i.2.1, aE i.2.2.2.2 30 (aB .i64) i.2.2.2.1]) (fuel, y2, 0, [], (.slice none 0 0)) H ?_
 clear H; rintro ⟨k1, x6, x7, x8, v4⟩ H
 replace H : nJ fuel a0 a1 a2 y1 k1 x6 x7 x8 = _ := H
 try dsimp only
 obtain _ | k1 := k1
 rw [nJ] at H; cases H
 rw [nJ] at H
 refine aO 4 rfl (fun hc_v4 => ?_)
 refine Z3 ?_
 refine aI ?_
 revert H; refine is (fun c1 H => ?_) fun c1 H => ?_
 refine Z3 ?_
 refine aI ?_
 refine Z3 ?_
 revert H; refine bs fun y3 h5 H => ?_
 refine Z2 ?_
 refine aR trivial rfl rfl (cB rfl aAC rfl) (fun b5 => ?_)
 refine Z1 ?_
 refine dB (φs' := [aA .i64 y3.At, aA .i64 y3.Many]) trivial rfl rfl (has rfl) (has rfl) (aM (aF trivial) (aM (aF trivial) bR)) (sz rfl) rfl rfl rfl ?_
 refine Z1 ?_
 refine aI ?_
 revert H; refine bs fun y4 h6 H => ?_
 revert H; refine bs fun y5 h7 H => ?_
 revert H; refine bs fun y6 h8 H => ?_
 revert H; refine bs fun y7 h9 H => ?_
 apply bG (ods := [_, _, _, _, _, _, _, _, _, _, _, _, _, _, _, _, _, _]) 18 0 6 bF rfl rfl rfl
 dsimp only [bA, List.take, List.replicate, List.append, List.drop]
 refine M8 ?_
 intros
 refine M6 ?_
 intros
 refine bP (od := odC [] true (aA .i64 y5) []) (Φ := aA .i64 y5) rfl (fun _ => rfl) trivial rfl rfl (has rfl) (aD.cons (has rfl) (aD.cons (has rfl) (aD.cons (has rfl) aD.nil))) rfl (cb rfl) (zT a0 a2 x7 y5 h7) (fun _ => ?_)
 refine bP (od := odC [] true (aA .i64 y6) []) (Φ := aA .i64 y6) rfl (fun _ => rfl) trivial rfl rfl (has rfl) (aD.cons (has rfl) (aD.cons (has rfl) (aD.cons (has rfl) (aD.cons (has rfl) aD.nil)))) rfl (cb rfl) (aFx fuel a0 a1 y4 y5 y6 h8) (fun _ => ?_)
 refine bP (od := odC [] true (aA .i64 y7) []) (Φ := aA .i64 y7) rfl (fun _ => rfl) trivial rfl rfl (has rfl) (aD.cons (has rfl) aD.nil) rfl (cb rfl) (zO y6 y7 h9) (fun _ => ?_)
 refine Mf (φ := fSl (aB .i64) [y7]) (cC (t := (aB .i64)) (xs := [y7]) rfl (et rfl) (aQ.cons rfl (has rfl) (aS (aF trivial)) aQ.nil) rfl rfl rfl) (fun b => cR) fun _ => ?_
 refine Z1 ?_
 revert H; refine bs fun z1 h10 H => ?_
 refine jA ?_
 refine uI (ys := [y7]) trivial rfl rfl rfl (has rfl) (has rfl) (et rfl) rfl h10 (fun v6 => ?_)
 refine aO 0 rfl (fun hc_v6 => ?_)
 refine Z1 ?_
 refine eB ?_
 refine cY (φs' := [fEq v6, fEq (.slice none 0 0), fEq (.slice none 0 0)]) trivial rfl rfl (has rfl) (has rfl) (aF hc_v6) (sz rfl) rfl rfl ?_
 refine Z6 ?_
 revert H; refine bs fun y8 h11 H => ?_
 refine aR trivial rfl rfl (kU (t := (aB .i64)) (z := 0) rfl (has rfl) (et rfl) rfl aFh rfl h11) (fun b7 => ?_)
 generalize hv_v7 : (Value.slice (some ⟨b7, 0, none⟩) _ _) = v7; clear hv_v7
 refine aO 0 rfl (fun hc_v7 => ?_)
 revert H; refine bs fun y9 h12 H => ?_
 refine Yo 6 rfl (hZ rfl hh hh (el rfl) h12) ?_
 refine mY ?_
 refine cA ?_
 refine aF3 (z' := y8) (f := (fun v => aE v 67 (aB .i64) y8)) (hf := (fun _ => dI)) trivial rfl rfl rfl (has rfl) (has rfl) hc_v7 (sz rfl) (bW h12) rfl rfl ?_
 refine Z4 ?_
 revert H; refine bs fun z2 h13 H => ?_
 refine Z3 ?_
 refine aH [1, 4, 5, 0, 2] (by decide) ?_
 exact Tm ((k1, x6.set x7.toNat y8, z2, z1, v6)) ⟨H, ls⟩
 exact fk
 kernel_rfl
 refine Z6 ?_
 exact Tm ((x6, x8, v4)) (ij H)
 clear H; intro i hi; obtain ⟨x1, x2, v2⟩ := i; subst o1; have H := Hr1; clear Hr1; try dsimp only at H
 try dsimp only
 refine aO 4 rfl (fun hc_v2 => ?_)
 revert H; refine bs fun o2 H Hr2 => ?_
 refine aT (ι := List (List Int) × List Int × Value) (fun i => o2 = (i.1, i.2.1)) (fun i => [(6, fEq (.pointer (some ⟨b1, 0, none⟩))), (8, fEq (.pointer (some ⟨b3, 0, none⟩))), (9, fEq v1)]) (fun i => [aC b3 61 [fEq v2, fEq i.2.2, fEq (.slice none 0 0)], aC b2 99 [fSl aY y1.Chans, fSl bI y1.Spots, fSl bC y1.Rules], aC b1 61 [fEq (.slice none 0 0), fEq (.slice none 0 0), fEq (.slice none 0 0)], bE v1 157 (bQ 67 (aB .i64)) i.1, aE v2 30 (aB .i64) x2, aE i.2.2 30 (aB .i64) i.2.1]) ?_ ?_
 refine Z7 ?_
 refine lS (aB .i64) 30 ?_
 refine aH [1, 2, 3, 4, 5, 0] (by decide) ?_
 refine Tl (ι := Nat × List (List Int) × Int × List Int × Value) (fun i => lV fuel a0 a1 a2 y1 i.1 i.2.1 i.2.2.1 i.2.2.2.1 = _) (fun i => i.1) (fun i => [(0, aG bN a0), (1, fSl bD a1), (2, aA .i64 a2), (6, fEq (.pointer (some ⟨b1, 0, none⟩))), (7, fEq (.pointer (some ⟨b2, 0, none⟩))), (8, fEq (.pointer (some ⟨b3, 0, none⟩))), (9, fEq v1), (74, fSl bC y1.Rules), (75, aA .i64 (y1.Rules.length : Int)), (76, aA .i64 i.2.2.1)]) (fun i => [aC b3 61 [fEq v2, fEq i.2.2.2.2, fEq (.slice none 0 0)], aC b2 99 [fSl aY y1.Chans, fSl bI y1.Spots, fSl bC y1.Rules], aC b1 61 [fEq (.slice none 0 0), fEq (.slice none 0 0), fEq (.slice none 0 0)], bE v1 157 (bQ 67 (aB .i64)) i.2.1, aE v2 30 (aB .i64) x2, aE i.2.2.2.2 30 (aB .i64) i.2.2.2.1]) (fuel, x1, 0, [], (.slice none 0 0)) H ?_
 clear H; rintro ⟨k2, x14, x15, x16, v10⟩ H
 replace H : lV fuel a0 a1 a2 y1 k2 x14 x15 x16 = _ := H
 try dsimp only
 obtain _ | k2 := k2
 rw [lV] at H; cases H
 rw [lV] at H
 refine aO 5 rfl (fun hc_v10 => ?_)
 refine Z3 ?_
 refine aI ?_
 revert H; refine is (fun c2 H => ?_) fun c2 H => ?_
 refine Z3 ?_
 revert H; refine bs fun o3 H Hr3 => ?_
 refine aT (ι := List (List Int) × List Int × Value) (fun i => o3 = (i.1, i.2.1)) (fun i => [(0, aG bN a0), (1, fSl bD a1), (2, aA .i64 a2), (6, fEq (.pointer (some ⟨b1, 0, none⟩))), (7, fEq (.pointer (some ⟨b2, 0, none⟩))), (8, fEq (.pointer (some ⟨b3, 0, none⟩))), (9, fEq v1), (74, fSl bC y1.Rules), (75, aA .i64 (y1.Rules.length : Int)), (76, aA .i64 x15)]) (fun i => [aC b3 61 [fEq v2, fEq i.2.2, fEq (.slice none 0 0)], aC b2 99 [fSl aY y1.Chans, fSl bI y1.Spots, fSl bC y1.Rules], aC b1 61 [fEq (.slice none 0 0), fEq (.slice none 0 0), fEq (.slice none 0 0)], bE v1 157 (bQ 67 (aB .i64)) i.1, aE v2 30 (aB .i64) x2, aE i.2.2 30 (aB .i64) i.2.1]) ?_ ?_
 refine Z3 ?_
 revert H; refine bs fun y10 h14 H => ?_
 refine Z2 ?_
 refine aR trivial rfl rfl (cB rfl vF rfl) (fun b8 => ?_)
 refine Z1 ?_
 refine dB (φs' := [aA .i64 y10.At, fSl (aB .i64) y10.Joins, aA .i64 y10.Node]) trivial rfl rfl (has rfl) (has rfl) (aM (aF trivial) (aM (bB) (aM (aF trivial) bR))) (sz rfl) rfl rfl rfl ?_
 refine Z4 ?_
 revert H; refine bs fun o4 H Hr4 => ?_
 refine aT (ι := Int) (fun i => o4 = i) (fun i => [(0, aG bN a0), (1, fSl bD a1), (2, aA .i64 a2), (6, fEq (.pointer (some ⟨b1, 0, none⟩))), (7, fEq (.pointer (some ⟨b2, 0, none⟩))), (8, fEq (.pointer (some ⟨b3, 0, none⟩))), (9, fEq v1), (74, fSl bC y1.Rules), (75, aA .i64 (y1.Rules.length : Int)), (76, aA .i64 x15), (13, fEq (.pointer (some ⟨b8, 0, none⟩))), (12, aA .i64 x15), (14, aA .i64 i)]) (fun i => [aC b8 105 [aA .i64 y10.At, fSl (aB .i64) y10.Joins, aA .i64 y10.Node], aC b3 61 [fEq v2, fEq v10, fEq (.slice none 0 0)], aC b2 99 [fSl aY y1.Chans, fSl bI y1.Spots, fSl bC y1.Rules], aC b1 61 [fEq (.slice none 0 0), fEq (.slice none 0 0), fEq (.slice none 0 0)], bE v1 157 (bQ 67 (aB .i64)) x14, aE v2 30 (aB .i64) x2, aE v10 30 (aB .i64) x16]) ?_ ?_
 refine Z7 ?_
 refine Tl (ι := Nat × Int × Int) (fun i => nG a1 a2 y10 i.1 i.2.1 i.2.2 = _) (fun i => i.1) (fun i => [(0, aG bN a0), (1, fSl bD a1), (2, aA .i64 a2), (6, fEq (.pointer (some ⟨b1, 0, none⟩))), (7, fEq (.pointer (some ⟨b2, 0, none⟩))), (8, fEq (.pointer (some ⟨b3, 0, none⟩))), (9, fEq v1), (74, fSl bC y1.Rules), (75, aA .i64 (y1.Rules.length : Int)), (76, aA .i64 x15), (13, fEq (.pointer (some ⟨b8, 0, none⟩))), (12, aA .i64 x15), (14, aA .i64 i.2.1), (82, fSl (aB .i64) y10.Joins), (83, aA .i64 (y10.Joins.length : Int)), (84, aA .i64 i.2.2)]) (fun i => [aC b8 105 [aA .i64 y10.At, fSl (aB .i64) y10.Joins, aA .i64 y10.Node], aC b3 61 [fEq v2, fEq v10, fEq (.slice none 0 0)], aC b2 99 [fSl aY y1.Chans, fSl bI y1.Spots, fSl bC y1.Rules], aC b1 61 [fEq (.slice none 0 0), fEq (.slice none 0 0), fEq (.slice none 0 0)], bE v1 157 (bQ 67 (aB .i64)) x14, aE v2 30 (aB .i64) x2, aE v10 30 (aB .i64) x16]) (fuel, 2, 0) H ?_
 clear H; rintro ⟨k3, x22, x23⟩ H
 replace H : nG a1 a2 y10 k3 x22 x23 = _ := H
 try dsimp only
 obtain _ | k3 := k3
 rw [nG] at H; cases H
 rw [nG] at H
 refine Z3 ?_
 refine aI ?_
 revert H; refine is (fun c3 H => ?_) fun c3 H => ?_
 refine Z3 ?_
 refine aI ?_
 refine Z2 ?_
 revert H; refine bs fun y11 h15 H => ?_
 refine Z8 ?_
 revert H; refine bs fun y12 h16 H => ?_
 refine Z4 ?_
 revert H; refine bs fun y13 h17 H => ?_
 refine Z2 ?_
 revert H; refine bs fun y14 h18 H => ?_
 refine Tc (vL _ _ h18) ?_
 refine Z6 ?_
 revert H; refine bs fun z3 h19 H => ?_
 refine Z3 ?_
 exact Tm ((k3, min x22 y14, z3)) ⟨H, ls⟩
 refine Z6 ?_
 exact Tm (x22) (ij H)
 clear H; intro x19 hi; subst o4; have H := Hr4; clear Hr4; try dsimp only at H
 try dsimp only
 refine aI ?_
 revert H; refine bs fun y15 h20 H => ?_
 apply bG (ods := [_, _, _, _, _]) 5 0 7 bF rfl rfl rfl
 dsimp only [bA, List.take, List.replicate, List.append, List.drop]
 refine M3 ?_
 intros
 refine bP (od := odC [] true (aA .i64 y15) []) (Φ := aA .i64 y15) rfl (fun _ => rfl) trivial rfl rfl (has rfl) (aD.cons (has rfl) aD.nil) rfl (cb rfl) (zO x19 y15 h20) (fun _ => ?_)
 refine Mf (φ := fSl (aB .i64) [y15]) (cC (t := (aB .i64)) (xs := [y15]) rfl (et rfl) (aQ.cons rfl (has rfl) (aS (aF trivial)) aQ.nil) rfl rfl rfl) (fun b => cR) fun _ => ?_
 refine Z1 ?_
 revert H; refine bs fun z4 h21 H => ?_
 refine mY ?_
 refine uI (ys := [y15]) trivial rfl rfl rfl (has rfl) (has rfl) (et rfl) rfl h21 (fun v13 => ?_)
 refine aO 0 rfl (fun hc_v13 => ?_)
 refine Z1 ?_
 refine eB ?_
 refine cY (φs' := [fEq v2, fEq v13, fEq (.slice none 0 0)]) trivial rfl rfl (has rfl) (has rfl) (aF hc_v13) (sz rfl) rfl rfl ?_
 refine Z1 ?_
 refine aI ?_
 refine Z3 ?_
 revert H; refine bs fun y16 h22 H => ?_
 refine Z4 ?_
 revert H; refine bs fun y17 h23 H => ?_
 refine Z2 ?_
 revert H; refine bs fun y18 h24 H => ?_
 refine Tc (vL _ _ h24) ?_
 refine Z2 ?_
 revert H; refine is (fun c4 H => ?_) fun c4 H => ?_
 refine Z5 ?_
 refine aH [0, 3, 4, 5, 6, 1] (by decide) ?_
 exact Tm ((x14, z4, v13)) (ij H)
 refine Z3 ?_
 refine aI ?_
 revert H; refine bs fun y19 h25 H => ?_
 revert H; refine bs fun z5 h26 H => ?_
 apply bG (ods := [_, _, _, _, _, _, _, _, _, _, _]) 11 0 7 bF rfl rfl rfl
 dsimp only [bA, List.take, List.replicate, List.append, List.drop]
 refine M5 ?_
 intros
 refine bP (od := odC [] true (aA .i64 y19) []) (Φ := aA .i64 y19) rfl (fun _ => rfl) trivial rfl rfl (has rfl) (aD.cons (has rfl) (aD.cons (has rfl) (aD.cons (has rfl) aD.nil))) rfl (cb rfl) (zT a0 a2 (y1.Chans.length : Int) y19 h25) (fun _ => ?_)
 refine M5 ?_
 intros
 refine Z9 ?_
 refine aH [0, 2, 3, 4, 5, 6, 1] (by decide) ?_
 refine Tl (ι := Nat × List (List Int) × Int × Int) (fun i => nB fuel a0 a1 y10 z4 i.1 i.2.1 i.2.2.1 i.2.2.2 = _) (fun i => i.1) (fun i => [(0, aG bN a0), (1, fSl bD a1), (2, aA .i64 a2), (6, fEq (.pointer (some ⟨b1, 0, none⟩))), (7, fEq (.pointer (some ⟨b2, 0, none⟩))), (8, fEq (.pointer (some ⟨b3, 0, none⟩))), (9, fEq v1), (74, fSl bC y1.Rules), (75, aA .i64 (y1.Rules.length : Int)), (76, aA .i64 x15), (13, fEq (.pointer (some ⟨b8, 0, none⟩))), (17, aA .i64 i.2.2.1), (128, fSl (aB .i64) y10.Joins), (129, aA .i64 (y10.Joins.length : Int)), (130, aA .i64 i.2.2.2)]) (fun i => [aC b3 61 [fEq v2, fEq v13, fEq (.slice none 0 0)], aC b8 105 [aA .i64 y10.At, fSl (aB .i64) y10.Joins, aA .i64 y10.Node], aC b2 99 [fSl aY y1.Chans, fSl bI y1.Spots, fSl bC y1.Rules], aC b1 61 [fEq (.slice none 0 0), fEq (.slice none 0 0), fEq (.slice none 0 0)], bE v1 157 (bQ 67 (aB .i64)) i.2.1, aE v2 30 (aB .i64) x2, aE v13 30 (aB .i64) z4]) (fuel, x14, z5, 0) H ?_
 clear H; rintro ⟨k4, x27, x28, x29⟩ H
 replace H : nB fuel a0 a1 y10 z4 k4 x27 x28 x29 = _ := H
 try dsimp only
 obtain _ | k4 := k4
 rw [nB] at H; cases H
 rw [nB] at H
 refine Z3 ?_
 refine aI ?_
 revert H; refine is (fun c5 H => ?_) fun c5 H => ?_
 refine Z3 ?_
 revert H; refine bs fun o5 H Hr5 => ?_
 refine aT (ι := List (List Int) × Int) (fun i => o5 = (i.1, i.2)) (fun i => [(0, aG bN a0), (1, fSl bD a1), (2, aA .i64 a2), (6, fEq (.pointer (some ⟨b1, 0, none⟩))), (7, fEq (.pointer (some ⟨b2, 0, none⟩))), (8, fEq (.pointer (some ⟨b3, 0, none⟩))), (9, fEq v1), (74, fSl bC y1.Rules), (75, aA .i64 (y1.Rules.length : Int)), (76, aA .i64 x15), (13, fEq (.pointer (some ⟨b8, 0, none⟩))), (17, aA .i64 i.2), (128, fSl (aB .i64) y10.Joins), (129, aA .i64 (y10.Joins.length : Int)), (130, aA .i64 x29)]) (fun i => [aC b3 61 [fEq v2, fEq v13, fEq (.slice none 0 0)], aC b8 105 [aA .i64 y10.At, fSl (aB .i64) y10.Joins, aA .i64 y10.Node], aC b2 99 [fSl aY y1.Chans, fSl bI y1.Spots, fSl bC y1.Rules], aC b1 61 [fEq (.slice none 0 0), fEq (.slice none 0 0), fEq (.slice none 0 0)], bE v1 157 (bQ 67 (aB .i64)) i.1, aE v2 30 (aB .i64) x2, aE v13 30 (aB .i64) z4]) ?_ ?_
 refine Z2 ?_
 revert H; refine bs fun y20 h27 H => ?_
 refine Z7 ?_
 revert H; refine bs fun y21 h28 H => ?_
 refine Yo 4 rfl (hZ rfl hh hh (el rfl) h28) ?_
 refine bL ?_
 refine qD (i := y20.toNat) (k := 0) (y := y21) (f := (fun v => aE v 67 (aB .i64) y21)) (bW h28) rfl (fun v14 => ?_)
 refine aO 0 rfl (fun hc_v14 => ?_)
 refine Yo 1 rfl (iT rfl rfl hh (sc rfl) (bW h28) rfl) ?_
 refine Z4 ?_
 refine aH [2, 3, 4, 5, 1, 6, 7, 0] (by decide) ?_
 refine Tl (ι := Nat × Int × Int × List Int) (fun i => mE fuel a0 a1 y10 x27 y20 y21 i.1 i.2.1 i.2.2.1 i.2.2.2 = _) (fun i => i.1) (fun i => [(0, aG bN a0), (1, fSl bD a1), (2, aA .i64 a2), (6, fEq (.pointer (some ⟨b1, 0, none⟩))), (7, fEq (.pointer (some ⟨b2, 0, none⟩))), (8, fEq (.pointer (some ⟨b3, 0, none⟩))), (9, fEq v1), (74, fSl bC y1.Rules), (75, aA .i64 (y1.Rules.length : Int)), (76, aA .i64 x15), (13, fEq (.pointer (some ⟨b8, 0, none⟩))), (17, aA .i64 i.2.1), (128, fSl (aB .i64) y10.Joins), (129, aA .i64 (y10.Joins.length : Int)), (130, aA .i64 x29), (19, aA .i64 y20), (138, aA .i64 (y21.length : Int)), (139, aA .i64 i.2.2.1)]) (fun i => [aC b3 61 [fEq v2, fEq v13, fEq (.slice none 0 0)], aC b8 105 [aA .i64 y10.At, fSl (aB .i64) y10.Joins, aA .i64 y10.Node], aC b2 99 [fSl aY y1.Chans, fSl bI y1.Spots, fSl bC y1.Rules], aC b1 61 [fEq (.slice none 0 0), fEq (.slice none 0 0), fEq (.slice none 0 0)], pG v1 157 (bQ 67 (aB .i64)) x27 (y20.toNat * OTy.sz (bQ 67 (aB .i64)) + 0) v14, aE v2 30 (aB .i64) x2, aE v13 30 (aB .i64) z4, aE v14 67 (aB .i64) i.2.2.2]) (fuel, x28, 0, y21) H ?_
 clear H; rintro ⟨k5, x35, x36, x37⟩ H
 replace H : mE fuel a0 a1 y10 x27 y20 y21 k5 x35 x36 x37 = _ := H
 try dsimp only
 obtain _ | k5 := k5
 rw [mE] at H; cases H
 rw [mE] at H
 refine Z3 ?_
 refine aI ?_
 revert H; refine is (fun c6 H => ?_) fun c6 H => ?_
 refine Z3 ?_
 refine aI ?_
 refine Z5 ?_
 refine aI ?_
 revert H; refine bs fun y22 h29 H => ?_
 revert H; refine bs fun y23 h30 H => ?_
 revert H; refine bs fun y24 h31 H => ?_
 revert H; refine bs fun y25 h32 H => ?_
 revert H; refine bs fun y26 h33 H => ?_
 revert H; refine bs fun y27 h34 H => ?_
 apply bG (ods := [_, _, _, _, _, _, _, _, _, _, _, _, _, _, _, _, _, _, _, _, _]) 21 0 8 bF rfl rfl rfl
 dsimp only [bA, List.take, List.replicate, List.append, List.drop]
 refine M2 ?_
 intros
 refine Mo 4 rfl (hZ rfl hh hh (el rfl) h29) fun _ => ?_
 refine Mo 4 rfl (iT rfl rfl hh (sc rfl) (bW h29) rfl) fun _ => ?_
 refine M3 ?_
 intros
 refine Mo 4 rfl (hZ rfl hh hh (el rfl) h30) fun _ => ?_
 refine Mo 4 rfl (iT rfl rfl hh (sc rfl) (bW h30) rfl) fun _ => ?_
 refine M2 ?_
 intros
 refine Mo 7 rfl (iN rfl rfl hh (sc rfl) (bW h31) rfl) fun _ => ?_
 refine M5 ?_
 intros
 refine bP (od := odC [] true (aA .i64 y25) []) (Φ := aA .i64 y25) rfl (fun _ => rfl) trivial rfl rfl (has rfl) (aD.cons (has rfl) (aD.cons (has rfl) (aD.cons (has rfl) (aD.cons (has rfl) aD.nil)))) rfl (cb rfl) (aFk fuel a0 a1 y10.Node x35 y25 h32) (fun _ => ?_)
 refine bP (od := odC [] true (aA .i64 y26) []) (Φ := aA .i64 y26) rfl (fun _ => rfl) trivial rfl rfl (has rfl) (aD.cons (has rfl) (aD.cons (has rfl) aD.nil)) rfl (cb rfl) (aDD y24 y25 y26 h33) (fun _ => ?_)
 refine M1 ?_
 intros
 refine rH (od := odC [7] true (fAny) [aE v14 67 (aB .i64) (x37.set x36.toNat y26)]) (p := 7) (z' := y26) rfl (fun _ => rfl) (fun _ => rfl) trivial rfl rfl rfl rfl (has rfl) (has rfl) (aF trivial) (sz rfl) (bW h34) rfl rfl (fun _ => ?_)
 refine Z4 ?_
 revert H; refine bs fun z6 h35 H => ?_
 refine Z6 ?_
 revert H; refine bs fun z7 h36 H => ?_
 refine Z3 ?_
 exact Tm ((k5, z6, z7, x37.set x36.toNat y26)) ⟨H, ls⟩
 exact fk
 kernel_rfl
 refine Z7 ?_
 refine bL ?_
 refine T_fr7 ?_
 refine mF (o := (bQ 67 (aB .i64))) (i := y20.toNat) (k := 0) (y := y21) (y' := x37) (f := (fun v => aE v 67 (aB .i64) x37)) (hf := (fun _ => dI)) (bW h28) rfl rfl ?_
 refine aH [1, 2, 3, 4, 0, 5, 6] (by decide) ?_
 exact Tm ((x27.set y20.toNat x37, x35)) (ij H)
 clear H; intro i hi; obtain ⟨x30, x31⟩ := i; subst o5; have H := Hr5; clear Hr5; try dsimp only at H
 try dsimp only
 refine Z1 ?_
 revert H; refine bs fun z8 h37 H => ?_
 refine Z3 ?_
 exact Tm ((k4, x30, x31, z8)) ⟨H, ls⟩
 refine Z7 ?_
 refine aH [0, 2, 3, 4, 5, 6] (by decide) ?_
 exact Tm ((x27, z4, v13)) (ij H)
 exact fk
 kernel_rfl
 exact fk
 kernel_rfl
 clear H; intro i hi; obtain ⟨x17, x18, v11⟩ := i; subst o3; have H := Hr3; clear Hr3; try dsimp only at H
 try dsimp only
 refine aO 5 rfl (fun hc_v11 => ?_)
 refine Z1 ?_
 revert H; refine bs fun z9 h38 H => ?_
 refine Z3 ?_
 exact Tm ((k2, x17, z9, x18, v11)) ⟨H, ls⟩
 refine Z6 ?_
 exact Tm ((x14, x16, v10)) (ij H)
 clear H; intro i hi; obtain ⟨x9, x10, v8⟩ := i; subst o2; have H := Hr2; clear Hr2; try dsimp only at H
 try dsimp only
 refine aO 5 rfl (fun hc_v8 => ?_)
 revert H; refine bs fun o6 H Hr6 => ?_
 refine aT (ι := List (List Int) × Value) (fun i => o6 = i.1) (fun i => [(6, fEq (.pointer (some ⟨b1, 0, none⟩))), (8, fEq (.pointer (some ⟨b3, 0, none⟩)))]) (fun i => [aC b3 61 [fEq v2, fEq v8, fEq i.2], aC b2 99 [fSl aY y1.Chans, fSl bI y1.Spots, fSl bC y1.Rules], aC b1 61 [fEq (.slice none 0 0), fEq (.slice none 0 0), fEq (.slice none 0 0)], aE v2 30 (aB .i64) x2, aE v8 30 (aB .i64) x10, bE i.2 58 (bQ 30 (aB .i64)) i.1]) ?_ ?_
 refine Z2 ?_
 refine Yo 3 rfl (aA4 rfl hh (us rfl)) ?_
 refine Z3 ?_
 refine pU (bQ 30 (aB .i64)) 58 ?_
 refine aH [1, 2, 3, 4, 5, 6, 0] (by decide) ?_
 refine Tl (ι := Nat × List (List Int) × Int × List (List Int) × Value) (fun i => oB fuel x9 i.1 i.2.1 i.2.2.1 i.2.2.2.1 = _) (fun i => i.1) (fun i => [(6, fEq (.pointer (some ⟨b1, 0, none⟩))), (8, fEq (.pointer (some ⟨b3, 0, none⟩))), (167, fEq v1), (168, aA .i64 (x9.length : Int)), (169, aA .i64 i.2.2.1)]) (fun i => [aC b3 61 [fEq v2, fEq v8, fEq i.2.2.2.2], aC b2 99 [fSl aY y1.Chans, fSl bI y1.Spots, fSl bC y1.Rules], aC b1 61 [fEq (.slice none 0 0), fEq (.slice none 0 0), fEq (.slice none 0 0)], bE v1 157 (bQ 67 (aB .i64)) i.2.1, aE v2 30 (aB .i64) x2, aE v8 30 (aB .i64) x10, bE i.2.2.2.2 58 (bQ 30 (aB .i64)) i.2.2.2.1]) (fuel, x9, 0, [], (.slice none 0 0)) H ?_
 clear H; rintro ⟨k6, x42, x43, x44, v17⟩ H
 replace H : oB fuel x9 k6 x42 x43 x44 = _ := H
 try dsimp only
 obtain _ | k6 := k6
 rw [oB] at H; cases H
 rw [oB] at H
 refine cM 6 rfl (fun hc_v17 => ?_)
 refine Z3 ?_
 refine aI ?_
 revert H; refine is (fun c7 H => ?_) fun c7 H => ?_
 refine Z3 ?_
 revert H; refine bs fun o7 H Hr7 => ?_
 refine aT (ι := List (List Int) × List (List Int) × Value) (fun i => o7 = (i.1, i.2.1)) (fun i => [(6, fEq (.pointer (some ⟨b1, 0, none⟩))), (8, fEq (.pointer (some ⟨b3, 0, none⟩))), (167, fEq v1), (168, aA .i64 (x9.length : Int)), (169, aA .i64 x43)]) (fun i => [aC b3 61 [fEq v2, fEq v8, fEq i.2.2], aC b2 99 [fSl aY y1.Chans, fSl bI y1.Spots, fSl bC y1.Rules], aC b1 61 [fEq (.slice none 0 0), fEq (.slice none 0 0), fEq (.slice none 0 0)], bE v1 157 (bQ 67 (aB .i64)) i.1, aE v2 30 (aB .i64) x2, aE v8 30 (aB .i64) x10, bE i.2.2 58 (bQ 30 (aB .i64)) i.2.1]) ?_ ?_
 refine Z2 ?_
 revert H; refine bs fun y28 h39 H => ?_
 refine Yo 3 rfl (hZ rfl hh hh (el rfl) h39) ?_
 refine dD ?_
 refine qD (i := x43.toNat) (k := 0) (y := y28) (f := (fun v => aE v 67 (aB .i64) y28)) (bW h39) rfl (fun v19 => ?_)
 refine aO 0 rfl (fun hc_v19 => ?_)
 refine Yo 1 rfl (iT rfl rfl hh (sc rfl) (bW h39) rfl) ?_
 refine Z5 ?_
 revert H; refine bs fun o8 H Hr8 => ?_
 refine aT (ι := List Int × Value) (fun i => o8 = i.1) (fun i => [(6, fEq (.pointer (some ⟨b1, 0, none⟩))), (8, fEq (.pointer (some ⟨b3, 0, none⟩))), (167, fEq v1), (168, aA .i64 (x9.length : Int)), (169, aA .i64 x43), (23, fEq i.2)]) (fun i => [aC b3 61 [fEq v2, fEq v8, fEq v17], aC b2 99 [fSl aY y1.Chans, fSl bI y1.Spots, fSl bC y1.Rules], aC b1 61 [fEq (.slice none 0 0), fEq (.slice none 0 0), fEq (.slice none 0 0)], pG v1 157 (bQ 67 (aB .i64)) x42 (x43.toNat * OTy.sz (bQ 67 (aB .i64)) + 0) v19, aE i.2 30 (aB .i64) i.1, aE v2 30 (aB .i64) x2, aE v8 30 (aB .i64) x10, bE v17 58 (bQ 30 (aB .i64)) x44, aE v19 67 (aB .i64) y28]) ?_ ?_
 refine Z6 ?_
 refine lS (aB .i64) 30 ?_
 refine aH [3, 4, 5, 2, 0, 1, 6, 7, 8] (by decide) ?_
 refine Tl (ι := Nat × List Int × Int × Value) (fun i => nH y28 i.1 i.2.1 i.2.2.1 = _) (fun i => i.1) (fun i => [(6, fEq (.pointer (some ⟨b1, 0, none⟩))), (8, fEq (.pointer (some ⟨b3, 0, none⟩))), (167, fEq v1), (168, aA .i64 (x9.length : Int)), (169, aA .i64 x43), (23, fEq i.2.2.2), (173, fEq v19), (174, aA .i64 (y28.length : Int)), (175, aA .i64 i.2.2.1)]) (fun i => [aC b3 61 [fEq v2, fEq v8, fEq v17], aC b2 99 [fSl aY y1.Chans, fSl bI y1.Spots, fSl bC y1.Rules], aC b1 61 [fEq (.slice none 0 0), fEq (.slice none 0 0), fEq (.slice none 0 0)], pG v1 157 (bQ 67 (aB .i64)) x42 (x43.toNat * OTy.sz (bQ 67 (aB .i64)) + 0) v19, aE i.2.2.2 30 (aB .i64) i.2.1, aE v19 67 (aB .i64) y28, aE v2 30 (aB .i64) x2, aE v8 30 (aB .i64) x10, bE v17 58 (bQ 30 (aB .i64)) x44]) (fuel, [], 0, (.slice none 0 0)) H ?_
 clear H; rintro ⟨k7, x50, x51, v22⟩ H
 replace H : nH y28 k7 x50 x51 = _ := H
 try dsimp only
 obtain _ | k7 := k7
 rw [nH] at H; cases H
 rw [nH] at H
 refine aO 4 rfl (fun hc_v22 => ?_)
 refine Z3 ?_
 refine aI ?_
 revert H; refine is (fun c8 H => ?_) fun c8 H => ?_
 refine Z3 ?_
 refine aI ?_
 refine Z2 ?_
 revert H; refine bs fun y29 h40 H => ?_
 refine Z1 ?_
 refine Yo 5 rfl (iN rfl rfl hh (sc rfl) (bW h40) rfl) ?_
 refine Z5 ?_
 revert H; refine bs fun y30 h41 H => ?_
 refine Tc (zO _ _ h41) ?_
 refine aR trivial rfl rfl (cC (t := (aB .i64)) (xs := [y30]) rfl (et rfl) (aQ.cons rfl (has rfl) (aS (aF trivial)) aQ.nil) rfl rfl rfl) (fun b10 => ?_)
 generalize hv_v23 : (Value.slice (some ⟨b10, 0, none⟩) _ _) = v23; clear hv_v23
 refine aO 0 rfl (fun hc_v23 => ?_)
 revert H; refine bs fun z10 h42 H => ?_
 refine jA ?_
 refine cA ?_
 refine lX trivial rfl rfl rfl (has rfl) (has rfl) (et rfl) rfl h42 (fun v24 => ?_)
 refine aO 0 rfl (fun hc_v24 => ?_)
 refine Z5 ?_
 revert H; refine bs fun z11 h43 H => ?_
 refine Z3 ?_
 refine aH [1, 2, 3, 4, 0, 5, 6, 7, 8] (by decide) ?_
 exact Tm ((k7, z10, z11, v24)) ⟨H, ls⟩
 refine Z6 ?_
 refine aH [0, 1, 2, 3, 4, 6, 7, 8, 5] (by decide) ?_
 exact Tm ((x50, v22)) (ij H)
 clear H; intro i hi; obtain ⟨x47, v20⟩ := i; subst o8; have H := Hr8; clear Hr8; try dsimp only at H
 try dsimp only
 refine aO 4 rfl (fun hc_v20 => ?_)
 refine Z4 ?_
 refine aR trivial rfl rfl (cC (t := tF 1) (xs := [[⟨fEq v20, aF hc_v20⟩]]) rfl (et rfl) (aQ.cons rfl (has rfl) (aS (aF hc_v20)) aQ.nil) rfl rfl rfl) (fun b11 => ?_)
 generalize hv_v25 : (Value.slice (some ⟨b11, 0, none⟩) _ _) = v25; clear hv_v25
 refine kT ?_
 refine jA ?_
 refine eP (p := 0) (f := (fun v => aE v 30 (aB .i64) x47)) (hf := (fun _ => dI)) rfl Ent.rfl ?_
 refine lM (o := (bQ 30 (aB .i64))) (xs := ([x47] : List (List Int))) rfl rfl rfl ?_
 refine cM 0 rfl (fun hc_v25 => ?_)
 revert H; refine bs fun z12 h44 H => ?_
 refine T_fr7 ?_
 refine cA ?_
 refine rI (q := (bQ 30 (aB .i64))) trivial rfl rfl rfl (has rfl) (has rfl) (et rfl) rfl h44 (fun v26 => ?_)
 refine cM 0 rfl (fun hc_v26 => ?_)
 refine Z1 ?_
 refine cA ?_
 refine cY (φs' := [fEq v2, fEq v8, fEq v26]) trivial rfl rfl (has rfl) (has rfl) (aF hc_v26) (sz rfl) rfl rfl ?_
 refine Z3 ?_
 refine bL ?_
 refine T_fr7 ?_
 refine mF (o := (bQ 67 (aB .i64))) (i := x43.toNat) (k := 0) (y := y28) (y' := y28) (f := (fun v => aE v 67 (aB .i64) y28)) (hf := (fun _ => dI)) (bW h39) rfl rfl ?_
 refine aH [1, 3, 4, 0, 5, 6, 2] (by decide) ?_
 exact Tm ((x42.set x43.toNat y28, z12, v26)) (ij H)
 clear H; intro i hi; obtain ⟨x45, x46, v18⟩ := i; subst o7; have H := Hr7; clear Hr7; try dsimp only at H
 try dsimp only
 refine cM 6 rfl (fun hc_v18 => ?_)
 refine Z1 ?_
 revert H; refine bs fun z13 h45 H => ?_
 refine Z3 ?_
 exact Tm ((k6, x45, z13, x46, v18)) ⟨H, ls⟩
 refine Z6 ?_
 refine aH [0, 1, 2, 4, 5, 6] (by decide) ?_
 exact Tm ((x44, v17)) (ij H)
 clear H; intro i hi; obtain ⟨x38, v15⟩ := i; subst o6; have H := Hr6; clear Hr6; try dsimp only at H
 try dsimp only
 refine cM 5 rfl (fun hc_v15 => ?_)
 refine Z2 ?_
 refine eB ?_
 refine dB (φs' := [fEq v2, fEq v8, fEq v15]) trivial rfl rfl (has rfl) (has rfl) (aM (aF hc_v2) (aM (aF hc_v8) (aM (aF hc_v15) bR))) (sz rfl) rfl rfl rfl ?_
 refine Z2 ?_
 cases H
 refine aH [0, 3, 4, 5] (by decide) ?_
 exact aDi rfl (ag rfl) (bU rfl) (eI.own (eI.own (eI.own eI.nil))) rfl rfl
end Go.Proofs.YtmnbfgeljmhekaaGreat
set_option maxRecDepth 100000
set_option maxHeartbeats 2000000
namespace Go.Proofs.YtmnbfgeljmhekaaGreat
open Go.SX Go.SW Go.Dt
attribute [local irreducible] Code.wpIn wpListIn Exit.then Exit.inBlock
def nC (fuel : Nat) (a0 : Usage_text) (a1 : List UsageDef) : Nat → (List UsageDef) → Int → Option (List UsageDef)
| 0, _, _ => none
| k + 1, x4, x5 =>
 if x5 < (a0.ScopeProg.Defs.length : Int) then
  (uD fuel a0 a1 x5).bind fun y1 =>
  (eA (x4 ++ ([(⟨y1.Chans, y1.Rules, y1.Args⟩ : UsageDef)] : List UsageDef))).bind fun z1 =>
  (chk (x5 + 1)).bind fun z2 =>
  nC fuel a0 a1 k z1 z2
 else
  some x4
def rS (fuel : Nat) (a0 : Usage_text) (a1 : List UsageDef) : Option (List UsageDef) :=
 (nC fuel a0 a1 fuel [] 0).bind fun x1 =>
 some x1
theorem aDZ (fuel : Nat)  (a0 : Usage_text) (a1 : List UsageDef) (r : List UsageDef) (H : rS fuel a0 a1 = some r) : FnS Tryz.prog 38 [aG bN a0, fSl bD a1] [] fAny (fun v => [(fun v => bE v 61 bV r) v]) := by
 unfold rS at H
 refine bK Tryz.func38 rfl Tryz.ntmps38 rfl (fun β => ?_)
 refine Z6 ?_
 revert H; refine bs fun o1 H Hr1 => ?_
 refine aT (ι := List UsageDef × Value) (fun i => o1 = i.1) (fun i => [(5, fEq i.2)]) (fun i => [bE i.2 61 bV i.1]) ?_ ?_
 refine Z10 ?_
 refine pU bV 61 ?_
 refine Tl (ι := Nat × List UsageDef × Int × Value) (fun i => nC fuel a0 a1 i.1 i.2.1 i.2.2.1 = _) (fun i => i.1) (fun i => [(0, aG bN a0), (1, fSl bD a1), (5, fEq i.2.2.2), (12, aA .i64 (a0.ScopeProg.Defs.length : Int)), (13, aA .i64 i.2.2.1)]) (fun i => [bE i.2.2.2 61 bV i.2.1]) (fuel, [], 0, (.slice none 0 0)) H ?_
 clear H; rintro ⟨k1, x4, x5, v3⟩ H
 replace H : nC fuel a0 a1 k1 x4 x5 = _ := H
 try dsimp only
 obtain _ | k1 := k1
 rw [nC] at H; cases H
 rw [nC] at H
 refine cM 0 rfl (fun hc_v3 => ?_)
 refine Z3 ?_
 refine aI ?_
 revert H; refine is (fun c1 H => ?_) fun c1 H => ?_
 refine Z3 ?_
 refine aI ?_
 refine Z10 ?_
 revert H; refine bs fun y1 h1 H => ?_
 refine vN trivial rfl rfl rfl (has rfl) (aD.cons (has rfl) (aD.cons (has rfl) (aD.cons (has rfl) aD.nil))) rfl (cb rfl) (aGt fuel a0 a1 x5 y1 h1) (Δi := []) rfl (fun v4 => ?_)
 dsimp only [List.append, List.cons_append, List.nil_append]
 refine aEm (c := .agg) (fs := [.own (fun v => aE v 30 (aB .i64) y1.Chans) (fun _ => dI), .own (fun v => aE v 30 (aB .i64) y1.Rules) (fun _ => dI), .own (fun v => bE v 58 (bQ 30 (aB .i64)) y1.Args) (fun _ => iC)]) (fun v5 v6 v7 => ?_)
 dsimp only [List.append, List.cons_append, List.nil_append]
 refine aO 0 rfl (fun hc_v5 => ?_)
 refine aO 1 rfl (fun hc_v6 => ?_)
 refine cM 2 rfl (fun hc_v7 => ?_)
 refine aR trivial rfl rfl (cC (t := tF 3) (xs := [[⟨fEq v5, aF hc_v5⟩, ⟨fEq v6, aF hc_v6⟩, ⟨fEq v7, aF hc_v7⟩]]) rfl (et rfl) (aQ.cons rfl (has rfl) bO aQ.nil) rfl rfl rfl) (fun b1 => ?_)
 generalize hv_v8 : (Value.slice (some ⟨b1, 0, none⟩) _ _) = v8; clear hv_v8
 refine kT ?_
 refine cA ?_
 refine eP (p := 0) (f := (fun v => aE v 30 (aB .i64) y1.Chans)) (hf := (fun _ => dI)) rfl Ent.rfl ?_
 refine cA ?_
 refine eP (p := 1) (f := (fun v => aE v 30 (aB .i64) y1.Rules)) (hf := (fun _ => dI)) rfl Ent.rfl ?_
 refine cA ?_
 refine eP (p := 2) (f := (fun v => bE v 58 (bQ 30 (aB .i64)) y1.Args)) (hf := (fun _ => iC)) rfl Ent.rfl ?_
 refine lM (o := bV) (xs := ([(⟨y1.Chans, y1.Rules, y1.Args⟩ : UsageDef)] : List UsageDef)) rfl rfl rfl ?_
 refine cM 0 rfl (fun hc_v8 => ?_)
 revert H; refine bs fun z1 h2 H => ?_
 refine rI (q := bV) trivial rfl rfl rfl (has rfl) (has rfl) (et rfl) rfl h2 (fun v9 => ?_)
 refine cM 0 rfl (fun hc_v9 => ?_)
 refine Z5 ?_
 revert H; refine bs fun z2 h3 H => ?_
 refine Z3 ?_
 exact Tm ((k1, z1, z2, v9)) ⟨H, ls⟩
 refine Z6 ?_
 exact Tm ((x4, v3)) (ij H)
 clear H; intro i hi; obtain ⟨x1, v1⟩ := i; subst o1; have H := Hr1; clear Hr1; try dsimp only at H
 try dsimp only
 refine cM 0 rfl (fun hc_v1 => ?_)
 refine Z5 ?_
 cases H
 exact tR rfl (bU rfl) (fun _ _ _ => trivial) rfl
theorem aGl (fuel : Nat)  (a0 : Usage_text) (a1 : List UsageDef) (r : List UsageDef) (H : rS fuel a0 a1 = some r) : FnS Tryz.prog 38 [aG bN a0, fSl bD a1] [] (fSl bD r) (fun _ => []) := (aDZ fuel a0 a1 r H).frz (fun v => (iW rfl jK))
def wW (a0 : Int) (a1 : Int) (a2 : Bool) : Option (Bool) :=
 some (decide (a0 = a1))
theorem aHc  (a0 : Int) (a1 : Int) (a2 : Bool) (r : Bool) (H : wW a0 a1 a2 = some r) : FnS Tryz.prog 40 [aA .i64 a0, aA .i64 a1, aK a2] [] (aK r) (fun _ => []) := by
 unfold wW at H
 refine bK Tryz.func40 rfl Tryz.ntmps40 rfl (fun β => ?_)
 refine Z10 ?_
 cases H
 exact To
def mD (fuel : Nat) (y2 : Usage_text) : Nat → (List UsageDef) → Option (List UsageDef)
| 0, _ => none
| k + 1, x3 =>
 (rS fuel y2 x3).bind fun y4 =>
 (qA fuel x3 y4 (fun x => wW x.1 x.2.1 x.2.2)).bind fun y5 =>
 bif y5 then
  some x3
 else
  mD fuel y2 k y4
def nM (fuel : Nat) (y2 : Usage_text) (x7 : List UsageDef) (x8 : Int) (y6 : UsageDef) : Nat → (List Int) → Int → Option (List UsageDef)
| 0, _, _ => none
| k + 1, x12, x13 =>
 if x13 < (y6.Chans.length : Int) then
  ((idx x12 x13).bind fun y7 =>
  if y7 = 3 then
   (idx y2.heads x8).bind fun y8 =>
   (rC y2 x8 x13).bind fun y9 =>
   (lR fuel y2 y8 y9).bind fun y10 =>
   if y10 = 1 then
    (idx x7 x8).bind fun y11 =>
    (idx x12 x13).bind fun y12 =>
    some (x12.set x13.toNat 2)
   else
    some x12
  else
   some x12).bind fun x14 =>
  (chk (x13 + 1)).bind fun z1 =>
  nM fuel y2 x7 x8 y6 k x14 z1
 else
  some (x7.set x8.toNat ({ y6 with Chans := x12 }))
def jP (fuel : Nat) (y2 : Usage_text) (x1 : List UsageDef) : Nat → (List UsageDef) → Int → Option (List UsageDef)
| 0, _, _ => none
| k + 1, x7, x8 =>
 if x8 < (x1.length : Int) then
  ((idx x7 x8).bind fun y6 =>
  nM fuel y2 x7 x8 y6 fuel y6.Chans 0).bind fun x9 =>
  (chk (x8 + 1)).bind fun z2 =>
  jP fuel y2 x1 k x9 z2
 else
  some x7
def rL (fuel : Nat) (a0 : ScopeProg) : Option ((List UsageDef) × Int) :=
 (tB fuel (⟨a0.Free, a0.Nodes, a0.Defs, a0.Main⟩ : ScopeProg)).bind fun y1 =>
 if y1 ≠ 0 then
  some (([] : List UsageDef), 2)
 else
  (qG fuel (⟨a0.Free, a0.Nodes, a0.Defs, a0.Main⟩ : ScopeProg)).bind fun y2 =>
  (tV fuel y2).bind fun y3 =>
  (mD fuel y2 fuel y3).bind fun x1 =>
  (jP fuel y2 x1 fuel x1 0).bind fun x4 =>
  some (x4, 0)
theorem aF1 (fuel : Nat)  (a0 : ScopeProg) (r : (List UsageDef) × Int) (H : rL fuel a0 = some r) : FnS Tryz.prog 14 [fSt dG a0] [] fAny (fun v => [rK .tuple [.own (fun v => bE v 61 bV r.1) (fun _ => iC), .pure (aA .i64 r.2)] v]) := by
 unfold rL at H
 refine bK Tryz.func14 rfl Tryz.ntmps14 rfl (fun β => ?_)
 refine Z1 ?_
 refine aR trivial rfl rfl (cF rfl (has rfl) bO) (fun b1 => ?_)
 refine Z3 ?_
 refine T_scope ?_
 refine aI ?_
 refine Z2 ?_
 revert H; refine bs fun y1 h1 H => ?_
 refine Tc (aB6 _ _ _ h1) ?_
 refine Z2 ?_
 revert H; refine is (fun c1 H => ?_) fun c1 H => ?_
 refine Z6 ?_
 refine aDU ?_
 refine pU bV 61 ?_
 cases H
 refine aH [0] (by decide) ?_
 exact aDf rfl (bU rfl) (bU rfl) (eI.own (eI.pure Ent.rfl (aF trivial) eI.nil))
 refine Z5 ?_
 revert H; refine bs fun y2 h2 H => ?_
 refine Tc (aBi _ _ _ h2) ?_
 refine Z4 ?_
 revert H; refine bs fun y3 h3 H => ?_
 refine vN trivial rfl rfl rfl (has rfl) (aD.cons (has rfl) aD.nil) rfl (cb rfl) (aFt fuel y2 y3 h3) (Δi := []) rfl (fun v1 => ?_)
 dsimp only [List.append, List.cons_append, List.nil_append]
 refine cM 0 rfl (fun hc_v1 => ?_)
 refine Z2 ?_
 refine aI ?_
 refine T_label ?_
 refine Z1 ?_
 revert H; refine bs fun o1 H Hr1 => ?_
 refine aT (ι := List UsageDef × Value) (fun i => o1 = i.1) (fun i => [(4, aG bN y2), (5, fEq i.2)]) (fun i => [aC b1 26 [fSl aN a0.Free, fSl aL a0.Nodes, fSl aJ a0.Defs, aA .i64 a0.Main], bE i.2 61 bV i.1]) ?_ ?_
 refine Z1 ?_
 refine aH [1, 0] (by decide) ?_
 refine Tl (ι := Nat × List UsageDef × Value) (fun i => mD fuel y2 i.1 i.2.1 = _) (fun i => i.1) (fun i => [(4, aG bN y2), (5, fEq i.2.2)]) (fun i => [aC b1 26 [fSl aN a0.Free, fSl aL a0.Nodes, fSl aJ a0.Defs, aA .i64 a0.Main], bE i.2.2 61 bV i.2.1]) (fuel, y3, v1) H ?_
 clear H; rintro ⟨k1, x3, v4⟩ H
 replace H : mD fuel y2 k1 x3 = _ := H
 try dsimp only
 obtain _ | k1 := k1
 rw [mD] at H; cases H
 rw [mD] at H
 refine cM 1 rfl (fun hc_v4 => ?_)
 refine Z4 ?_
 refine cA ?_
 revert H; refine bs fun y4 h4 H => ?_
 refine aDT (Δl := [bE v4 61 bV x3]) (Δi := []) [(v4, fSl bD x3)] trivial rfl rfl rfl (has rfl) (dW.cons rfl (uB Ent.rfl) (dW.cons rfl (oT 0 rfl) dW.nil)) (cb rfl) (aDZ fuel y2 x3 y4 h4) aC1 (fun v τ h => by have : τ = _ := List.mem_singleton.1 h; subst this; exact (aBx aD4)) (fD.cons (iW rfl jK) fD.nil) rfl (fun v5 => ?_)
 dsimp only [List.append, List.cons_append, List.nil_append]
 refine cM 1 rfl (fun hc_v5 => ?_)
 refine Z2 ?_
 refine aI ?_
 refine Z3 ?_
 revert H; refine bs fun y5 h5 H => ?_
 refine xO (Δl := [bE v4 61 bV x3, bE v5 61 bV y4]) (Δi := []) (Δo := []) [(v4, fSl bD x3), (v5, fSl bD y4)] trivial rfl rfl rfl (has rfl) (dW.cons rfl (oT 0 rfl) (dW.cons rfl (oT 1 rfl) (dW.cons rfl (uB (rR (cb rfl) (fun x r hx => aHc x.1 x.2.1 x.2.2 r hx))) dW.nil))) (cb rfl) (aAT fuel x3 y4 (fun x => wW x.1 x.2.1 x.2.2) y5 h5) uS (fun _ h => nomatch h) (fD.cons (iW rfl jK) (fD.cons (iW rfl jK) fD.nil)) rfl ?_
 dsimp only [List.append, List.cons_append, List.nil_append]
 refine Z1 ?_
 revert H; refine cs (fun c2 H => ?_) fun c2 H => ?_
 refine Z7 ?_
 refine aH [2, 0] (by decide) ?_
 exact Tm ((x3, v4)) (ij H)
 refine Z9 ?_
 refine aH [2, 1] (by decide) ?_
 exact Tm ((k1, y4, v5)) ⟨H, ls⟩
 clear H; intro i hi; obtain ⟨x1, v2⟩ := i; subst o1; have H := Hr1; clear Hr1; try dsimp only at H
 try dsimp only
 refine cM 1 rfl (fun hc_v2 => ?_)
 revert H; refine bs fun o2 H Hr2 => ?_
 refine aT (ι := List UsageDef) (fun i => o2 = i) (fun i => [(5, fEq v2)]) (fun i => [aC b1 26 [fSl aN a0.Free, fSl aL a0.Nodes, fSl aJ a0.Defs, aA .i64 a0.Main], bE v2 61 bV i]) ?_ ?_
 refine Z2 ?_
 refine Yo 1 rfl (aA4 rfl hh (us rfl)) ?_
 refine Z3 ?_
 refine Tl (ι := Nat × List UsageDef × Int) (fun i => jP fuel y2 x1 i.1 i.2.1 i.2.2 = _) (fun i => i.1) (fun i => [(4, aG bN y2), (5, fEq v2), (25, aA .i64 (x1.length : Int)), (26, aA .i64 i.2.2)]) (fun i => [aC b1 26 [fSl aN a0.Free, fSl aL a0.Nodes, fSl aJ a0.Defs, aA .i64 a0.Main], bE v2 61 bV i.2.1]) (fuel, x1, 0) H ?_
 clear H; rintro ⟨k2, x7, x8⟩ H
 replace H : jP fuel y2 x1 k2 x7 x8 = _ := H
 try dsimp only
 obtain _ | k2 := k2
 rw [jP] at H; cases H
 rw [jP] at H
 refine Z3 ?_
 refine aI ?_
 revert H; refine is (fun c3 H => ?_) fun c3 H => ?_
 refine Z3 ?_
 revert H; refine bs fun o3 H Hr3 => ?_
 refine aT (ι := List UsageDef) (fun i => o3 = i) (fun i => [(4, aG bN y2), (5, fEq v2), (25, aA .i64 (x1.length : Int)), (26, aA .i64 x8)]) (fun i => [aC b1 26 [fSl aN a0.Free, fSl aL a0.Nodes, fSl aJ a0.Defs, aA .i64 a0.Main], bE v2 61 bV i]) ?_ ?_
 refine Z8 ?_
 revert H; refine bs fun y6 h6 H => ?_
 refine Yo 1 rfl (hZ rfl hh hh (el rfl) h6) ?_
 refine Yy (qJ 0 rfl hh (fa rfl) rfl) ?_
 refine cA ?_
 refine qD (i := x8.toNat) (k := 0) (y := y6) (f := (fun v => aE v 30 (aB .i64) y6.Chans)) (bW h6) rfl (fun v6 => ?_)
 refine aO 0 rfl (fun hc_v6 => ?_)
 refine Yo 1 rfl (iT rfl rfl hh (sc rfl) (bW h6) rfl) ?_
 refine Z4 ?_
 refine aH [2, 1, 0] (by decide) ?_
 refine Tl (ι := Nat × List Int × Int) (fun i => nM fuel y2 x7 x8 y6 i.1 i.2.1 i.2.2 = _) (fun i => i.1) (fun i => [(4, aG bN y2), (5, fEq v2), (25, aA .i64 (x1.length : Int)), (26, aA .i64 x8), (7, aA .i64 x8), (33, fEq v6), (34, aA .i64 (y6.Chans.length : Int)), (35, aA .i64 i.2.2)]) (fun i => [aC b1 26 [fSl aN a0.Free, fSl aL a0.Nodes, fSl aJ a0.Defs, aA .i64 a0.Main], pG v2 61 bV x7 (x8.toNat * OTy.sz bV + 0) v6, aE v6 30 (aB .i64) i.2.1]) (fuel, y6.Chans, 0) H ?_
 clear H; rintro ⟨k3, x12, x13⟩ H
 replace H : nM fuel y2 x7 x8 y6 k3 x12 x13 = _ := H
 try dsimp only
 obtain _ | k3 := k3
 rw [nM] at H; cases H
 rw [nM] at H
 refine Z3 ?_
 refine aI ?_
 revert H; refine is (fun c4 H => ?_) fun c4 H => ?_
 refine Z3 ?_
 revert H; refine bs fun o4 H Hr4 => ?_
 refine aT (ι := List Int) (fun i => o4 = i) (fun i => [(4, aG bN y2), (5, fEq v2), (25, aA .i64 (x1.length : Int)), (26, aA .i64 x8), (7, aA .i64 x8), (33, fEq v6), (34, aA .i64 (y6.Chans.length : Int)), (35, aA .i64 x13)]) (fun i => [aC b1 26 [fSl aN a0.Free, fSl aL a0.Nodes, fSl aJ a0.Defs, aA .i64 a0.Main], pG v2 61 bV x7 (x8.toNat * OTy.sz bV + 0) v6, aE v6 30 (aB .i64) i]) ?_ ?_
 refine Z3 ?_
 revert H; refine bs fun y7 h7 H => ?_
 refine Z1 ?_
 refine Yo 2 rfl (iN rfl rfl hh (sc rfl) (bW h7) rfl) ?_
 refine Z3 ?_
 refine aI ?_
 revert H; refine is (fun c5 H => ?_) fun c5 H => ?_
 revert H; refine bs fun y8 h8 H => ?_
 revert H; refine bs fun y9 h9 H => ?_
 revert H; refine bs fun y10 h10 H => ?_
 apply bG (ods := [_, _, _, _, _, _, _, _, _, _, _, _, _, _, _, _, _, _]) 18 0 3 bF rfl rfl rfl
 dsimp only [bA, List.take, List.replicate, List.append, List.drop]
 refine M8 ?_
 intros
 refine M6 ?_
 intros
 refine bP (od := odC [] true (aA .i64 y9) []) (Φ := aA .i64 y9) rfl (fun _ => rfl) ⟨_, _, rfl, rfl, c5⟩ rfl rfl (has rfl) (aD.cons (has rfl) (aD.cons (has rfl) (aD.cons (has rfl) aD.nil))) rfl (cb rfl) (zT y2 x8 x13 y9 h9) (fun _ => ?_)
 refine bP (od := odC [] true (aA .i64 y10) []) (Φ := aA .i64 y10) rfl (fun _ => rfl) ⟨_, _, rfl, rfl, c5⟩ rfl rfl (has rfl) (aD.cons (has rfl) (aD.cons (has rfl) (aD.cons (has rfl) aD.nil))) rfl (cb rfl) (aDG fuel y2 y8 y9 y10 h10) (fun _ => ?_)
 refine M2 ?_
 intros
 refine Z2 ?_
 revert H; refine is (fun c6 H => ?_) fun c6 H => ?_
 refine Z4 ?_
 revert H; refine bs fun y11 h11 H => ?_
 refine Yo 1 rfl (hZ rfl hh hh (el rfl) h11) ?_
 refine Yy (qJ 0 rfl hh (fa rfl) rfl) ?_
 refine Yo 1 rfl (iT rfl rfl hh (sc rfl) (bW h11) rfl) ?_
 refine Z1 ?_
 revert H; refine bs fun y12 h12 H => ?_
 refine Z1 ?_
 refine eB ?_
 refine rJ (z' := 2) trivial rfl rfl rfl (has rfl) (has rfl) (aF trivial) (sz rfl) (bW h12) rfl rfl ?_
 refine Z3 ?_
 refine aH [1, 2, 0] (by decide) ?_
 exact Tm (x12.set x13.toNat 2) (ij H)
 refine Z4 ?_
 exact Tm (x12) (ij H)
 exact fk
 kernel_rfl
 apply bG (ods := [_, _, _, _, _, _, _, _, _, _, _, _, _, _, _, _, _, _]) 18 0 3 bF rfl rfl rfl
 dsimp only [bA, List.take, List.replicate, List.append, List.drop]
 refine M8 ?_
 intros
 refine M8 ?_
 intros
 refine M2 ?_
 intros
 refine Z6 ?_
 exact Tm (x12) (ij H)
 exact fk
 kernel_rfl
 clear H; intro x14 hi; subst o4; have H := Hr4; clear Hr4; try dsimp only at H
 try dsimp only
 refine Z1 ?_
 revert H; refine bs fun z1 h13 H => ?_
 refine Z3 ?_
 exact Tm ((k3, x14, z1)) ⟨H, ls⟩
 refine Z7 ?_
 refine cA ?_
 refine eB ?_
 refine mF (o := bV) (i := x8.toNat) (k := 0) (y := y6) (y' := { y6 with Chans := x12 }) (f := (fun v => aE v 30 (aB .i64) x12)) (hf := (fun _ => dI)) (bW h6) rfl rfl ?_
 refine aH [1, 0] (by decide) ?_
 exact Tm (x7.set x8.toNat ({ y6 with Chans := x12 })) (ij H)
 clear H; intro x9 hi; subst o3; have H := Hr3; clear Hr3; try dsimp only at H
 try dsimp only
 refine Z1 ?_
 revert H; refine bs fun z2 h14 H => ?_
 refine Z3 ?_
 exact Tm ((k2, x9, z2)) ⟨H, ls⟩
 refine Z6 ?_
 exact Tm (x7) (ij H)
 clear H; intro x4 hi; subst o2; have H := Hr2; clear Hr2; try dsimp only at H
 try dsimp only
 refine Z6 ?_
 refine aDU ?_
 cases H
 refine aH [1] (by decide) ?_
 exact aDf rfl (bU rfl) (bU rfl) (eI.own (eI.pure Ent.rfl (aF trivial) eI.nil))
theorem aDa (fuel : Nat)  (a0 : ScopeProg) (r : (List UsageDef) × Int) (H : rL fuel a0 = some r) : FnS Tryz.prog 14 [fSt dG a0] [] (dC [fSl bD r.1, aA .i64 r.2]) (fun _ => []) := (aF1 fuel a0 r H).frz (fun v => frz_wrap (eC.cons (fun v => (iW rfl jK)) (eC.cons (fun v => frz_pure v) eC.nil)))
def oH (a0 : List Int) (a1 : List Int) : Nat → Int → Option ((Unit) ⊕ (Bool))
| 0, _ => none
| k + 1, x2 =>
 if x2 < (a0.length : Int) then
  (idx a0 x2).bind fun y1 =>
  (idx a1 x2).bind fun y2 =>
  if y1 ≠ y2 then
   (some false).bind fun r => some (Sum.inr r)
  else
   (chk (x2 + 1)).bind fun z1 =>
   oH a0 a1 k z1
 else
  some (Sum.inl ())
def sT (fuel : Nat) (a0 : List Int) (a1 : List Int) : Option (Bool) :=
 if (a0.length : Int) ≠ (a1.length : Int) then
  some false
 else
  (oH a0 a1 fuel 0).bind fun o => match o with
  | Sum.inr r => some r
  | Sum.inl _ =>
  some true
theorem vD (fuel : Nat)  (a0 : List Int) (a1 : List Int) (r : Bool) (H : sT fuel a0 a1 = some r) : FnS Tryz.prog 44 [fSl (aB .i64) a0, fSl (aB .i64) a1] [] (aK r) (fun _ => []) := by
 unfold sT at H
 refine bK Tryz.func44 rfl Tryz.ntmps44 rfl (fun β => ?_)
 refine Z3 ?_
 refine aI ?_
 refine Z7 ?_
 revert H; refine is (fun c1 H => ?_) fun c1 H => ?_
 refine Z5 ?_
 cases H
 exact To
 refine Z3 ?_
 revert H; refine bs fun o1 H Hr1 => ?_
 refine aT (ι := Unit) (fun i => o1 = Sum.inl ()) (fun i => []) (fun i => []) ?_ ?_
 refine Z4 ?_
 refine Tl (ι := Nat × Int) (fun i => oH a0 a1 i.1 i.2 = _) (fun i => i.1) (fun i => [(0, fSl (aB .i64) a0), (1, fSl (aB .i64) a1), (5, aA .i64 i.2)]) (fun i => []) (fuel, 0) H ?_
 clear H; rintro ⟨k1, x2⟩ H
 replace H : oH a0 a1 k1 x2 = _ := H
 try dsimp only
 obtain _ | k1 := k1
 rw [oH] at H; cases H
 rw [oH] at H
 refine aI ?_
 refine Z6 ?_
 revert H; refine is (fun c2 H => ?_) fun c2 H => ?_
 refine Z3 ?_
 refine aI ?_
 refine Z1 ?_
 refine aI ?_
 revert H; refine bs fun y1 h1 H => ?_
 revert H; refine bs fun y2 h2 H => ?_
 apply bG (ods := [_, _, _, _, _, _, _, _, _]) 9 0 0 bF rfl rfl rfl
 dsimp only [bA, List.take, List.replicate, List.append, List.drop]
 refine M8 ?_
 intros
 refine M1 ?_
 intros
 refine Z2 ?_
 revert H; refine is (fun c3 H => ?_) fun c3 H => ?_
 refine Z10 ?_
 revert H; refine bs fun r1 H e1 => ?_
 cases e1; cases Hr1
 cases H
 exact To
 refine Z6 ?_
 revert H; refine bs fun z1 h3 H => ?_
 refine Z3 ?_
 exact Tm ((k1, z1)) ⟨H, ls⟩
 exact fk
 kernel_rfl
 refine Z6 ?_
 exact Tm (()) (ij H)
 clear H; intro i hi; subst o1; have H := Hr1; clear Hr1; try dsimp only at H
 try dsimp only
 refine Z4 ?_
 cases H
 exact To
def lD (fuel : Nat) (a0 : List UsageDef) (a1 : List UsageDef) (x2 : Int) : Nat → Int → Option ((Unit) ⊕ ((Unit) ⊕ (Bool)))
| 0, _ => none
| k + 1, x4 =>
 (idx a0 x2).bind fun y9 =>
 if x4 < (y9.Args.length : Int) then
  (idx a0 x2).bind fun y10 =>
  (idx y10.Args x4).bind fun y11 =>
  (idx a1 x2).bind fun y12 =>
  (idx y12.Args x4).bind fun y13 =>
  (sT fuel y11 y13).bind fun y14 =>
  bif y14 then
   (chk (x4 + 1)).bind fun z1 =>
   lD fuel a0 a1 x2 k z1
  else
   ((some false).bind fun r => some (Sum.inr r)).bind fun r => some (Sum.inr r)
 else
  some (Sum.inl ())
def kW (fuel : Nat) (a0 : List UsageDef) (a1 : List UsageDef) : Nat → Int → Option ((Unit) ⊕ (Bool))
| 0, _ => none
| k + 1, x2 =>
 if x2 < (a0.length : Int) then
  ((idx a0 x2).bind fun y1 =>
  (idx a1 x2).bind fun y2 =>
  (sT fuel y1.Chans y2.Chans).bind fun y3 =>
  bif !y3 then
   ((some false).bind fun r => some (Sum.inr r)).bind fun r => some (Sum.inr r)
  else
   (idx a0 x2).bind fun y4 =>
   (idx a1 x2).bind fun y5 =>
   (sT fuel y4.Rules y5.Rules).bind fun y6 =>
   bif !y6 then
    ((some false).bind fun r => some (Sum.inr r)).bind fun r => some (Sum.inr r)
   else
    (idx a0 x2).bind fun y7 =>
    (idx a1 x2).bind fun y8 =>
    if (y7.Args.length : Int) ≠ (y8.Args.length : Int) then
     ((some false).bind fun r => some (Sum.inr r)).bind fun r => some (Sum.inr r)
    else
     lD fuel a0 a1 x2 fuel 0).bind fun o => match o with
  | Sum.inr r => some r
  | Sum.inl _ =>
  (chk (x2 + 1)).bind fun z2 =>
  kW fuel a0 a1 k z2
 else
  some (Sum.inl ())
def oX (fuel : Nat) (a0 : List UsageDef) (a1 : List UsageDef) : Option (Bool) :=
 if (a0.length : Int) ≠ (a1.length : Int) then
  some false
 else
  (kW fuel a0 a1 fuel 0).bind fun o => match o with
  | Sum.inr r => some r
  | Sum.inl _ =>
  some true
theorem aB3 (fuel : Nat)  (a0 : List UsageDef) (a1 : List UsageDef) (r : Bool) (H : oX fuel a0 a1 = some r) : FnS Tryz.prog 16 [fSl bD a0, fSl bD a1] [] (aK r) (fun _ => []) := by
 unfold oX at H
 refine bK Tryz.func16 rfl Tryz.ntmps16 rfl (fun β => ?_)
 refine Z3 ?_
 refine aI ?_
 refine Z7 ?_
 revert H; refine is (fun c1 H => ?_) fun c1 H => ?_
 refine dP (has rfl) c1 ?_
 refine Z4 ?_
 cases H
 exact To
 refine dN (has rfl) c1 ?_
 refine Z2 ?_
 revert H; refine bs fun o1 H Hr1 => ?_
 refine aT (ι := Unit) (fun i => o1 = Sum.inl ()) (fun i => []) (fun i => []) ?_ ?_
 refine Z4 ?_
 refine Tl (ι := Nat × Int) (fun i => kW fuel a0 a1 i.1 i.2 = _) (fun i => i.1) (fun i => [(0, fSl bD a0), (1, fSl bD a1), (5, aA .i64 i.2)]) (fun i => []) (fuel, 0) H ?_
 clear H; rintro ⟨k1, x2⟩ H
 replace H : kW fuel a0 a1 k1 x2 = _ := H
 try dsimp only
 obtain _ | k1 := k1
 rw [kW] at H; cases H
 rw [kW] at H
 refine aI ?_
 refine Z6 ?_
 revert H; refine is (fun c2 H => ?_) fun c2 H => ?_
 refine dP (has rfl) c2 ?_
 refine Z2 ?_
 revert H; refine bs fun o2 H Hr2 => ?_
 refine aT (ι := Unit) (fun i => o2 = Sum.inl ()) (fun i => [(0, fSl bD a0), (1, fSl bD a1), (5, aA .i64 x2)]) (fun i => []) ?_ ?_
 refine Z1 ?_
 refine aI ?_
 refine aI ?_
 revert H; refine bs fun y1 h1 H => ?_
 revert H; refine bs fun y2 h2 H => ?_
 revert H; refine bs fun y3 h3 H => ?_
 revert H; refine cs (fun c3 H => ?_) fun c3 H => ?_
 apply bG (ods := [_, _, _, _, _, _, _, _, _, _, _, _, _, _, _, _, _, _, _, _, _, _, _, _, _, _, _, _, _, _, _, _, _, _, _, _, _, _, _, _, _]) 41 0 0 bF rfl rfl rfl
 dsimp only [bA, List.take, List.replicate, List.append, List.drop]
 refine M2 ?_
 intros
 refine My (cG rfl hh hh (el rfl) h1) fun _ => ?_
 refine M4 ?_
 intros
 refine My (cG rfl hh hh (el rfl) h2) fun _ => ?_
 refine M2 ?_
 intros
 refine bP (od := odC [] true (aK y3) []) (Φ := aK y3) rfl (fun _ => rfl) trivial rfl rfl (has rfl) (aD.cons (has rfl) (aD.cons (has rfl) aD.nil)) rfl (cb rfl) (vD fuel y1.Chans y2.Chans y3 h3) (fun _ => ?_)
 refine M2 ?_
 intros
 refine Mt c3 fun _ => ?_
 refine Mt c3 fun _ => ?_
 refine Mt c3 fun _ => ?_
 refine Mt c3 fun _ => ?_
 refine Mt c3 fun _ => ?_
 refine Mt c3 fun _ => ?_
 refine Mt c3 fun _ => ?_
 refine Mt c3 fun _ => ?_
 refine Mt c3 fun _ => ?_
 refine Mt c3 fun _ => ?_
 refine Mt c3 fun _ => ?_
 refine Mt c3 fun _ => ?_
 refine My (dQ rfl hh c3 hh) fun _ => ?_
 refine M8 ?_
 intros
 refine M7 ?_
 intros
 refine Z9 ?_
 revert H; refine bs fun r1 H e1 => ?_
 cases e1; cases Hr2
 refine Z3 ?_
 revert H; refine bs fun r2 H e2 => ?_
 cases e2; cases Hr1
 cases H
 exact To
 exact fk
 kernel_rfl
 revert H; refine bs fun y4 h4 H => ?_
 revert H; refine bs fun y5 h5 H => ?_
 revert H; refine bs fun y6 h6 H => ?_
 revert H; refine cs (fun c4 H => ?_) fun c4 H => ?_
 apply bG (ods := [_, _, _, _, _, _, _, _, _, _, _, _, _, _, _, _, _, _, _, _, _, _, _, _, _, _, _, _, _, _, _, _, _, _, _, _, _, _, _, _, _]) 41 0 0 bF rfl rfl rfl
 dsimp only [bA, List.take, List.replicate, List.append, List.drop]
 refine M2 ?_
 intros
 refine My (cG rfl hh hh (el rfl) h1) fun _ => ?_
 refine M4 ?_
 intros
 refine My (cG rfl hh hh (el rfl) h2) fun _ => ?_
 refine M2 ?_
 intros
 refine bP (od := odC [] true (aK y3) []) (Φ := aK y3) rfl (fun _ => rfl) trivial rfl rfl (has rfl) (aD.cons (has rfl) (aD.cons (has rfl) aD.nil)) rfl (cb rfl) (vD fuel y1.Chans y2.Chans y3 h3) (fun _ => ?_)
 refine M2 ?_
 intros
 refine Mg c3 (bY rfl hh) fun _ => ?_
 refine Mg c3 (bY rfl hh) fun _ => ?_
 refine Mg c3 (cG rfl hh hh (el rfl) h4) fun _ => ?_
 refine Mg c3 (fW (t' := (tSl (aB .i64))) (z := y4.Rules) rfl hh (fa rfl) rfl) fun _ => ?_
 refine Mg c3 (fQ rfl hh (sc rfl) rfl) fun _ => ?_
 refine Mg c3 (bY rfl hh) fun _ => ?_
 refine Mg c3 (bY rfl hh) fun _ => ?_
 refine Mg c3 (cG rfl hh hh (el rfl) h5) fun _ => ?_
 refine Mg c3 (fW (t' := (tSl (aB .i64))) (z := y5.Rules) rfl hh (fa rfl) rfl) fun _ => ?_
 refine Mg c3 (fQ rfl hh (sc rfl) rfl) fun _ => ?_
 refine bP (od := odC [] true (aK y6) []) (Φ := aK y6) rfl (fun _ => rfl) ⟨_, _, rfl, rfl, c3⟩ rfl rfl (has rfl) (aD.cons (has rfl) (aD.cons (has rfl) aD.nil)) rfl (cb rfl) (vD fuel y4.Rules y5.Rules y6 h6) (fun _ => ?_)
 refine Mg c3 (kR rfl hh) fun _ => ?_
 refine My (cQ rfl hh c3 hh) fun _ => ?_
 refine M1 ?_
 intros
 refine Mt c4 fun _ => ?_
 refine Mt c4 fun _ => ?_
 refine Mt c4 fun _ => ?_
 refine Mt c4 fun _ => ?_
 refine Mt c4 fun _ => ?_
 refine Mt c4 fun _ => ?_
 refine Mt c4 fun _ => ?_
 refine Mt c4 fun _ => ?_
 refine Mt c4 fun _ => ?_
 refine Mt c4 fun _ => ?_
 refine Mt c4 fun _ => ?_
 refine Mt c4 fun _ => ?_
 refine Mt c4 fun _ => ?_
 refine My (dQ rfl hh c4 hh) fun _ => ?_
 refine Z9 ?_
 revert H; refine bs fun r3 H e3 => ?_
 cases e3; cases Hr2
 refine Z3 ?_
 revert H; refine bs fun r4 H e4 => ?_
 cases e4; cases Hr1
 cases H
 exact To
 exact fk
 kernel_rfl
 revert H; refine bs fun y7 h7 H => ?_
 revert H; refine bs fun y8 h8 H => ?_
 apply bG (ods := [_, _, _, _, _, _, _, _, _, _, _, _, _, _, _, _, _, _, _, _, _, _, _, _, _, _, _, _, _, _, _, _, _, _, _, _, _, _, _, _, _]) 41 0 0 bF rfl rfl rfl
 dsimp only [bA, List.take, List.replicate, List.append, List.drop]
 refine M2 ?_
 intros
 refine My (cG rfl hh hh (el rfl) h1) fun _ => ?_
 refine M4 ?_
 intros
 refine My (cG rfl hh hh (el rfl) h2) fun _ => ?_
 refine M2 ?_
 intros
 refine bP (od := odC [] true (aK y3) []) (Φ := aK y3) rfl (fun _ => rfl) trivial rfl rfl (has rfl) (aD.cons (has rfl) (aD.cons (has rfl) aD.nil)) rfl (cb rfl) (vD fuel y1.Chans y2.Chans y3 h3) (fun _ => ?_)
 refine M2 ?_
 intros
 refine Mg c3 (bY rfl hh) fun _ => ?_
 refine Mg c3 (bY rfl hh) fun _ => ?_
 refine Mg c3 (cG rfl hh hh (el rfl) h4) fun _ => ?_
 refine Mg c3 (fW (t' := (tSl (aB .i64))) (z := y4.Rules) rfl hh (fa rfl) rfl) fun _ => ?_
 refine Mg c3 (fQ rfl hh (sc rfl) rfl) fun _ => ?_
 refine Mg c3 (bY rfl hh) fun _ => ?_
 refine Mg c3 (bY rfl hh) fun _ => ?_
 refine Mg c3 (cG rfl hh hh (el rfl) h5) fun _ => ?_
 refine Mg c3 (fW (t' := (tSl (aB .i64))) (z := y5.Rules) rfl hh (fa rfl) rfl) fun _ => ?_
 refine Mg c3 (fQ rfl hh (sc rfl) rfl) fun _ => ?_
 refine bP (od := odC [] true (aK y6) []) (Φ := aK y6) rfl (fun _ => rfl) ⟨_, _, rfl, rfl, c3⟩ rfl rfl (has rfl) (aD.cons (has rfl) (aD.cons (has rfl) aD.nil)) rfl (cb rfl) (vD fuel y4.Rules y5.Rules y6 h6) (fun _ => ?_)
 refine Mg c3 (kR rfl hh) fun _ => ?_
 refine My (cQ rfl hh c3 hh) fun _ => ?_
 refine M1 ?_
 intros
 refine Mg c4 (bY rfl hh) fun _ => ?_
 refine Mg c4 (bY rfl hh) fun _ => ?_
 refine Mg c4 (cG rfl hh hh (el rfl) h7) fun _ => ?_
 refine Mg c4 (fW (t' := (tSl (tSl (aB .i64)))) (z := y7.Args) rfl hh (fa rfl) rfl) fun _ => ?_
 refine Mg c4 (fQ rfl hh (sc rfl) rfl) fun _ => ?_
 refine Mg c4 (fT rfl hh (us rfl)) fun _ => ?_
 refine Mg c4 (bY rfl hh) fun _ => ?_
 refine Mg c4 (bY rfl hh) fun _ => ?_
 refine Mg c4 (cG rfl hh hh (el rfl) h8) fun _ => ?_
 refine Mg c4 (fW (t' := (tSl (tSl (aB .i64)))) (z := y8.Args) rfl hh (fa rfl) rfl) fun _ => ?_
 refine Mg c4 (fQ rfl hh (sc rfl) rfl) fun _ => ?_
 refine Mg c4 (fT rfl hh (us rfl)) fun _ => ?_
 refine Mg c4 (tA rfl hh hh) fun _ => ?_
 refine My (cQ rfl hh c4 hh) fun _ => ?_
 refine Z2 ?_
 revert H; refine is (fun c5 H => ?_) fun c5 H => ?_
 refine dP (has rfl) c5 ?_
 refine Z6 ?_
 revert H; refine bs fun r5 H e5 => ?_
 cases e5; cases Hr2
 refine Z3 ?_
 revert H; refine bs fun r6 H e6 => ?_
 cases e6; cases Hr1
 cases H
 exact To
 refine dN (has rfl) c5 ?_
 refine Z6 ?_
 refine Tl (ι := Nat × Int) (fun i => lD fuel a0 a1 x2 i.1 i.2 = _) (fun i => i.1) (fun i => [(0, fSl bD a0), (1, fSl bD a1), (5, aA .i64 x2), (6, aA .i64 i.2)]) (fun i => []) (fuel, 0) H ?_
 clear H; rintro ⟨k2, x4⟩ H
 replace H : lD fuel a0 a1 x2 k2 x4 = _ := H
 try dsimp only
 obtain _ | k2 := k2
 rw [lD] at H; cases H
 rw [lD] at H
 refine aI ?_
 refine Z4 ?_
 revert H; refine bs fun y9 h9 H => ?_
 refine Yy (cG rfl hh hh (el rfl) h9) ?_
 refine Z5 ?_
 revert H; refine is (fun c6 H => ?_) fun c6 H => ?_
 refine dP (has rfl) c6 ?_
 refine Z2 ?_
 refine aI ?_
 refine Z1 ?_
 refine aI ?_
 revert H; refine bs fun y10 h10 H => ?_
 revert H; refine bs fun y11 h11 H => ?_
 revert H; refine bs fun y12 h12 H => ?_
 revert H; refine bs fun y13 h13 H => ?_
 revert H; refine bs fun y14 h14 H => ?_
 apply bG (ods := [_, _, _, _, _, _, _, _, _, _, _, _, _, _, _, _, _, _]) 18 0 0 bF rfl rfl rfl
 dsimp only [bA, List.take, List.replicate, List.append, List.drop]
 refine M2 ?_
 intros
 refine My (cG rfl hh hh (el rfl) h10) fun _ => ?_
 refine M3 ?_
 intros
 refine My (cG rfl hh hh (el rfl) h11) fun _ => ?_
 refine M3 ?_
 intros
 refine My (cG rfl hh hh (el rfl) h12) fun _ => ?_
 refine M3 ?_
 intros
 refine My (cG rfl hh hh (el rfl) h13) fun _ => ?_
 refine M1 ?_
 intros
 refine bP (od := odC [] true (aK y14) []) (Φ := aK y14) rfl (fun _ => rfl) trivial rfl rfl (has rfl) (aD.cons (has rfl) (aD.cons (has rfl) aD.nil)) rfl (cb rfl) (vD fuel y11 y13 y14 h14) (fun _ => ?_)
 refine M1 ?_
 intros
 refine Z2 ?_
 revert H; refine cs (fun c7 H => ?_) fun c7 H => ?_
 refine dN (has rfl) (pH c7) ?_
 refine Z5 ?_
 revert H; refine bs fun z1 h15 H => ?_
 refine Yy (fO rfl hh hh h15) ?_
 refine Z2 ?_
 exact Tm ((k2, z1)) ⟨H, ls⟩
 refine dP (has rfl) (oZ c7) ?_
 refine Z10 ?_
 revert H; refine bs fun r7 H e7 => ?_
 cases e7; cases Hr2
 refine Z3 ?_
 revert H; refine bs fun r8 H e8 => ?_
 cases e8; cases Hr1
 cases H
 exact To
 exact fk
 kernel_rfl
 refine dN (has rfl) c6 ?_
 refine Z6 ?_
 exact Tm (()) (ij H)
 exact fk
 kernel_rfl
 clear H; intro i hi; subst o2; have H := Hr2; clear Hr2; try dsimp only at H
 try dsimp only
 refine Z2 ?_
 revert H; refine bs fun z2 h16 H => ?_
 refine Yy (fO rfl hh hh h16) ?_
 refine Z2 ?_
 exact Tm ((k1, z2)) ⟨H, ls⟩
 refine dN (has rfl) c2 ?_
 refine Z5 ?_
 exact Tm (()) (ij H)
 clear H; intro i hi; subst o1; have H := Hr1; clear Hr1; try dsimp only at H
 try dsimp only
 refine Z4 ?_
 cases H
 exact To
def aAo (a0 : Int) (a1 : Int) (a2 : Bool) : Option (Bool) :=
 (nV a0).bind fun y1 =>
 (nV a1).bind fun y2 =>
 some (decide (y2 ≤ y1))
theorem aFu  (a0 : Int) (a1 : Int) (a2 : Bool) (r : Bool) (H : aAo a0 a1 a2 = some r) : FnS Tryz.prog 45 [aA .i64 a0, aA .i64 a1, aK a2] [] (aK r) (fun _ => []) := by
 unfold aAo at H
 refine bK Tryz.func45 rfl Tryz.ntmps45 rfl (fun β => ?_)
 refine Z5 ?_
 revert H; refine bs fun y1 h1 H => ?_
 refine Tc (vL _ _ h1) ?_
 refine Z1 ?_
 revert H; refine bs fun y2 h2 H => ?_
 refine Tc (vL _ _ h2) ?_
 refine Z4 ?_
 cases H
 exact To
end Go.Proofs.YtmnbfgeljmhekaaGreat
