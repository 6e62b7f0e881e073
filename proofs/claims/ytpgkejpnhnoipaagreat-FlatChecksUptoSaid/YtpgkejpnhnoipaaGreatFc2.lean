/- Parts of the proof: lemmas, and the steps through the program. -/
import Derived.Test.YtpgkejpnhnoipaaGreatFc1
set_option linter.unusedVariables false
set_option linter.unusedSimpArgs false
set_option maxRecDepth 100000
set_option maxHeartbeats 2000000
namespace Go.Proofs.YtpgkejpnhnoipaaGreat
open Go.SX Go.SW Go.Dt
attribute [local irreducible] Code.wpIn wpListIn Exit.then Exit.inBlock
def aAQ (a0 : Scope_speaks) : Option (Int) :=
 some 0
theorem aE8  (a0 : Scope_speaks) (r : Int) (H : aAQ a0 = some r) : FnS Tryz.prog 327 [fSt aFb a0] [] (fI r) (fun _ => []) := by
 unfold aAQ at H
 refine bS Tryz.func327 rfl Tryz.ntmps327 rfl (fun β => ?_)
 refine Z1 ?_
 refine Tn (cV rfl hh cJ) fun b1 => ?_
 refine Z6 ?_
 cases H
 refine aH [] (by decide) ?_
 exact To
def aBt (a0 : Scope_travels) : Option (Int) :=
 some 1
theorem aGF  (a0 : Scope_travels) (r : Int) (H : aBt a0 = some r) : FnS Tryz.prog 328 [fSt aFk a0] [] (fI r) (fun _ => []) := by
 unfold aBt at H
 refine bS Tryz.func328 rfl Tryz.ntmps328 rfl (fun β => ?_)
 refine Z1 ?_
 refine Tn (cV rfl hh cJ) fun b1 => ?_
 refine Z6 ?_
 cases H
 refine aH [] (by decide) ?_
 exact To
def aAZ (a0 : Int) : Option (Int) :=
 some a0
theorem aHb  (a0 : Int) (r : Int) (H : aAZ a0 = some r) : FnS Tryz.prog 329 [fI a0] [] (fI r) (fun _ => []) := by
 unfold aAZ at H
 refine bS Tryz.func329 rfl Tryz.ntmps329 rfl (fun β => ?_)
 refine Z8 ?_
 cases H
 exact To
def aBC (a0 : Scope_decides) : Option (Int) :=
 some 2
theorem aFN  (a0 : Scope_decides) (r : Int) (H : aBC a0 = some r) : FnS Tryz.prog 330 [fSt aGW a0] [] (fI r) (fun _ => []) := by
 unfold aBC at H
 refine bS Tryz.func330 rfl Tryz.ntmps330 rfl (fun β => ?_)
 refine Z1 ?_
 refine Tn (cV rfl hh cJ) fun b1 => ?_
 refine Z6 ?_
 cases H
 refine aH [] (by decide) ?_
 exact To
def aBv (a0 : Scope_declares) : Option (Int) :=
 some 1
theorem aF2  (a0 : Scope_declares) (r : Int) (H : aBv a0 = some r) : FnS Tryz.prog 331 [fSt aFa a0] [] (fI r) (fun _ => []) := by
 unfold aBv at H
 refine bS Tryz.func331 rfl Tryz.ntmps331 rfl (fun β => ?_)
 refine Z1 ?_
 refine Tn (cV rfl hh cJ) fun b1 => ?_
 refine Z6 ?_
 cases H
 refine aH [] (by decide) ?_
 exact To
def mA : Value -> Option Int
 | .iface 302 (.agg ⟨[]⟩) => aAQ ⟨⟩
 | .iface 303 (.agg ⟨[]⟩) => aBt ⟨⟩
 | .iface 338 (.int .i64 n) => aAZ n
 | .iface 339 (.agg ⟨[]⟩) => aBC ⟨⟩
 | .iface 340 (.agg ⟨[]⟩) => aBv ⟨⟩
 | _ => none
theorem aFS (v : Value) (r : Int) (H : mA v = some r) : Inv Tryz.prog v "cabotage/scope.kids" [] (fI r) := by
 unfold mA at H
 split at H
 exact ⟨_, _, 327, rfl, fun w => by kernel_rfl, (cb rfl), (aE8 ⟨⟩ r H).args (aI.cons (uC []) aI.nil)⟩
 exact ⟨_, _, 328, rfl, fun w => by kernel_rfl, (cb rfl), (aGF ⟨⟩ r H).args (aI.cons (uC []) aI.nil)⟩
 rename_i n; exact ⟨_, _, 329, rfl, fun w => by kernel_rfl, (cb rfl), (aHb n r H).args aI.rfl⟩
 exact ⟨_, _, 330, rfl, fun w => by kernel_rfl, (cb rfl), (aFN ⟨⟩ r H).args (aI.cons (uC []) aI.nil)⟩
 exact ⟨_, _, 331, rfl, fun w => by kernel_rfl, (cb rfl), (aF2 ⟨⟩ r H).args (aI.cons (uC []) aI.nil)⟩
 cases H
def lM (AA : Nat) (a2 : Int) (y7 : Ae) : Nat -> Int -> Option ((Unit) ⊕ (Am ⊕ Value))
| 0, _ => none
| k + 1, x8 =>
 if x8 < (y7.Aa.length : Int) then
  (idx y7.Aa x8).bind fun y27 =>
  (wO AA (⟨y27.Op, y27.N, y27.AU⟩ : AW) a2).bind fun y28 =>
  match y28 with
  | Sum.inr pv16 => (some (Sum.inr pv16)).bind fun r => some (Sum.inr r)
  | Sum.inl y28 =>
  (chk (x8 + 1)).bind fun z1 =>
  lM AA a2 y7 k z1
 else
  some (Sum.inl ())
def kZ (AA : Nat) (rec_scope_looker_node : Am -> Int -> Int -> Option (Am ⊕ Value)) (y30 : AN) (z2 : Int) : Nat -> Int -> (List ByteArray) -> (List Ae) -> (List AN) -> Int -> (List Int) -> (List Bool) -> (List Bool) -> Option ((List ByteArray × List Ae × List AN × Int × List Int × List Bool × List Bool) ⊕ ((Int × List ByteArray × List Ae × List AN × Int × List Int × List Bool × List Bool) ⊕ (Am ⊕ Value)))
| 0, _, _, _, _, _, _, _, _ => none
| k + 1, x32, x33, x34, x35, x36, x37, x38, x39 =>
 if x32 < (y30.AS.length : Int) then
  (idx y30.AS x32).bind fun y33 =>
  (xL AA (⟨y30.AP, y30.AT, y30.AS⟩ : AN) (⟨y33.At, y33.Af, y33.Ab⟩ : Al)).bind fun y34 =>
  (chk (z2 + y34)).bind fun z3 =>
  (rec_scope_looker_node (⟨(⟨x33, x34, x35, x36⟩ : AM), x37, x38, x39⟩ : Am) y33.Ab z3).bind fun y35 =>
  match y35 with
  | Sum.inr pv18 => ((some (Sum.inr pv18)).bind fun r => some (Sum.inr r)).bind fun r => some (Sum.inr r)
  | Sum.inl y35 =>
  (chk (x32 + 1)).bind fun z4 =>
  kZ AA rec_scope_looker_node y30 z2 k z4 y35.p.AD y35.p.AB y35.p.AC y35.p.AE y35.AV y35.AX y35.AZ
 else
  some (Sum.inl (x33, x34, x35, x36, x37, x38, x39))
def lF (rec_scope_looker_node : Am -> Int -> Int -> Option (Am ⊕ Value)) (y30 : AN) (z2 : Int) : Nat -> Int -> (List ByteArray) -> (List Ae) -> (List AN) -> Int -> (List Int) -> (List Bool) -> (List Bool) -> Option ((Int × List ByteArray × List Ae × List AN × Int × List Int × List Bool × List Bool) ⊕ (Am ⊕ Value))
| 0, _, _, _, _, _, _, _, _ => none
| k + 1, x48, x49, x50, x51, x52, x53, x54, x55 =>
 if x48 < (y30.AT.length : Int) then
  (idx y30.AT x48).bind fun y36 =>
  (rec_scope_looker_node (⟨(⟨x49, x50, x51, x52⟩ : AM), x53, x54, x55⟩ : Am) y36.Ab z2).bind fun y37 =>
  match y37 with
  | Sum.inr pv19 => (some (Sum.inr pv19)).bind fun r => some (Sum.inr r)
  | Sum.inl y37 =>
  (chk (x48 + 1)).bind fun z5 =>
  lF rec_scope_looker_node y30 z2 k z5 y37.p.AD y37.p.AB y37.p.AC y37.p.AE y37.AV y37.AX y37.AZ
 else
  some (Sum.inl (z2, x49, x50, x51, x52, x53, x54, x55))
def lZ (rec_scope_looker_node : Am -> Int -> Int -> Option (Am ⊕ Value)) (y7 : Ae) (x9 : Int) : Nat -> Int -> (List ByteArray) -> (List Ae) -> (List AN) -> Int -> (List Int) -> (List Bool) -> (List Bool) -> Option (Am ⊕ Value)
| 0, _, _, _, _, _, _, _, _ => none
| k + 1, x64, x65, x66, x67, x68, x69, x70, x71 =>
 if x64 < (y7.AU.length : Int) then
  (idx y7.AU x64).bind fun y38 =>
  (rec_scope_looker_node (⟨(⟨x65, x66, x67, x68⟩ : AM), x69, x70, x71⟩ : Am) y38 x9).bind fun y39 =>
  match y39 with
  | Sum.inr pv20 => some (Sum.inr pv20)
  | Sum.inl y39 =>
  (chk (x64 + 1)).bind fun z6 =>
  lZ rec_scope_looker_node y7 x9 k z6 y39.p.AD y39.p.AB y39.p.AC y39.p.AE y39.AV y39.AX y39.AZ
 else
  some (Sum.inl (⟨(⟨x65, x66, x67, x68⟩ : AM), x69, x70, x71⟩ : Am))
def eZ : Nat -> Am -> Int -> Int -> Option (Am ⊕ Value)
| 0, _, _, _ => none
| AA + 1, a0, a1, a2 =>
 (if 0 <= a1 then
  if a1 < (a0.p.AB.length : Int) then
   (idx a0.AX a1).bind fun y1 =>
   (bN (!y1)).bind fun y2 =>
   match y2 with
   | Sum.inr pv1 => (some (Sum.inr pv1)).bind fun r => some (Sum.inr r)
   | Sum.inl y2 =>
   some (Sum.inl ())
  else
   (bN false).bind fun y3 =>
   match y3 with
   | Sum.inr pv2 => (some (Sum.inr pv2)).bind fun r => some (Sum.inr r)
   | Sum.inl y3 =>
   some (Sum.inl ())
 else
  (bN false).bind fun y4 =>
  match y4 with
  | Sum.inr pv3 => (some (Sum.inr pv3)).bind fun r => some (Sum.inr r)
  | Sum.inl y4 =>
  some (Sum.inl ())).bind fun o => match o with
 | Sum.inr r => some r
 | Sum.inl _ =>
 (idx a0.AX a1).bind fun y5 =>
 (idx a0.AV a1).bind fun y6 =>
 (idx a0.p.AB a1).bind fun y7 =>
 (jR y7.Op).bind fun y8 =>
 ((iF y8).bind fun x1 =>
 bif !x1 then
  (mA y8).bind fun y9 =>
  (bN (decide ((y7.AU.length : Int) = y9))).bind fun y10 =>
  match y10 with
  | Sum.inr pv4 => (some (Sum.inr pv4)).bind fun r => some (Sum.inr r)
  | Sum.inl y10 =>
  some (Sum.inl ())
 else
  (bN false).bind fun y11 =>
  match y11 with
  | Sum.inr pv5 => (some (Sum.inr pv5)).bind fun r => some (Sum.inr r)
  | Sum.inl y11 =>
  some (Sum.inl ())).bind fun o => match o with
 | Sum.inr r => some r
 | Sum.inl _ =>
 ((eO 302 (.agg #[]) y8).bind fun y12 =>
 match y12 with
 | (u1, x3) =>
 bif x3 then
  if 0 <= y7.N then
   (bN (decide (y7.N < a2))).bind fun y13 =>
   match y13 with
   | Sum.inr pv6 => (some (Sum.inr pv6)).bind fun r => some (Sum.inr r)
   | Sum.inl y13 =>
   some (Sum.inl (min (y7.Aa.length : Int) 3))
  else
   (bN false).bind fun y14 =>
   match y14 with
   | Sum.inr pv7 => (some (Sum.inr pv7)).bind fun r => some (Sum.inr r)
   | Sum.inl y14 =>
   some (Sum.inl (min (y7.Aa.length : Int) 3))
 else
  (eO 303 (.agg #[]) y8).bind fun y15 =>
  match y15 with
  | (u2, x4) =>
  bif x4 then
   if 0 <= y7.N then
    (bN (decide (y7.N < a2))).bind fun y16 =>
    match y16 with
    | Sum.inr pv8 => (some (Sum.inr pv8)).bind fun r => some (Sum.inr r)
    | Sum.inl y16 =>
    some (Sum.inl 0)
   else
    (bN false).bind fun y17 =>
    match y17 with
    | Sum.inr pv9 => (some (Sum.inr pv9)).bind fun r => some (Sum.inr r)
    | Sum.inl y17 =>
    some (Sum.inl 0)
  else
   (eO 340 (.agg #[]) y8).bind fun y18 =>
   match y18 with
   | (u3, x5) =>
   bif x5 then
    if 0 <= y7.N then
     if y7.N < (a0.p.AC.length : Int) then
      (idx a0.AZ y7.N).bind fun y19 =>
      (bN (!y19)).bind fun y20 =>
      match y20 with
      | Sum.inr pv10 => (some (Sum.inr pv10)).bind fun r => some (Sum.inr r)
      | Sum.inl y20 =>
      some (Sum.inl 0)
     else
      (bN false).bind fun y21 =>
      match y21 with
      | Sum.inr pv11 => (some (Sum.inr pv11)).bind fun r => some (Sum.inr r)
      | Sum.inl y21 =>
      some (Sum.inl 0)
    else
     (bN false).bind fun y22 =>
     match y22 with
     | Sum.inr pv12 => (some (Sum.inr pv12)).bind fun r => some (Sum.inr r)
     | Sum.inl y22 =>
     some (Sum.inl 0)
   else
    (eO 339 (.agg #[]) y8).bind fun y23 =>
    match y23 with
    | (u4, x6) =>
    bif x6 then
     (bN (decide (y7.N = 0))).bind fun y24 =>
     match y24 with
     | Sum.inr pv13 => (some (Sum.inr pv13)).bind fun r => some (Sum.inr r)
     | Sum.inl y24 =>
     some (Sum.inl 1)
    else
     (bN (decide (y7.N = 0))).bind fun y25 =>
     match y25 with
     | Sum.inr pv14 => (some (Sum.inr pv14)).bind fun r => some (Sum.inr r)
     | Sum.inl y25 =>
     some (Sum.inl 0)).bind fun o => match o with
 | Sum.inr r => some r
 | Sum.inl x2 =>
 (bN (decide ((y7.Aa.length : Int) = x2))).bind fun y26 =>
 match y26 with
 | Sum.inr pv15 => some (Sum.inr pv15)
 | Sum.inl y26 =>
 (lM AA a2 y7 AA 0).bind fun o => match o with
 | Sum.inr r => some r
 | Sum.inl _ =>
 (if y7.Op = 4 then
  (idx a0.AZ y7.N).bind fun y29 =>
  (idx a0.p.AC y7.N).bind fun y30 =>
  (tF AA (⟨y30.AP, y30.AT, y30.AS⟩ : AN)).bind fun y31 =>
  match y31 with
  | Sum.inr pv17 => (some (Sum.inr pv17)).bind fun r => some (Sum.inr r)
  | Sum.inl y31 =>
  (sI (⟨y30.AP, y30.AT, y30.AS⟩ : AN)).bind fun y32 =>
  (chk (a2 + y32)).bind fun z2 =>
  (kZ AA (eZ AA) y30 z2 AA 0 a0.p.AD a0.p.AB a0.p.AC a0.p.AE (a0.AV.set a1.toNat a2) (a0.AX.set a1.toNat true) (a0.AZ.set y7.N.toNat true)).bind fun o => match o with
  | Sum.inr r => some r
  | Sum.inl (x17, x18, x19, x20, x21, x22, x23) =>
  lF (eZ AA) y30 z2 AA 0 x17 x18 x19 x20 x21 x22 x23
 else
  some (Sum.inl (a2, a0.p.AD, a0.p.AB, a0.p.AC, a0.p.AE, a0.AV.set a1.toNat a2, a0.AX.set a1.toNat true, a0.AZ))).bind fun o => match o with
 | Sum.inr r => some r
 | Sum.inl (x9, x10, x11, x12, x13, x14, x15, x16) =>
 lZ (eZ AA) y7 x9 AA 0 x10 x11 x12 x13 x14 x15 x16
theorem aEg : ∀ (AA : Nat), (∀ (p0 : Nat) (a0 : Am) (a1 : Int) (a2 : Int) (r : Am ⊕ Value) (H : eZ AA a0 a1 a2 = some r), FnE Tryz.prog 276 [fEq (.pointer (some ⟨p0, 0, none⟩)), fI a1, fI a2] [yY p0 a0] r (fun r => eM []) (fun r => [yY p0 r])) := by
 intro AA
 induction AA with
 | zero => exact fun p0 a0 a1 a2 r H => (by rw [eZ] at H; cases H)
 | succ AA ih =>
 have ih_scope_looker_node := ih
 refine ?_
 intro p0 a0 a1 a2 r H
 rw [eZ] at H
 refine qS Tryz.func276 rfl Tryz.ntmps276 rfl (fun β => ?_)
 refine vK (fun v1 v2 v3 => ?_)
 refine aE 1 rfl (fun hc_v1 => ?_)
 refine aE 2 rfl (fun hc_v2 => ?_)
 refine aE 3 rfl (fun hc_v3 => ?_)
 revert H; refine bs fun o1 H Hr1 => ?_
 refine aP (ι := Unit) (fun i => o1 = Sum.inl ()) (fun i => [(0, fEq (ptr p0)), (1, fI a1), (2, fI a2)]) (fun i => [aD p0 204 [fSl aC a0.p.AD, fSl aK a0.p.AB, fSl aA a0.p.AC, fI a0.p.AE, fEq v1, fEq v2, fEq v3], aB v1 3 tI a0.AV, aB v2 4 aN a0.AX, aB v3 4 aN a0.AZ]) ?_ ?_
 revert H; refine I4 (fun c1 H => ?_) fun c1 H => ?_
 revert H; refine I10 (fun c2 H => ?_) fun c2 H => ?_
 revert H; refine B5 fun y1 h1 H => ?_
 refine Z1 ?_
 refine Yh 2 rfl c2 (iV rfl rfl hh (sc rfl) (eD h1) rfl) ?_
 revert H; refine B2 fun y2 h2 H => ?_
 rcases y2 with y2 | pv1 <;> dsimp only at H
 refine Tc (aS _ _ h2).s ?_
 refine Z1 ?_
 exact Tm (()) (ij H)
 refine Tp (aS _ _ h2).pan ?_
 revert H; refine B1 fun r1 H e1 => ?_
 cases e1; cases Hr1
 cases H
 exact bT
 revert H; refine B9 fun y3 h3 H => ?_
 rcases y3 with y3 | pv2 <;> dsimp only at H
 refine Tc (aS _ _ h3).s ?_
 refine Z1 ?_
 exact Tm (()) (ij H)
 refine Tp (aS _ _ h3).pan ?_
 revert H; refine B1 fun r2 H e2 => ?_
 cases e2; cases Hr1
 cases H
 exact bT
 refine Z12 ?_
 revert H; refine B7 fun y4 h4 H => ?_
 rcases y4 with y4 | pv3 <;> dsimp only at H
 refine Tc (aS _ _ h4).s ?_
 refine Z1 ?_
 exact Tm (()) (ij H)
 refine Tp (aS _ _ h4).pan ?_
 revert H; refine B1 fun r3 H e3 => ?_
 cases e3; cases Hr1
 cases H
 exact bT
 clear H; intro i hi; subst o1; have H := Hr1; clear Hr1; try dsimp only at H
 try dsimp only
 refine aJ ?_
 revert H; refine bs fun y5 h5 H => ?_
 revert H; refine bs fun y6 h6 H => ?_
 apply bL (ods := [_, _, _, _, _, _, _, _, _, _, _, _, _, _, _]) 15 0 4 bM rfl rfl rfl
 refine ND ?_
 refine M8 ?_
 intros
 refine M4 ?_
 intros
 refine nX (od := odC [2] true (dN) [aB v2 4 aN (a0.AX.set a1.toNat true)]) (p := 2) (z' := true) rfl (fun _ => rfl) (fun _ => rfl) a1W rfl rfl rfl rfl (has rfl) (has rfl) (aG a1W) (sz rfl) (eD h5) rfl rfl (fun _ => ?_)
 refine M1 ?_
 intros
 refine nX (od := odC [1] true (dN) [aB v1 3 tI (a0.AV.set a1.toNat a2)]) (p := 1) (z' := a2) rfl (fun _ => rfl) (fun _ => rfl) a1W rfl rfl rfl rfl (has rfl) (has rfl) (aG a1W) (sz rfl) (eD h6) rfl rfl (fun _ => ?_)
 revert H; refine B9 fun y7 h7 H => ?_
 refine Z2 ?_
 refine Tn (dG rfl sE rfl) fun b1 => ?_
 refine dV (φs' := [fI y7.Op, fI y7.N, fSl aO y7.Aa, fSl tI y7.AU]) a1W rfl rfl (has rfl) (has rfl) (aL (aG a1W) (aL (aG a1W) (aL (aY) (aL (aY) cE)))) (sz rfl) rfl rfl rfl ?_
 revert H; refine B4 fun y8 h8 H => ?_
 refine Tc (aGU _ _ h8) ?_
 revert H; refine B2 fun o2 H Hr2 => ?_
 refine aP (ι := Unit) (fun i => o2 = Sum.inl ()) (fun i => [(0, fEq (ptr p0)), (2, fI a2), (6, fEq (ptr b1)), (7, fRaw y8)]) (fun i => [aD b1 118 [fI y7.Op, fI y7.N, fSl aO y7.Aa, fSl tI y7.AU], aD p0 204 [fSl aC a0.p.AD, fSl aK a0.p.AB, fSl aA a0.p.AC, fI a0.p.AE, fEq v1, fEq v2, fEq v3], aB v1 3 tI (a0.AV.set a1.toNat a2), aB v2 4 aN (a0.AX.set a1.toNat true), aB v3 4 aN a0.AZ]) ?_ ?_
 revert H; refine bs fun x1 h9 H => ?_
 revert H; refine cs (fun c3 H => ?_) fun c3 H => ?_
 revert H; refine bs fun y9 h10 H => ?_
 apply bL (ods := [_, _, _, _, _, _, _, _, _, _]) 10 0 5 bM rfl rfl rfl
 refine ND ?_
 refine M1 ?_
 intros
 refine My (yE rfl (jB rfl rC) aCw h9) fun _ => ?_
 refine M5 ?_
 intros
 refine N_callI (od := odC [] true (fI y9) []) (Φ := fI y9) rfl (fun _ => rfl) ⟨_, _, rfl, rfl, c3⟩ rfl rfl (jB rfl rC) aM.nil (aFS y8 y9 h10) (fun _ => ?_)
 refine M2 ?_
 intros
 revert H; refine B1 fun y10 h11 H => ?_
 rcases y10 with y10 | pv4 <;> dsimp only at H
 refine Tc (aS _ _ h11).s ?_
 refine Z1 ?_
 exact Tm (()) (ij H)
 refine Tp (aS _ _ h11).pan ?_
 revert H; refine B1 fun r4 H e4 => ?_
 cases e4; cases Hr2
 cases H
 exact bT
 exact fk
 kernel_rfl
 apply bL (ods := [_, _, _, _, _, _, _, _, _, _]) 10 0 5 bM rfl rfl rfl
 refine ND ?_
 refine M1 ?_
 intros
 refine My (yE rfl (jB rfl rC) aCw h9) fun _ => ?_
 refine M8 ?_
 intros
 revert H; refine B1 fun y11 h12 H => ?_
 rcases y11 with y11 | pv5 <;> dsimp only at H
 refine Tc (aS _ _ h12).s ?_
 refine Z1 ?_
 exact Tm (()) (ij H)
 refine Tp (aS _ _ h12).pan ?_
 revert H; refine B1 fun r5 H e5 => ?_
 cases e5; cases Hr2
 cases H
 exact bT
 exact fk
 kernel_rfl
 clear H; intro i hi; subst o2; have H := Hr2; clear Hr2; try dsimp only at H
 try dsimp only
 revert H; refine B3 fun o3 H Hr3 => ?_
 refine aP (ι := Int) (fun i => o3 = Sum.inl i) (fun i => [(0, fEq (ptr p0)), (2, fI a2), (6, fEq (ptr b1)), (8, fI i)]) (fun i => [aD b1 118 [fI y7.Op, fI y7.N, fSl aO y7.Aa, fSl tI y7.AU], aD p0 204 [fSl aC a0.p.AD, fSl aK a0.p.AB, fSl aA a0.p.AC, fI a0.p.AE, fEq v1, fEq v2, fEq v3], aB v1 3 tI (a0.AV.set a1.toNat a2), aB v2 4 aN (a0.AX.set a1.toNat true), aB v3 4 aN a0.AZ]) ?_ ?_
 revert H; refine B5 fun y12 h13 H => ?_
 obtain ⟨u1, x3⟩ := y12; dsimp only at H
 refine Yy (xB rfl (jB rfl rC) aDn aFK h13) ?_
 refine Z3 ?_
 revert H; refine cs (fun c4 H => ?_) fun c4 H => ?_
 refine Z12 ?_
 revert H; refine I1 (fun c5 H => ?_) fun c5 H => ?_
 revert H; refine B5 fun y13 h14 H => ?_
 rcases y13 with y13 | pv6 <;> dsimp only at H
 refine Tc (aS _ _ h14).s ?_
 refine Z3 ?_
 exact Tm (min (y7.Aa.length : Int) 3) (ij H)
 refine Tp (aS _ _ h14).pan ?_
 revert H; refine B2 fun r6 H e6 => ?_
 cases e6; cases Hr3
 cases H
 exact bT
 revert H; refine B5 fun y14 h15 H => ?_
 rcases y14 with y14 | pv7 <;> dsimp only at H
 refine Tc (aS _ _ h15).s ?_
 refine Z3 ?_
 exact Tm (min (y7.Aa.length : Int) 3) (ij H)
 refine Tp (aS _ _ h15).pan ?_
 revert H; refine B2 fun r7 H e7 => ?_
 cases e7; cases Hr3
 cases H
 exact bT
 revert H; refine B2 fun y15 h16 H => ?_
 obtain ⟨u2, x4⟩ := y15; dsimp only at H
 refine Yy (xB rfl (jB rfl rC) aDs aFD h16) ?_
 refine Z3 ?_
 revert H; refine cs (fun c6 H => ?_) fun c6 H => ?_
 revert H; refine I6 (fun c7 H => ?_) fun c7 H => ?_
 revert H; refine B5 fun y16 h17 H => ?_
 rcases y16 with y16 | pv8 <;> dsimp only at H
 refine Tc (aS _ _ h17).s ?_
 refine Z3 ?_
 exact Tm (0) (ij H)
 refine Tp (aS _ _ h17).pan ?_
 revert H; refine B2 fun r8 H e8 => ?_
 cases e8; cases Hr3
 cases H
 exact bT
 revert H; refine B5 fun y17 h18 H => ?_
 rcases y17 with y17 | pv9 <;> dsimp only at H
 refine Tc (aS _ _ h18).s ?_
 refine Z3 ?_
 exact Tm (0) (ij H)
 refine Tp (aS _ _ h18).pan ?_
 revert H; refine B2 fun r9 H e9 => ?_
 cases e9; cases Hr3
 cases H
 exact bT
 revert H; refine B2 fun y18 h19 H => ?_
 obtain ⟨u3, x5⟩ := y18; dsimp only at H
 refine Yy (xB rfl (jB rfl rC) aDQ aFJ h19) ?_
 refine Z3 ?_
 revert H; refine cs (fun c8 H => ?_) fun c8 H => ?_
 revert H; refine I1 (fun c9 H => ?_) fun c9 H => ?_
 revert H; refine is (fun c10 H => ?_) fun c10 H => ?_
 revert H; refine bs fun y19 h20 H => ?_
 apply bL (ods := [_, _, _, _, _, _, _, _, _, _, _, _, _, _, _, _, _, _, _, _, _, _, _, _, _]) 25 0 5 bM rfl rfl rfl
 refine ND ?_
 refine M8 ?_
 intros
 refine M8 ?_
 intros
 refine M6 ?_
 intros
 refine dQ (od := odC [4] false (aF y19) [dA]) (ps := [4]) (φ := aF y19) rfl (fun _ => rfl) ⟨_, _, rfl, rfl, c10⟩ rfl rfl (iV rfl rfl hh (sc rfl) (eD h20) rfl) (fun _ => ?_)
 refine M2 ?_
 intros
 revert H; refine B1 fun y20 h21 H => ?_
 rcases y20 with y20 | pv10 <;> dsimp only at H
 refine Tc (aS _ _ h21).s ?_
 refine Z3 ?_
 exact Tm (0) (ij H)
 refine Tp (aS _ _ h21).pan ?_
 revert H; refine B2 fun r10 H e10 => ?_
 cases e10; cases Hr3
 cases H
 exact bT
 exact fk
 kernel_rfl
 apply bL (ods := [_, _, _, _, _, _, _, _, _, _, _, _, _, _, _, _, _, _, _, _, _, _, _, _, _]) 25 0 5 bM rfl rfl rfl
 refine ND ?_
 refine M8 ?_
 intros
 refine M8 ?_
 intros
 refine M8 ?_
 intros
 refine M1 ?_
 intros
 revert H; refine B1 fun y21 h22 H => ?_
 rcases y21 with y21 | pv11 <;> dsimp only at H
 refine Tc (aS _ _ h22).s ?_
 refine Z3 ?_
 exact Tm (0) (ij H)
 refine Tp (aS _ _ h22).pan ?_
 revert H; refine B2 fun r11 H e11 => ?_
 cases e11; cases Hr3
 cases H
 exact bT
 exact fk
 kernel_rfl
 apply bL (ods := [_, _, _, _, _, _, _, _, _, _, _, _, _, _, _, _, _, _, _, _, _, _, _, _, _]) 25 0 5 bM rfl rfl rfl
 refine ND ?_
 refine M8 ?_
 intros
 refine M8 ?_
 intros
 refine M8 ?_
 intros
 refine M1 ?_
 intros
 revert H; refine B1 fun y22 h23 H => ?_
 rcases y22 with y22 | pv12 <;> dsimp only at H
 refine Tc (aS _ _ h23).s ?_
 refine Z3 ?_
 exact Tm (0) (ij H)
 refine Tp (aS _ _ h23).pan ?_
 revert H; refine B2 fun r12 H e12 => ?_
 cases e12; cases Hr3
 cases H
 exact bT
 exact fk
 kernel_rfl
 revert H; refine B2 fun y23 h24 H => ?_
 obtain ⟨u4, x6⟩ := y23; dsimp only at H
 refine Yy (xB rfl (jB rfl rC) aDJ aIa h24) ?_
 refine Z3 ?_
 revert H; refine cs (fun c11 H => ?_) fun c11 H => ?_
 revert H; refine B8 fun y24 h25 H => ?_
 rcases y24 with y24 | pv13 <;> dsimp only at H
 refine Tc (aS _ _ h25).s ?_
 refine Z3 ?_
 exact Tm (1) (ij H)
 refine Tp (aS _ _ h25).pan ?_
 revert H; refine B2 fun r13 H e13 => ?_
 cases e13; cases Hr3
 cases H
 exact bT
 revert H; refine B5 fun y25 h26 H => ?_
 rcases y25 with y25 | pv14 <;> dsimp only at H
 refine Tc (aS _ _ h26).s ?_
 refine Z3 ?_
 exact Tm (0) (ij H)
 refine Tp (aS _ _ h26).pan ?_
 revert H; refine B2 fun r14 H e14 => ?_
 cases e14; cases Hr3
 cases H
 exact bT
 clear H; intro x2 hi; subst o3; have H := Hr3; clear Hr3; try dsimp only at H
 try dsimp only
 revert H; refine B6 fun y26 h27 H => ?_
 rcases y26 with y26 | pv15 <;> dsimp only at H
 refine Tc (aS _ _ h27).s ?_
 revert H; refine B1 fun o4 H Hr4 => ?_
 refine aP (ι := Unit) (fun i => o4 = Sum.inl ()) (fun i => [(0, fEq (ptr p0)), (2, fI a2), (6, fEq (ptr b1))]) (fun i => [aD b1 118 [fI y7.Op, fI y7.N, fSl aO y7.Aa, fSl tI y7.AU], aD p0 204 [fSl aC a0.p.AD, fSl aK a0.p.AB, fSl aA a0.p.AC, fI a0.p.AE, fEq v1, fEq v2, fEq v3], aB v1 3 tI (a0.AV.set a1.toNat a2), aB v2 4 aN (a0.AX.set a1.toNat true), aB v3 4 aN a0.AZ]) ?_ ?_
 refine Z7 ?_
 refine Tl (ι := Nat × Int) (fun i => lM AA a2 y7 i.1 i.2 = _) (fun i => i.1) (fun i => [(0, fEq (ptr p0)), (2, fI a2), (6, fEq (ptr b1)), (154, fSl aO y7.Aa), (155, fI (y7.Aa.length : Int)), (156, fI i.2)]) (fun i => [aD b1 118 [fI y7.Op, fI y7.N, fSl aO y7.Aa, fSl tI y7.AU], aD p0 204 [fSl aC a0.p.AD, fSl aK a0.p.AB, fSl aA a0.p.AC, fI a0.p.AE, fEq v1, fEq v2, fEq v3], aB v1 3 tI (a0.AV.set a1.toNat a2), aB v2 4 aN (a0.AX.set a1.toNat true), aB v3 4 aN a0.AZ]) (AA, 0) H ?_
 clear H; rintro ⟨k1, x8⟩ H
 replace H : lM AA a2 y7 k1 x8 = _ := H
 try dsimp only
 obtain _ | k1 := k1
 rw [lM] at H; cases H
 rw [lM] at H
 refine Z3 ?_
 refine aJ ?_
 revert H; refine is (fun c12 H => ?_) fun c12 H => ?_
 refine Z3 ?_
 refine aJ ?_
 revert H; refine B2 fun y27 h28 H => ?_
 refine Z2 ?_
 refine Tn (dG rfl oC rfl) fun b2 => ?_
 refine dV (φs' := [fI y27.Op, fI y27.N, eF y27.AU]) a1W rfl rfl (has rfl) (has rfl) (aL (aG a1W) (aL (aG a1W) (aL (rD) cE))) (sz rfl) rfl rfl rfl ?_
 revert H; refine B4 fun y28 h29 H => ?_
 rcases y28 with y28 | pv16 <;> dsimp only at H
 refine Tc (aCo _ _ _ _ h29).s ?_
 revert H; refine B4 fun z1 h30 H => ?_
 refine Z3 ?_
 refine aH [1, 2, 3, 4, 5] (by decide) ?_
 exact Tm ((k1, z1)) ⟨H, ls⟩
 refine Tp (aCo _ _ _ _ h29).pan ?_
 revert H; refine B5 fun r15 H e15 => ?_
 cases e15; cases Hr4
 cases H
 exact bT
 refine Z6 ?_
 exact Tm (()) (ij H)
 clear H; intro i hi; subst o4; have H := Hr4; clear Hr4; try dsimp only at H
 try dsimp only
 revert H; refine bs fun o5 H Hr5 => ?_
 refine aP (ι := Int × List ByteArray × List Ae × List AN × Int × List Int × List Bool × List Bool × Value × Value × Value) (fun i => o5 = Sum.inl (i.1, i.2.1, i.2.2.1, i.2.2.2.1, i.2.2.2.2.1, i.2.2.2.2.2.1, i.2.2.2.2.2.2.1, i.2.2.2.2.2.2.2.1)) (fun i => [(0, fEq (ptr p0)), (2, fI i.1), (6, fEq (ptr b1))]) (fun i => [aD b1 118 [fI y7.Op, fI y7.N, fSl aO y7.Aa, fSl tI y7.AU], aD p0 204 [fSl aC i.2.1, fSl aK i.2.2.1, fSl aA i.2.2.2.1, fI i.2.2.2.2.1, fEq i.2.2.2.2.2.2.2.2.1, fEq i.2.2.2.2.2.2.2.2.2.1, fEq i.2.2.2.2.2.2.2.2.2.2], aB i.2.2.2.2.2.2.2.2.1 3 tI i.2.2.2.2.2.1, aB i.2.2.2.2.2.2.2.2.2.1 4 aN i.2.2.2.2.2.2.1, aB i.2.2.2.2.2.2.2.2.2.2 4 aN i.2.2.2.2.2.2.2.1]) ?_ ?_
 revert H; refine I5 (fun c13 H => ?_) fun c13 H => ?_
 refine Z1 ?_
 refine aJ ?_
 revert H; refine bs fun y29 h31 H => ?_
 apply bL (ods := [_, _, _, _, _, _, _, _]) 8 0 5 bM rfl rfl rfl
 refine ND ?_
 refine M7 ?_
 intros
 refine nX (od := odC [4] true (dN) [aB v3 4 aN (a0.AZ.set y7.N.toNat true)]) (p := 4) (z' := true) rfl (fun _ => rfl) (fun _ => rfl) a1W rfl rfl rfl rfl (has rfl) (has rfl) (aG a1W) (sz rfl) (eD h31) rfl rfl (fun _ => ?_)
 refine Z2 ?_
 refine aJ ?_
 revert H; refine bs fun y30 h32 H => ?_
 apply bL (ods := [_, _, _, _, _, _, _, _, _, _, _]) 11 1 6 bM rfl rfl rfl
 refine ND ?_
 refine M8 ?_
 intros
 refine M1 ?_
 intros
 refine Mn 5 (fun b3 => ptr b3) (fun b3 => aD b3 130 [fEq (.slice none 0 0), fEq (.slice none 0 0), fEq (.slice none 0 0)]) rfl (dG rfl rT rfl) (fun b3 u5 => ?_)
 refine oX (od := od1 9 [5] true (fun b3 _ => dN) (fun b3 _ => [aD b3 130 [fSl aW y30.AP, fSl bB y30.AT, fSl bF y30.AS]])) (p := 5) (φs' := [fSl aW y30.AP, fSl bB y30.AT, fSl bF y30.AS]) rfl (fun _ => rfl) (fun _ => rfl) a1W rfl rfl rfl (has rfl) (has rfl) (aL (aY) (aL (aY) (aL (aY) cE))) (sz rfl) rfl rfl rfl (fun _ => ?_)
 revert H; refine B4 fun y31 h33 H => ?_
 rcases y31 with y31 | pv17 <;> dsimp only at H
 refine Tc (aEZ _ _ _ h33).s ?_
 revert H; refine B4 fun y32 h34 H => ?_
 refine Tc (aFP _ _ h34) ?_
 revert H; refine bs fun z2 h35 H => ?_
 revert H; refine B3 fun o6 H Hr6 => ?_
 refine aP (ι := List ByteArray × List Ae × List AN × Int × List Int × List Bool × List Bool × Value × Value × Value) (fun i => o6 = Sum.inl (i.1, i.2.1, i.2.2.1, i.2.2.2.1, i.2.2.2.2.1, i.2.2.2.2.2.1, i.2.2.2.2.2.2.1)) (fun i => [(0, fEq (ptr p0)), (2, fI z2), (6, fEq (ptr b1)), (11, fEq (ptr b3))]) (fun i => [aD b1 118 [fI y7.Op, fI y7.N, fSl aO y7.Aa, fSl tI y7.AU], aD p0 204 [fSl aC i.1, fSl aK i.2.1, fSl aA i.2.2.1, fI i.2.2.2.1, fEq i.2.2.2.2.2.2.2.1, fEq i.2.2.2.2.2.2.2.2.1, fEq i.2.2.2.2.2.2.2.2.2], aD b3 130 [fSl aW y30.AP, fSl bB y30.AT, fSl bF y30.AS], aB i.2.2.2.2.2.2.2.1 3 tI i.2.2.2.2.1, aB i.2.2.2.2.2.2.2.2.1 4 aN i.2.2.2.2.2.1, aB i.2.2.2.2.2.2.2.2.2 4 aN i.2.2.2.2.2.2.1]) ?_ ?_
 refine Z7 ?_
 refine aH [0, 1, 5, 2, 3, 4] (by decide) ?_
 refine Tl (ι := Nat × Int × List ByteArray × List Ae × List AN × Int × List Int × List Bool × List Bool × Value × Value × Value) (fun i => kZ AA (eZ AA) y30 z2 i.1 i.2.1 i.2.2.1 i.2.2.2.1 i.2.2.2.2.1 i.2.2.2.2.2.1 i.2.2.2.2.2.2.1 i.2.2.2.2.2.2.2.1 i.2.2.2.2.2.2.2.2.1 = _) (fun i => i.1) (fun i => [(0, fEq (ptr p0)), (2, fI z2), (6, fEq (ptr b1)), (11, fEq (ptr b3)), (190, fSl bF y30.AS), (191, fI (y30.AS.length : Int)), (192, fI i.2.1)]) (fun i => [aD b1 118 [fI y7.Op, fI y7.N, fSl aO y7.Aa, fSl tI y7.AU], aD p0 204 [fSl aC i.2.2.1, fSl aK i.2.2.2.1, fSl aA i.2.2.2.2.1, fI i.2.2.2.2.2.1, fEq i.2.2.2.2.2.2.2.2.2.1, fEq i.2.2.2.2.2.2.2.2.2.2.1, fEq i.2.2.2.2.2.2.2.2.2.2.2], aD b3 130 [fSl aW y30.AP, fSl bB y30.AT, fSl bF y30.AS], aB i.2.2.2.2.2.2.2.2.2.1 3 tI i.2.2.2.2.2.2.1, aB i.2.2.2.2.2.2.2.2.2.2.1 4 aN i.2.2.2.2.2.2.2.1, aB i.2.2.2.2.2.2.2.2.2.2.2 4 aN i.2.2.2.2.2.2.2.2.1]) (AA, 0, a0.p.AD, a0.p.AB, a0.p.AC, a0.p.AE, a0.AV.set a1.toNat a2, a0.AX.set a1.toNat true, a0.AZ.set y7.N.toNat true, v1, v2, v3) H ?_
 clear H; rintro ⟨k2, x32, x33, x34, x35, x36, x37, x38, x39, v13, v14, v15⟩ H
 replace H : kZ AA (eZ AA) y30 z2 k2 x32 x33 x34 x35 x36 x37 x38 x39 = _ := H
 try dsimp only
 obtain _ | k2 := k2
 rw [kZ] at H; cases H
 rw [kZ] at H
 refine aE 3 rfl (fun hc_v13 => ?_)
 refine aE 4 rfl (fun hc_v14 => ?_)
 refine aE 5 rfl (fun hc_v15 => ?_)
 refine Z3 ?_
 refine aJ ?_
 revert H; refine is (fun c14 H => ?_) fun c14 H => ?_
 refine Z3 ?_
 refine aJ ?_
 revert H; refine B2 fun y33 h36 H => ?_
 refine Z2 ?_
 refine Tn (dG rfl sT rfl) fun b4 => ?_
 refine dV (φs' := [fI y33.At, fSl tI y33.Af, fI y33.Ab]) a1W rfl rfl (has rfl) (has rfl) (aL (aG a1W) (aL (aY) (aL (aG a1W) cE))) (sz rfl) rfl rfl rfl ?_
 revert H; refine B1 fun y34 h37 H => ?_
 revert H; refine bs fun z3 h38 H => ?_
 apply bL (ods := [_, _, _, _, _, _, _, _]) 8 0 7 bM rfl rfl rfl
 refine ND ?_
 refine M6 ?_
 intros
 refine Nc (aHa _ _ _ _ h37) fun _ => ?_
 refine M1 ?_
 intros
 refine Z1 ?_
 refine aQ ?_
 refine aQ ?_
 refine aQ ?_
 refine cR ?_
 refine wT (x := (⟨(⟨x33, x34, x35, x36⟩ : AM), x37, x38, x39⟩ : Am)) ?_
 revert H; refine bs fun y35 h39 H => ?_
 rcases y35 with y35 | pv18 <;> dsimp only at H
 refine Tc (ih_scope_looker_node _ _ _ _ _ h39).s ?_
 refine vK (fun v16 v17 v18 => ?_)
 refine aE 1 rfl (fun hc_v16 => ?_)
 refine aE 2 rfl (fun hc_v17 => ?_)
 refine aE 3 rfl (fun hc_v18 => ?_)
 revert H; refine B4 fun z4 h40 H => ?_
 refine Z3 ?_
 refine aH [5, 0, 6, 1, 2, 3] (by decide) ?_
 exact Tm ((k2, z4, y35.p.AD, y35.p.AB, y35.p.AC, y35.p.AE, y35.AV, y35.AX, y35.AZ, v16, v17, v18)) ⟨H, ls⟩
 refine Tp (ih_scope_looker_node _ _ _ _ _ h39).pan ?_
 revert H; refine B5 fun r16 H e16 => ?_
 cases e16; cases Hr6
 revert H; refine B1 fun r17 H e17 => ?_
 cases e17; cases Hr5
 cases H
 exact bT
 exact fk
 kernel_rfl
 refine Z6 ?_
 exact Tm ((x33, x34, x35, x36, x37, x38, x39, v13, v14, v15)) (ij H)
 clear H; intro i hi; obtain ⟨x17, x18, x19, x20, x21, x22, x23, v7, v8, v9⟩ := i; subst o6; have H := Hr6; clear Hr6; try dsimp only at H
 try dsimp only
 refine aE 3 rfl (fun hc_v7 => ?_)
 refine aE 4 rfl (fun hc_v8 => ?_)
 refine aE 5 rfl (fun hc_v9 => ?_)
 refine Z7 ?_
 refine Tl (ι := Nat × Int × List ByteArray × List Ae × List AN × Int × List Int × List Bool × List Bool × Value × Value × Value) (fun i => lF (eZ AA) y30 z2 i.1 i.2.1 i.2.2.1 i.2.2.2.1 i.2.2.2.2.1 i.2.2.2.2.2.1 i.2.2.2.2.2.2.1 i.2.2.2.2.2.2.2.1 i.2.2.2.2.2.2.2.2.1 = _) (fun i => i.1) (fun i => [(0, fEq (ptr p0)), (2, fI z2), (6, fEq (ptr b1)), (207, fSl bB y30.AT), (208, fI (y30.AT.length : Int)), (209, fI i.2.1)]) (fun i => [aD b1 118 [fI y7.Op, fI y7.N, fSl aO y7.Aa, fSl tI y7.AU], aD p0 204 [fSl aC i.2.2.1, fSl aK i.2.2.2.1, fSl aA i.2.2.2.2.1, fI i.2.2.2.2.2.1, fEq i.2.2.2.2.2.2.2.2.2.1, fEq i.2.2.2.2.2.2.2.2.2.2.1, fEq i.2.2.2.2.2.2.2.2.2.2.2], aD b3 130 [fSl aW y30.AP, fSl bB y30.AT, fSl bF y30.AS], aB i.2.2.2.2.2.2.2.2.2.1 3 tI i.2.2.2.2.2.2.1, aB i.2.2.2.2.2.2.2.2.2.2.1 4 aN i.2.2.2.2.2.2.2.1, aB i.2.2.2.2.2.2.2.2.2.2.2 4 aN i.2.2.2.2.2.2.2.2.1]) (AA, 0, x17, x18, x19, x20, x21, x22, x23, v7, v8, v9) H ?_
 clear H; rintro ⟨k3, x48, x49, x50, x51, x52, x53, x54, x55, v22, v23, v24⟩ H
 replace H : lF (eZ AA) y30 z2 k3 x48 x49 x50 x51 x52 x53 x54 x55 = _ := H
 try dsimp only
 obtain _ | k3 := k3
 rw [lF] at H; cases H
 rw [lF] at H
 refine aE 3 rfl (fun hc_v22 => ?_)
 refine aE 4 rfl (fun hc_v23 => ?_)
 refine aE 5 rfl (fun hc_v24 => ?_)
 refine Z3 ?_
 refine aJ ?_
 revert H; refine is (fun c15 H => ?_) fun c15 H => ?_
 refine Z3 ?_
 refine aJ ?_
 revert H; refine B2 fun y36 h41 H => ?_
 refine Z2 ?_
 refine Tn (dG rfl aBh rfl) fun b5 => ?_
 refine dV (φs' := [fI y36.In, fI y36.Ab]) a1W rfl rfl (has rfl) (has rfl) (aL (aG a1W) (aL (aG a1W) cE)) (sz rfl) rfl rfl rfl ?_
 refine Z6 ?_
 refine aQ ?_
 refine aQ ?_
 refine aQ ?_
 refine cR ?_
 refine wT (x := (⟨(⟨x49, x50, x51, x52⟩ : AM), x53, x54, x55⟩ : Am)) ?_
 revert H; refine bs fun y37 h42 H => ?_
 rcases y37 with y37 | pv19 <;> dsimp only at H
 refine Tc (ih_scope_looker_node _ _ _ _ _ h42).s ?_
 refine vK (fun v25 v26 v27 => ?_)
 refine aE 1 rfl (fun hc_v25 => ?_)
 refine aE 2 rfl (fun hc_v26 => ?_)
 refine aE 3 rfl (fun hc_v27 => ?_)
 revert H; refine B4 fun z5 h43 H => ?_
 refine Z3 ?_
 refine aH [5, 0, 6, 1, 2, 3] (by decide) ?_
 exact Tm ((k3, z5, y37.p.AD, y37.p.AB, y37.p.AC, y37.p.AE, y37.AV, y37.AX, y37.AZ, v25, v26, v27)) ⟨H, ls⟩
 refine Tp (ih_scope_looker_node _ _ _ _ _ h42).pan ?_
 revert H; refine B5 fun r18 H e18 => ?_
 cases e18; cases Hr5
 cases H
 exact bT
 refine Z6 ?_
 refine aH [0, 1, 3, 4, 5] (by decide) ?_
 exact Tm ((z2, x49, x50, x51, x52, x53, x54, x55, v22, v23, v24)) (ij H)
 refine Tp (aEZ _ _ _ h33).pan ?_
 revert H; refine B2 fun r19 H e19 => ?_
 cases e19; cases Hr5
 cases H
 exact bT
 exact fk
 kernel_rfl
 exact fk
 kernel_rfl
 refine Z3 ?_
 exact Tm ((a2, a0.p.AD, a0.p.AB, a0.p.AC, a0.p.AE, a0.AV.set a1.toNat a2, a0.AX.set a1.toNat true, a0.AZ, v1, v2, v3)) (ij H)
 clear H; intro i hi; obtain ⟨x9, x10, x11, x12, x13, x14, x15, x16, v4, v5, v6⟩ := i; subst o5; have H := Hr5; clear Hr5; try dsimp only at H
 try dsimp only
 refine aE 2 rfl (fun hc_v4 => ?_)
 refine aE 3 rfl (fun hc_v5 => ?_)
 refine aE 4 rfl (fun hc_v6 => ?_)
 refine Z7 ?_
 refine Tl (ι := Nat × Int × List ByteArray × List Ae × List AN × Int × List Int × List Bool × List Bool × Value × Value × Value) (fun i => lZ (eZ AA) y7 x9 i.1 i.2.1 i.2.2.1 i.2.2.2.1 i.2.2.2.2.1 i.2.2.2.2.2.1 i.2.2.2.2.2.2.1 i.2.2.2.2.2.2.2.1 i.2.2.2.2.2.2.2.2.1 = _) (fun i => i.1) (fun i => [(0, fEq (ptr p0)), (2, fI x9), (220, fSl tI y7.AU), (221, fI (y7.AU.length : Int)), (222, fI i.2.1)]) (fun i => [aD b1 118 [fI y7.Op, fI y7.N, fSl aO y7.Aa, fSl tI y7.AU], aD p0 204 [fSl aC i.2.2.1, fSl aK i.2.2.2.1, fSl aA i.2.2.2.2.1, fI i.2.2.2.2.2.1, fEq i.2.2.2.2.2.2.2.2.2.1, fEq i.2.2.2.2.2.2.2.2.2.2.1, fEq i.2.2.2.2.2.2.2.2.2.2.2], aB i.2.2.2.2.2.2.2.2.2.1 3 tI i.2.2.2.2.2.2.1, aB i.2.2.2.2.2.2.2.2.2.2.1 4 aN i.2.2.2.2.2.2.2.1, aB i.2.2.2.2.2.2.2.2.2.2.2 4 aN i.2.2.2.2.2.2.2.2.1]) (AA, 0, x10, x11, x12, x13, x14, x15, x16, v4, v5, v6) H ?_
 clear H; rintro ⟨k4, x64, x65, x66, x67, x68, x69, x70, x71, v31, v32, v33⟩ H
 replace H : lZ (eZ AA) y7 x9 k4 x64 x65 x66 x67 x68 x69 x70 x71 = _ := H
 try dsimp only
 obtain _ | k4 := k4
 rw [lZ] at H; cases H
 rw [lZ] at H
 refine aE 2 rfl (fun hc_v31 => ?_)
 refine aE 3 rfl (fun hc_v32 => ?_)
 refine aE 4 rfl (fun hc_v33 => ?_)
 refine Z3 ?_
 refine aJ ?_
 revert H; refine is (fun c16 H => ?_) fun c16 H => ?_
 refine Z3 ?_
 refine aJ ?_
 revert H; refine B2 fun y38 h44 H => ?_
 refine Z8 ?_
 refine bH ?_
 refine bH ?_
 refine bH ?_
 refine bH ?_
 refine wT (x := (⟨(⟨x65, x66, x67, x68⟩ : AM), x69, x70, x71⟩ : Am)) ?_
 revert H; refine bs fun y39 h45 H => ?_
 rcases y39 with y39 | pv20 <;> dsimp only at H
 refine Tc (ih_scope_looker_node _ _ _ _ _ h45).s ?_
 refine vK (fun v34 v35 v36 => ?_)
 refine aE 1 rfl (fun hc_v34 => ?_)
 refine aE 2 rfl (fun hc_v35 => ?_)
 refine aE 3 rfl (fun hc_v36 => ?_)
 revert H; refine B4 fun z6 h46 H => ?_
 refine Z3 ?_
 refine aH [4, 0, 1, 2, 3] (by decide) ?_
 exact Tm ((k4, z6, y39.p.AD, y39.p.AB, y39.p.AC, y39.p.AE, y39.AV, y39.AX, y39.AZ, v34, v35, v36)) ⟨H, ls⟩
 refine Tp (ih_scope_looker_node _ _ _ _ _ h45).pan ?_
 refine Z4 ?_
 cases H
 exact bT
 refine Z5 ?_
 refine bH ?_
 refine bH ?_
 refine bH ?_
 refine bH ?_
 refine wT (x := (⟨(⟨x65, x66, x67, x68⟩ : AM), x69, x70, x71⟩ : Am)) ?_
 cases H
 refine pY ?_
 refine aH [0] (by decide) ?_
 exact dI (.inr rfl) rfl rfl
 refine Tp (aS _ _ h27).pan ?_
 refine Z1 ?_
 cases H
 exact bT
 exact fk
 kernel_rfl
open Go.SX Go.SW Go.Dt
def oB (a0 : List Bool) (a1 : Bool) : Nat -> Int -> Option ((Unit) ⊕ (Int))
| 0, _ => none
| k + 1, x2 =>
 if x2 < (a0.length : Int) then
  (idx a0 x2).bind fun y1 =>
  bif a1 == y1 then
   (some x2).bind fun r => some (Sum.inr r)
  else
   (chk (x2 + 1)).bind fun z1 =>
   oB a0 a1 k z1
 else
  some (Sum.inl ())
def aAh (AA : Nat) (a0 : List Bool) (a1 : Bool) : Option (Int) :=
 (oB a0 a1 AA 0).bind fun o => match o with
 | Sum.inr r => some r
 | Sum.inl _ =>
 some (-1)
theorem aE9 (AA : Nat)  (a0 : List Bool) (a1 : Bool) (r : Int) (H : aAh AA a0 a1 = some r) : FnS Tryz.prog 305 [fSl aN a0, aF a1] [] (fI r) (fun _ => []) := by
 unfold aAh at H
 refine bS Tryz.func305 rfl Tryz.ntmps305 rfl (fun β => ?_)
 revert H; refine B3 fun o1 H Hr1 => ?_
 refine aP (ι := Unit) (fun i => o1 = Sum.inl ()) (fun i => []) (fun i => []) ?_ ?_
 refine Z6 ?_
 refine Tl (ι := Nat × Int) (fun i => oB a0 a1 i.1 i.2 = _) (fun i => i.1) (fun i => [(0, fSl aN a0), (1, aF a1), (7, fI (a0.length : Int)), (8, fI i.2)]) (fun i => []) (AA, 0) H ?_
 clear H; rintro ⟨k1, x2⟩ H
 replace H : oB a0 a1 k1 x2 = _ := H
 try dsimp only
 obtain _ | k1 := k1
 rw [oB] at H; cases H
 rw [oB] at H
 refine Z3 ?_
 refine aJ ?_
 revert H; refine is (fun c1 H => ?_) fun c1 H => ?_
 refine Z3 ?_
 refine aJ ?_
 revert H; refine B9 fun y1 h1 H => ?_
 refine Z2 ?_
 refine Yy (o_eqlB rfl hh hh aE6) ?_
 refine Z1 ?_
 revert H; refine cs (fun c2 H => ?_) fun c2 H => ?_
 revert H; refine B11 fun r1 H e1 => ?_
 cases e1; cases Hr1
 cases H
 exact To
 revert H; refine B5 fun z1 h2 H => ?_
 refine Z3 ?_
 exact Tm ((k1, z1)) ⟨H, ls⟩
 refine Z6 ?_
 exact Tm (()) (ij H)
 clear H; intro i hi; subst o1; have H := Hr1; clear Hr1; try dsimp only at H
 try dsimp only
 refine Z4 ?_
 cases H
 exact To
def tY (AA : Nat) (a0 : List Bool) (a1 : Bool) : Option (Bool) :=
 (aAh AA a0 a1).bind fun y1 =>
 some (decide (0 <= y1))
theorem aEa (AA : Nat)  (a0 : List Bool) (a1 : Bool) (r : Bool) (H : tY AA a0 a1 = some r) : FnS Tryz.prog 277 [fSl aN a0, aF a1] [] (aF r) (fun _ => []) := by
 unfold tY at H
 refine bS Tryz.func277 rfl Tryz.ntmps277 rfl (fun β => ?_)
 revert H; refine B6 fun y1 h1 H => ?_
 refine Tc (aE9 _ _ _ _ h1) ?_
 refine Z4 ?_
 cases H
 exact To
def mB (AA : Nat) (a0 : AM) : Nat -> Int -> Option ((Unit) ⊕ (Am ⊕ Value))
| 0, _ => none
| k + 1, x2 =>
 if x2 < (a0.AD.length : Int) then
  ((idx a0.AD x2).bind fun y4 =>
  (qF AA y4).bind fun y5 =>
  bif y5 then
   if x2 = 0 then
    (bN true).bind fun y6 =>
    match y6 with
    | Sum.inr pv4 => ((some (Sum.inr pv4)).bind fun r => some (Sum.inr r)).bind fun r => some (Sum.inr r)
    | Sum.inl y6 =>
    some (Sum.inl ())
   else
    (chk (x2 - 1)).bind fun z1 =>
    (idx a0.AD z1).bind fun y7 =>
    (bN (slt y7 y4)).bind fun y8 =>
    match y8 with
    | Sum.inr pv5 => ((some (Sum.inr pv5)).bind fun r => some (Sum.inr r)).bind fun r => some (Sum.inr r)
    | Sum.inl y8 =>
    some (Sum.inl ())
  else
   (bN false).bind fun y9 =>
   match y9 with
   | Sum.inr pv6 => ((some (Sum.inr pv6)).bind fun r => some (Sum.inr r)).bind fun r => some (Sum.inr r)
   | Sum.inl y9 =>
   some (Sum.inl ())).bind fun o => match o with
  | Sum.inr r => some r
  | Sum.inl _ =>
  (chk (x2 + 1)).bind fun z2 =>
  mB AA a0 k z2
 else
  some (Sum.inl ())
def wQ (AA : Nat) (a0 : AM) : Option (Am ⊕ Value) :=
 (if (a0.AD.length : Int) <= 12 then
  if (a0.AB.length : Int) <= 60 then
   (bN (decide ((a0.AC.length : Int) <= 12))).bind fun y1 =>
   match y1 with
   | Sum.inr pv1 => (some (Sum.inr pv1)).bind fun r => some (Sum.inr r)
   | Sum.inl y1 =>
   some (Sum.inl ())
  else
   (bN false).bind fun y2 =>
   match y2 with
   | Sum.inr pv2 => (some (Sum.inr pv2)).bind fun r => some (Sum.inr r)
   | Sum.inl y2 =>
   some (Sum.inl ())
 else
  (bN false).bind fun y3 =>
  match y3 with
  | Sum.inr pv3 => (some (Sum.inr pv3)).bind fun r => some (Sum.inr r)
  | Sum.inl y3 =>
  some (Sum.inl ())).bind fun o => match o with
 | Sum.inr r => some r
 | Sum.inl _ =>
 (mB AA a0 AA 0).bind fun o => match o with
 | Sum.inr r => some r
 | Sum.inl _ =>
 (mk 0 (a0.AB.length : Int)).bind fun y10 =>
 (mk false (a0.AB.length : Int)).bind fun y11 =>
 (mk false (a0.AC.length : Int)).bind fun y12 =>
 (eZ AA (⟨(⟨a0.AD, a0.AB, a0.AC, a0.AE⟩ : AM), y10, y11, y12⟩ : Am) a0.AE (a0.AD.length : Int)).bind fun y13 =>
 match y13 with
 | Sum.inr pv7 => some (Sum.inr pv7)
 | Sum.inl y13 =>
 ((tY AA y13.AX false).bind fun y14 =>
 bif !y14 then
  (tY AA y13.AZ false).bind fun y15 =>
  (bN (!y15)).bind fun y16 =>
  match y16 with
  | Sum.inr pv8 => (some (Sum.inr pv8)).bind fun r => some (Sum.inr r)
  | Sum.inl y16 =>
  some (Sum.inl y13.AZ)
 else
  (bN false).bind fun y17 =>
  match y17 with
  | Sum.inr pv9 => (some (Sum.inr pv9)).bind fun r => some (Sum.inr r)
  | Sum.inl y17 =>
  some (Sum.inl y13.AZ)).bind fun o => match o with
 | Sum.inr r => some r
 | Sum.inl x3 =>
 some (Sum.inl (⟨(⟨y13.p.AD, y13.p.AB, y13.p.AC, y13.p.AE⟩ : AM), y13.AV, y13.AX, x3⟩ : Am))
theorem aDL (AA : Nat)  (a0 : AM) (r : Am ⊕ Value) (H : wQ AA a0 = some r) : FnE Tryz.prog 228 [fSt iS a0] [] r (fun r => bO aAb r) (fun r => []) := by
 unfold wQ at H
 refine qS Tryz.func228 rfl Tryz.ntmps228 rfl (fun β => ?_)
 refine Z1 ?_
 refine Tn (cV rfl hh cJ) fun b1 => ?_
 revert H; refine B2 fun o1 H Hr1 => ?_
 refine aP (ι := Unit) (fun i => o1 = Sum.inl ()) (fun i => [(1, fEq (ptr b1))]) (fun i => [aD b1 38 [fSl aC a0.AD, fSl aK a0.AB, fSl aA a0.AC, fI a0.AE]]) ?_ ?_
 revert H; refine I6 (fun c1 H => ?_) fun c1 H => ?_
 revert H; refine I6 (fun c2 H => ?_) fun c2 H => ?_
 revert H; refine B5 fun y1 h1 H => ?_
 rcases y1 with y1 | pv1 <;> dsimp only at H
 refine Tc (aS _ _ h1).s ?_
 refine Z1 ?_
 exact Tm (()) (ij H)
 refine Tp (aS _ _ h1).pan ?_
 revert H; refine B1 fun r1 H e1 => ?_
 cases e1; cases Hr1
 cases H
 exact bT
 revert H; refine B5 fun y2 h2 H => ?_
 rcases y2 with y2 | pv2 <;> dsimp only at H
 refine Tc (aS _ _ h2).s ?_
 refine Z1 ?_
 exact Tm (()) (ij H)
 refine Tp (aS _ _ h2).pan ?_
 revert H; refine B1 fun r2 H e2 => ?_
 cases e2; cases Hr1
 cases H
 exact bT
 revert H; refine B11 fun y3 h3 H => ?_
 rcases y3 with y3 | pv3 <;> dsimp only at H
 refine Tc (aS _ _ h3).s ?_
 refine Z1 ?_
 exact Tm (()) (ij H)
 refine Tp (aS _ _ h3).pan ?_
 revert H; refine B1 fun r3 H e3 => ?_
 cases e3; cases Hr1
 cases H
 exact bT
 clear H; intro i hi; subst o1; have H := Hr1; clear Hr1; try dsimp only at H
 try dsimp only
 revert H; refine bs fun o2 H Hr2 => ?_
 refine aP (ι := Unit) (fun i => o2 = Sum.inl ()) (fun i => [(1, fEq (ptr b1))]) (fun i => [aD b1 38 [fSl aC a0.AD, fSl aK a0.AB, fSl aA a0.AC, fI a0.AE]]) ?_ ?_
 refine Z7 ?_
 refine Tl (ι := Nat × Int) (fun i => mB AA a0 i.1 i.2 = _) (fun i => i.1) (fun i => [(1, fEq (ptr b1)), (24, fSl aC a0.AD), (25, fI (a0.AD.length : Int)), (26, fI i.2)]) (fun i => [aD b1 38 [fSl aC a0.AD, fSl aK a0.AB, fSl aA a0.AC, fI a0.AE]]) (AA, 0) H ?_
 clear H; rintro ⟨k1, x2⟩ H
 replace H : mB AA a0 k1 x2 = _ := H
 try dsimp only
 obtain _ | k1 := k1
 rw [mB] at H; cases H
 rw [mB] at H
 refine Z3 ?_
 refine aJ ?_
 revert H; refine is (fun c3 H => ?_) fun c3 H => ?_
 revert H; refine B3 fun o3 H Hr3 => ?_
 refine aP (ι := Unit) (fun i => o3 = Sum.inl ()) (fun i => [(1, fEq (ptr b1)), (24, fSl aC a0.AD), (25, fI (a0.AD.length : Int)), (26, fI x2)]) (fun i => [aD b1 38 [fSl aC a0.AD, fSl aK a0.AB, fSl aA a0.AC, fI a0.AE]]) ?_ ?_
 revert H; refine B3 fun y4 h4 H => ?_
 revert H; refine B7 fun y5 h5 H => ?_
 refine Tc (aFz _ _ _ h5) ?_
 refine Z1 ?_
 revert H; refine cs (fun c4 H => ?_) fun c4 H => ?_
 revert H; refine I3 (fun c5 H => ?_) fun c5 H => ?_
 revert H; refine B10 fun y6 h6 H => ?_
 rcases y6 with y6 | pv4 <;> dsimp only at H
 refine Tc (aS _ _ h6).s ?_
 refine Z3 ?_
 exact Tm (()) (ij H)
 refine Tp (aS _ _ h6).pan ?_
 revert H; refine B2 fun r4 H e4 => ?_
 cases e4; cases Hr3
 revert H; refine B3 fun r5 H e5 => ?_
 cases e5; cases Hr2
 cases H
 exact bT
 revert H; refine B3 fun z1 h7 H => ?_
 revert H; refine B1 fun y7 h8 H => ?_
 refine Z3 ?_
 refine Yg c5 (o_lssS rfl hh hh) ?_
 revert H; refine B2 fun y8 h9 H => ?_
 rcases y8 with y8 | pv5 <;> dsimp only at H
 refine Tc (aS _ _ h9).s ?_
 refine Z3 ?_
 exact Tm (()) (ij H)
 refine Tp (aS _ _ h9).pan ?_
 revert H; refine B2 fun r6 H e6 => ?_
 cases e6; cases Hr3
 revert H; refine B3 fun r7 H e7 => ?_
 cases e7; cases Hr2
 cases H
 exact bT
 refine Z3 ?_
 refine cQ (⟨_, _, _, _, rfl, rfl, rfl, nu⟩) rfl rfl ?_
 refine cQ (⟨_, _, _, _, rfl, rfl, rfl, nu⟩) rfl rfl ?_
 refine cQ (⟨_, _, _, _, rfl, rfl, rfl, nu⟩) rfl rfl ?_
 refine cQ (⟨_, _, _, _, rfl, rfl, rfl, nu⟩) rfl rfl ?_
 refine cQ (⟨_, _, _, _, rfl, rfl, rfl, nu⟩) rfl rfl ?_
 refine cQ (⟨_, _, _, _, rfl, rfl, rfl, nu⟩) rfl rfl ?_
 refine cQ (⟨_, _, _, _, rfl, rfl, rfl, nu⟩) rfl rfl ?_
 refine cQ (⟨_, _, _, _, rfl, rfl, rfl, nu⟩) rfl rfl ?_
 revert H; refine B2 fun y9 h10 H => ?_
 rcases y9 with y9 | pv6 <;> dsimp only at H
 refine Tc (aS _ _ h10).s ?_
 refine Z3 ?_
 exact Tm (()) (ij H)
 refine Tp (aS _ _ h10).pan ?_
 revert H; refine B2 fun r8 H e8 => ?_
 cases e8; cases Hr3
 revert H; refine B3 fun r9 H e9 => ?_
 cases e9; cases Hr2
 cases H
 exact bT
 clear H; intro i hi; subst o3; have H := Hr3; clear Hr3; try dsimp only at H
 try dsimp only
 revert H; refine B1 fun z2 h11 H => ?_
 refine Z3 ?_
 exact Tm ((k1, z2)) ⟨H, ls⟩
 refine Z6 ?_
 exact Tm (()) (ij H)
 clear H; intro i hi; subst o2; have H := Hr2; clear Hr2; try dsimp only at H
 try dsimp only
 refine aJ ?_
 revert H; refine bs fun y10 h12 H => ?_
 revert H; refine bs fun y11 h13 H => ?_
 revert H; refine bs fun y12 h14 H => ?_
 apply bL (ods := [_, _, _, _, _, _, _, _, _, _, _, _, _, _, _, _]) 16 4 5 bM rfl rfl rfl
 refine ND ?_
 refine M4 ?_
 intros
 refine Mn 1 (fun b2 => .slice (some ⟨b2, 0, none⟩) y10.length y10.length) (fun b2 => aB (.slice (some ⟨b2, 0, none⟩) y10.length y10.length) 3 tI y10) rfl (lL (t := tI) (z := 0) rfl (has rfl) (et rfl) rfl rZ rfl h12) (fun b2 u1 => ?_)
 refine M3 ?_
 intros
 refine Mn 2 (fun b3 => .slice (some ⟨b3, 0, none⟩) y11.length y11.length) (fun b3 => aB (.slice (some ⟨b3, 0, none⟩) y11.length y11.length) 4 aN y11) rfl (lL (t := aN) (z := false) rfl (has rfl) (et rfl) rfl wD rfl h13) (fun b3 u2 => ?_)
 refine M3 ?_
 intros
 refine Mn 3 (fun b4 => .slice (some ⟨b4, 0, none⟩) y12.length y12.length) (fun b4 => aB (.slice (some ⟨b4, 0, none⟩) y12.length y12.length) 4 aN y12) rfl (lL (t := aN) (z := false) rfl (has rfl) (et rfl) rfl wD rfl h14) (fun b4 u3 => ?_)
 refine N_y (od := od3 4 8 12 [] false (fun b2 _ b3 _ b4 _ => eG [fSl aC a0.AD, fSl aK a0.AB, fSl aA a0.AC, fI a0.AE, fEq (.slice (some ⟨b2, 0, none⟩) y10.length y10.length), fEq (.slice (some ⟨b3, 0, none⟩) y11.length y11.length), fEq (.slice (some ⟨b4, 0, none⟩) y12.length y12.length)]) (fun b2 _ b3 _ b4 _ => [])) (φ := eG [fSl aC a0.AD, fSl aK a0.AB, fSl aA a0.AC, fI a0.AE, fEq (.slice (some ⟨b2, 0, none⟩) y10.length y10.length), fEq (.slice (some ⟨b3, 0, none⟩) y11.length y11.length), fEq (.slice (some ⟨b4, 0, none⟩) y12.length y12.length)]) rfl (fun _ => rfl) a1W rfl (gL (ψs := [fSl aC a0.AD, fSl aK a0.AB, fSl aA a0.AC, fI a0.AE, fEq (.slice (some ⟨b2, 0, none⟩) y10.length y10.length), fEq (.slice (some ⟨b3, 0, none⟩) y11.length y11.length), fEq (.slice (some ⟨b4, 0, none⟩) y12.length y12.length)]) rfl aHJ rfl (bP.cons (has rfl) cJ (bP.cons (has rfl) (cY (aG a1W)) (bP.cons (has rfl) (cY (aG a1W)) (bP.cons (has rfl) (cY (aG a1W)) bP.nil)))) rfl) (fun _ => ?_)
 refine N_new (od := odN3 4 8 12 [4] true (fun b2 _ b3 _ b4 _ b5 _ => fEq (ptr b5)) (fun b2 _ b3 _ b4 _ b5 _ => [aD b5 204 [fSl aC a0.AD, fSl aK a0.AB, fSl aA a0.AC, fI a0.AE, fEq (.slice (some ⟨b2, 0, none⟩) y10.length y10.length), fEq (.slice (some ⟨b3, 0, none⟩) y11.length y11.length), fEq (.slice (some ⟨b4, 0, none⟩) y12.length y12.length)]])) (p := 4) (f := fun b5 => ptr b5) (τ := fun b5 => aD b5 204 [fSl aC a0.AD, fSl aK a0.AB, fSl aA a0.AC, fI a0.AE, fEq (.slice (some ⟨b2, 0, none⟩) y10.length y10.length), fEq (.slice (some ⟨b3, 0, none⟩) y11.length y11.length), fEq (.slice (some ⟨b4, 0, none⟩) y12.length y12.length)]) rfl (fun _ => rfl) (fun _ => rfl) a1W rfl rfl (cV rfl (has rfl) cJ) (fun b5 u4 => ?_)
 refine D1 14 b5 _ (fun b5 _ => fEq (ptr b5)) rfl (zT rfl hh) (fun _ => ?_)
 refine Z1 ?_
 generalize (Value.slice (some ⟨b2, 0, none⟩) _ _) = v1
 refine aE 1 rfl (fun hc_v1 => ?_)
 generalize (Value.slice (some ⟨b3, 0, none⟩) _ _) = v2
 refine aE 2 rfl (fun hc_v2 => ?_)
 generalize (Value.slice (some ⟨b4, 0, none⟩) _ _) = v3
 refine aE 3 rfl (fun hc_v3 => ?_)
 refine Z8 ?_
 refine dM ?_
 refine dM ?_
 refine dM ?_
 refine bH ?_
 refine wT (x := (⟨(⟨a0.AD, a0.AB, a0.AC, a0.AE⟩ : AM), y10, y11, y12⟩ : Am)) ?_
 revert H; refine bs fun y13 h15 H => ?_
 rcases y13 with y13 | pv7 <;> dsimp only at H
 refine Tc (aEg _ _ _ _ _ _ h15).s ?_
 refine vK (fun v4 v5 v6 => ?_)
 refine aE 1 rfl (fun hc_v4 => ?_)
 refine aE 2 rfl (fun hc_v5 => ?_)
 refine aE 3 rfl (fun hc_v6 => ?_)
 revert H; refine B1 fun o4 H Hr4 => ?_
 refine aP (ι := List Bool) (fun i => o4 = Sum.inl i) (fun i => [(5, fEq (ptr b5))]) (fun i => [aD b5 204 [fSl aC y13.p.AD, fSl aK y13.p.AB, fSl aA y13.p.AC, fI y13.p.AE, fEq v4, fSl aN y13.AX, fSl aN i], aD b1 38 [fSl aC a0.AD, fSl aK a0.AB, fSl aA a0.AC, fI a0.AE], aB v4 3 tI y13.AV]) ?_ ?_
 refine Z5 ?_
 refine eH ?_
 refine bY (φ := fSl aN y13.AX) (v := v5) [74] cU fz ?_
 refine dJ (φs' := [fSl aC y13.p.AD, fSl aK y13.p.AB, fSl aA y13.p.AC, fI y13.p.AE, fEq v4, fSl aN y13.AX, fEq v6]) (i := 5) rfl rfl ?_
 refine bX ?_
 revert H; refine bs fun y14 h16 H => ?_
 refine Tc (aEa _ _ _ _ h16) ?_
 refine Z2 ?_
 revert H; refine cs (fun c6 H => ?_) fun c6 H => ?_
 refine Z4 ?_
 refine eH ?_
 refine bY (φ := fSl aN y13.AZ) (v := v6) [81] cU fz ?_
 refine dJ (φs' := [fSl aC y13.p.AD, fSl aK y13.p.AB, fSl aA y13.p.AC, fI y13.p.AE, fEq v4, fSl aN y13.AX, fSl aN y13.AZ]) (i := 6) rfl rfl ?_
 refine bX ?_
 revert H; refine bs fun y15 h17 H => ?_
 refine Tc (aEa _ _ _ _ h17) ?_
 revert H; refine B2 fun y16 h18 H => ?_
 rcases y16 with y16 | pv8 <;> dsimp only at H
 refine Tc (aS _ _ h18).s ?_
 refine Z1 ?_
 refine aH [0, 2, 1] (by decide) ?_
 exact Tm (y13.AZ) (ij H)
 refine Tp (aS _ _ h18).pan ?_
 revert H; refine B1 fun r10 H e10 => ?_
 cases e10; cases Hr4
 cases H
 exact bT
 revert H; refine B7 fun y17 h19 H => ?_
 rcases y17 with y17 | pv9 <;> dsimp only at H
 refine Tc (aS _ _ h19).s ?_
 refine Z1 ?_
 refine eH ?_
 refine bY (φ := fSl aN y13.AZ) (v := v6) [] cU (fun _ h => nomatch h) ?_
 refine dJ (φs' := [fSl aC y13.p.AD, fSl aK y13.p.AB, fSl aA y13.p.AC, fI y13.p.AE, fEq v4, fSl aN y13.AX, fSl aN y13.AZ]) (i := 6) rfl rfl ?_
 refine bX ?_
 refine aH [0, 2, 1] (by decide) ?_
 exact Tm (y13.AZ) (ij H)
 refine Tp (aS _ _ h19).pan ?_
 revert H; refine B1 fun r11 H e11 => ?_
 cases e11; cases Hr4
 cases H
 exact bT
 clear H; intro x3 hi; subst o4; have H := Hr4; clear Hr4; try dsimp only at H
 try dsimp only
 refine Z5 ?_
 refine eH ?_
 refine bY (φ := fSl tI y13.AV) (v := v4) [] cU (fun _ h => nomatch h) ?_
 refine dJ (φs' := [fSl aC y13.p.AD, fSl aK y13.p.AB, fSl aA y13.p.AC, fI y13.p.AE, fSl tI y13.AV, fSl aN y13.AX, fSl aN x3]) (i := 4) rfl rfl ?_
 refine bX ?_
 refine bY (φ := bO aAb (⟨(⟨y13.p.AD, y13.p.AB, y13.p.AC, y13.p.AE⟩ : AM), y13.AV, y13.AX, x3⟩ : Am)) (v := ptr b5) [5, 86, 2] (gS aI.rfl) fz ?_
 refine bX ?_
 cases H
 refine pY ?_
 refine aH [] (by decide) ?_
 exact To
 refine Tp (aEg _ _ _ _ _ _ h15).pan ?_
 refine Z1 ?_
 cases H
 exact bT
 exact fk
 kernel_rfl
def aAk (AA : Nat) (a0 : AM) (a1 : Am -> Option Bool) : Option (Bool × Int) :=
 (wQ AA (⟨a0.AD, a0.AB, a0.AC, a0.AE⟩ : AM)).bind fun y1 =>
 match y1 with
 | Sum.inr pv1 => (unI 334 pv1).bind fun e1 => some (false, e1)
 | Sum.inl y1 =>
 (a1 y1).bind fun y2 =>
 some (y2, 0)
theorem aHw (AA : Nat)  (a0 : AM) (a1 : Am -> Option Bool) (r : Bool × Int) (H : aAk AA a0 a1 = some r) : FnS Tryz.prog 186 [fSt iS a0, fFn Tryz.prog (fun (x : Am) => [bO aAb x]) (fun (r : Bool) => aF r) a1] [] (eM [aF r.1, fI r.2]) (fun _ => []) := by
 unfold aAk at H
 refine FnS_ofM Tryz.func186 rfl Tryz.ntmps186 rfl (fun β => ?_)
 refine Z1 ?_
 refine Tn (cV rfl hh cJ) fun b1 => ?_
 refine Z1 ?_
 refine Tn (dG rfl ty_ze_29 rfl) fun b2 => ?_
 refine Z2 ?_
 refine T_defer a1W rfl rfl (iK.cons (has rfl) iK.nil) ?_
 revert H; refine B4 fun y1 h1 H => ?_
 rcases y1 with y1 | pv1 <;> dsimp only at H
 refine Tc (aDL _ _ _ h1).s ?_
 revert H; refine bs fun y2 h2 H => ?_
 refine T_callF y1 a1W rfl rfl rfl (has rfl) (aM.cons (has rfl) aM.nil) h2 ?_
 refine Z1 ?_
 refine bK (φs' := [fI 0]) a1W rfl rfl (has rfl) (has rfl) (aG a1W) (sz rfl) rfl rfl ?_
 refine Z2 ?_
 cases H
 refine aH [0] (by decide) ?_
 exact aHS (T_outD (u := .returning) (by simp) rfl (bU rfl) rfl (sc rfl) (cb rfl) (aHK b2 0) rfl rfl)
 refine Tp (aDL _ _ _ h1).pan ?_
 refine Z1 ?_
 have H0 := H; clear H; obtain ⟨e1, h3, H⟩ := bind_some H0; clear H0; have hv_e1 := unI_some h3; subst hv_e1
 cases H
 refine aH [0] (by decide) ?_
 exact aHo (T_outD (u := .panicking [{ v := .iface 334 (.agg #[.int .i64 e1]), recovered := false }]) (by simp) rfl (bU rfl) rfl (sc rfl) (cb rfl) (aFG b2 0 e1) rfl rfl)
def xX (a0 : Am) : Option (Bool) :=
 some true
theorem aHT  (a0 : Am) (r : Bool) (H : xX a0 = some r) : FnS Tryz.prog 187 [bO aAb a0] [] (aF r) (fun _ => []) := by
 unfold xX at H
 refine bS Tryz.func187 rfl Tryz.ntmps187 rfl (fun β => ?_)
 refine Z7 ?_
 cases H
 exact To
def sB (AA : Nat) (a0 : AM) : Option (Int) :=
 (aAk AA (⟨a0.AD, a0.AB, a0.AC, a0.AE⟩ : AM) (fun x => xX x)).bind fun y1 =>
 some y1.2
theorem aFi (AA : Nat)  (a0 : AM) (r : Int) (H : sB AA a0 = some r) : FnS Tryz.prog 115 [fSt iS a0] [] (fI r) (fun _ => []) := by
 unfold sB at H
 refine bS Tryz.func115 rfl Tryz.ntmps115 rfl (fun β => ?_)
 refine Z1 ?_
 refine Tn (cV rfl hh cJ) fun b1 => ?_
 revert H; refine B4 fun y1 h1 H => ?_
 refine iN a1W rfl rfl rfl hh (aM.cons hh (aM.cons (jB rfl (ent_fn0 (cb rfl) (fun x r hx => aHT x r hx))) aM.nil)) rfl (cb rfl) (aHw AA (⟨a0.AD, a0.AB, a0.AC, a0.AE⟩ : AM) (fun x => xX x) y1 h1) rfl ?_
 refine Z11 ?_
 cases H
 refine aH [] (by decide) ?_
 exact To
def lA (a0 : AF) : Nat -> Int -> Option ((Unit) ⊕ (Option Ag))
| 0, _ => none
| k + 1, x2 =>
 if x2 < (a0.AC.length : Int) then
  (idx a0.AC x2).bind fun y2 =>
  if 30 < (y2.AP.length : Int) then
   (some none).bind fun r => some (Sum.inr r)
  else
   if 30 < (y2.AT.length : Int) then
    (some none).bind fun r => some (Sum.inr r)
   else
    (chk (x2 + 1)).bind fun z1 =>
    lA a0 k z1
 else
  some (Sum.inl ())
def uA (AA : Nat) (a0 : AF) : Option (Option Ag) :=
 if 60 < (a0.AB.length : Int) then
  some none
 else
  if 12 < (a0.AD.length : Int) then
   some none
  else
   if 12 < (a0.AC.length : Int) then
    some none
   else
    (oY AA a0.AI (a0.AD.length : Int)).bind fun y1 =>
    bif y1 then
     (lA a0 AA 0).bind fun o => match o with
     | Sum.inr r => some r
     | Sum.inl _ =>
     (mk [] (a0.AB.length : Int)).bind fun y3 =>
     (mk [] (a0.AB.length : Int)).bind fun y4 =>
     (mk false (a0.AB.length : Int)).bind fun y5 =>
     (yB a0.AD).bind fun y6 =>
     (mk (⟨0, 0, [], []⟩ : Ae) (a0.AB.length : Int)).bind fun y7 =>
     (xE AA a0.AC).bind fun y8 =>
     (iH a0.AI).bind fun y9 =>
     (eC AA (⟨(⟨a0.AD, a0.AI, a0.AB, a0.AC, a0.AE⟩ : AF), y3, y4, y5, (⟨y6, y7, y8, a0.AE⟩ : AM)⟩ : Ag) a0.AE y9 (a0.AD.length : Int)).bind fun y10 =>
     bif !y10.2 then
      some none
     else
      (sB AA (⟨y10.1.AK.AD, y10.1.AK.AB, y10.1.AK.AC, y10.1.AK.AE⟩ : AM)).bind fun y11 =>
      if y11 ≠ 0 then
       some none
      else
       some (some (⟨(⟨y10.1.AF.AD, y10.1.AF.AI, y10.1.AF.AB, y10.1.AF.AC, y10.1.AF.AE⟩ : AF), y10.1.AQ, y10.1.AR, y10.1.AO, (⟨y10.1.AK.AD, y10.1.AK.AB, y10.1.AK.AC, y10.1.AK.AE⟩ : AM)⟩ : Ag))
    else
     some none
theorem aEY (AA : Nat)  (a0 : AF) (r : Option Ag) (H : uA AA a0 = some r) : FnS Tryz.prog 54 [fSt jI a0] [] (fOpt aEz r) (fun _ => []) := by
 unfold uA at H
 refine bS Tryz.func54 rfl Tryz.ntmps54 rfl (fun β => ?_)
 refine Z1 ?_
 refine Tn (cV rfl hh cJ) fun b1 => ?_
 refine Z2 ?_
 refine aJ ?_
 revert H; refine I6 (fun c1 H => ?_) fun c1 H => ?_
 refine Z12 ?_
 refine Z12 ?_
 refine Z2 ?_
 cases H
 refine aH [] (by decide) ?_
 exact eE rfl (fK rfl oV) rfl
 revert H; refine I6 (fun c2 H => ?_) fun c2 H => ?_
 refine Z12 ?_
 refine Z8 ?_
 cases H
 refine aH [] (by decide) ?_
 exact eE rfl (fK rfl oV) rfl
 revert H; refine I6 (fun c3 H => ?_) fun c3 H => ?_
 refine Z12 ?_
 refine Z2 ?_
 cases H
 refine aH [] (by decide) ?_
 exact eE rfl (fK rfl oV) rfl
 revert H; refine B5 fun y1 h1 H => ?_
 refine Tc (aAE _ _ _ _ h1) ?_
 refine Z3 ?_
 revert H; refine cs (fun c4 H => ?_) fun c4 H => ?_
 revert H; refine B3 fun o1 H Hr1 => ?_
 refine aP (ι := Unit) (fun i => o1 = Sum.inl ()) (fun i => [(1, fEq (ptr b1))]) (fun i => [aD b1 27 [fSl aC a0.AD, fSl tI a0.AI, fSl aT a0.AB, fSl aA a0.AC, fI a0.AE]]) ?_ ?_
 refine Z7 ?_
 refine Tl (ι := Nat × Int) (fun i => lA a0 i.1 i.2 = _) (fun i => i.1) (fun i => [(1, fEq (ptr b1)), (33, fSl aA a0.AC), (34, fI (a0.AC.length : Int)), (35, fI i.2)]) (fun i => [aD b1 27 [fSl aC a0.AD, fSl tI a0.AI, fSl aT a0.AB, fSl aA a0.AC, fI a0.AE]]) (AA, 0) H ?_
 clear H; rintro ⟨k1, x2⟩ H
 replace H : lA a0 k1 x2 = _ := H
 try dsimp only
 obtain _ | k1 := k1
 rw [lA] at H; cases H
 rw [lA] at H
 refine Z3 ?_
 refine aJ ?_
 revert H; refine is (fun c5 H => ?_) fun c5 H => ?_
 refine Z3 ?_
 refine aJ ?_
 revert H; refine B2 fun y2 h2 H => ?_
 refine Z2 ?_
 refine Tn (dG rfl rT rfl) fun b2 => ?_
 refine dV (φs' := [fSl aW y2.AP, fSl bB y2.AT, fSl bF y2.AS]) a1W rfl rfl (has rfl) (has rfl) (aL (aY) (aL (aY) (aL (aY) cE))) (sz rfl) rfl rfl rfl ?_
 revert H; refine I7 (fun c6 H => ?_) fun c6 H => ?_
 refine Z12 ?_
 revert H; refine B4 fun r1 H e1 => ?_
 cases e1; cases Hr1
 cases H
 refine aH [] (by decide) ?_
 exact eE rfl (fK rfl oV) rfl
 revert H; refine I6 (fun c7 H => ?_) fun c7 H => ?_
 revert H; refine B10 fun r2 H e2 => ?_
 cases e2; cases Hr1
 cases H
 refine aH [] (by decide) ?_
 exact eE rfl (fK rfl oV) rfl
 revert H; refine B5 fun z1 h3 H => ?_
 refine Z3 ?_
 refine aH [1] (by decide) ?_
 exact Tm ((k1, z1)) ⟨H, ls⟩
 refine Z6 ?_
 exact Tm (()) (ij H)
 clear H; intro i hi; subst o1; have H := Hr1; clear Hr1; try dsimp only at H
 try dsimp only
 refine Z6 ?_
 refine aJ ?_
 revert H; refine bs fun y3 h4 H => ?_
 revert H; refine bs fun y4 h5 H => ?_
 revert H; refine bs fun y5 h6 H => ?_
 apply bL (ods := [_, _, _, _, _, _, _, _, _, _]) 10 4 5 bM rfl rfl rfl
 refine ND ?_
 refine M2 ?_
 intros
 refine Mn 1 (fun b3 => .slice (some ⟨b3, 0, none⟩) y3.length y3.length) (fun b3 => aB (.slice (some ⟨b3, 0, none⟩) y3.length y3.length) 23 (tSl tI) y3) rfl (tZ (t := (tSl tI)) (z := []) rfl (has rfl) (et rfl) rfl yC (aI.cons cH aI.nil) h4) (fun b3 u1 => ?_)
 refine M1 ?_
 intros
 refine Mn 2 (fun b4 => .slice (some ⟨b4, 0, none⟩) y4.length y4.length) (fun b4 => aB (.slice (some ⟨b4, 0, none⟩) y4.length y4.length) 23 (tSl tI) y4) rfl (tZ (t := (tSl tI)) (z := []) rfl (has rfl) (et rfl) rfl yC (aI.cons cH aI.nil) h5) (fun b4 u2 => ?_)
 refine M1 ?_
 intros
 refine Mn 3 (fun b5 => .slice (some ⟨b5, 0, none⟩) y5.length y5.length) (fun b5 => aB (.slice (some ⟨b5, 0, none⟩) y5.length y5.length) 4 aN y5) rfl (lL (t := aN) (z := false) rfl (has rfl) (et rfl) rfl wD rfl h6) (fun b5 u3 => ?_)
 refine N_y (od := od3 2 4 6 [] false (fun b3 _ b4 _ b5 _ => eG [fSl aC a0.AD, fSl tI a0.AI, fSl aT a0.AB, fSl aA a0.AC, fI a0.AE, fEq (.slice (some ⟨b3, 0, none⟩) y3.length y3.length), fEq (.slice (some ⟨b4, 0, none⟩) y4.length y4.length), fEq (.slice (some ⟨b5, 0, none⟩) y5.length y5.length), fEq (.slice none 0 0), fEq (.slice none 0 0), fEq (.slice none 0 0), fI 0]) (fun b3 _ b4 _ b5 _ => [])) (φ := eG [fSl aC a0.AD, fSl tI a0.AI, fSl aT a0.AB, fSl aA a0.AC, fI a0.AE, fEq (.slice (some ⟨b3, 0, none⟩) y3.length y3.length), fEq (.slice (some ⟨b4, 0, none⟩) y4.length y4.length), fEq (.slice (some ⟨b5, 0, none⟩) y5.length y5.length), fEq (.slice none 0 0), fEq (.slice none 0 0), fEq (.slice none 0 0), fI 0]) rfl (fun _ => rfl) a1W rfl (gL (ψs := [fSl aC a0.AD, fSl tI a0.AI, fSl aT a0.AB, fSl aA a0.AC, fI a0.AE, fEq (.slice (some ⟨b3, 0, none⟩) y3.length y3.length), fEq (.slice (some ⟨b4, 0, none⟩) y4.length y4.length), fEq (.slice (some ⟨b5, 0, none⟩) y5.length y5.length), fEq (.slice none 0 0), fEq (.slice none 0 0), fEq (.slice none 0 0), fI 0]) rfl ty_bu_96 rfl (bP.cons (has rfl) cJ (bP.cons (has rfl) (cY (aG a1W)) (bP.cons (has rfl) (cY (aG a1W)) (bP.cons (has rfl) (cY (aG a1W)) bP.nil)))) rfl) (fun _ => ?_)
 refine N_new (od := odN3 2 4 6 [4] true (fun b3 _ b4 _ b5 _ b6 _ => fEq (ptr b6)) (fun b3 _ b4 _ b5 _ b6 _ => [aD b6 96 [fSl aC a0.AD, fSl tI a0.AI, fSl aT a0.AB, fSl aA a0.AC, fI a0.AE, fEq (.slice (some ⟨b3, 0, none⟩) y3.length y3.length), fEq (.slice (some ⟨b4, 0, none⟩) y4.length y4.length), fEq (.slice (some ⟨b5, 0, none⟩) y5.length y5.length), fEq (.slice none 0 0), fEq (.slice none 0 0), fEq (.slice none 0 0), fI 0]])) (p := 4) (f := fun b6 => ptr b6) (τ := fun b6 => aD b6 96 [fSl aC a0.AD, fSl tI a0.AI, fSl aT a0.AB, fSl aA a0.AC, fI a0.AE, fEq (.slice (some ⟨b3, 0, none⟩) y3.length y3.length), fEq (.slice (some ⟨b4, 0, none⟩) y4.length y4.length), fEq (.slice (some ⟨b5, 0, none⟩) y5.length y5.length), fEq (.slice none 0 0), fEq (.slice none 0 0), fEq (.slice none 0 0), fI 0]) rfl (fun _ => rfl) (fun _ => rfl) a1W rfl rfl (cV rfl (has rfl) cJ) (fun b6 u4 => ?_)
 refine D1 8 b6 _ (fun b6 _ => fEq (ptr b6)) rfl (zT rfl hh) (fun _ => ?_)
 refine Z1 ?_
 generalize (Value.slice (some ⟨b3, 0, none⟩) _ _) = v1
 refine aE 1 rfl (fun hc_v1 => ?_)
 generalize (Value.slice (some ⟨b4, 0, none⟩) _ _) = v2
 refine aE 2 rfl (fun hc_v2 => ?_)
 generalize (Value.slice (some ⟨b5, 0, none⟩) _ _) = v3
 refine aE 3 rfl (fun hc_v3 => ?_)
 refine Z1 ?_
 refine aJ ?_
 revert H; refine bs fun y6 h7 H => ?_
 revert H; refine bs fun y7 h8 H => ?_
 revert H; refine bs fun y8 h9 H => ?_
 apply bL (ods := [_, _, _, _, _, _, _, _, _, _, _, _, _, _, _]) 15 1 6 bM rfl rfl rfl
 refine ND ?_
 refine M3 ?_
 intros
 refine Nc (aFC _ _ h7) fun _ => ?_
 refine M1 ?_
 intros
 refine Mn 5 (fun b7 => .slice (some ⟨b7, 0, none⟩) y7.length y7.length) (fun b7 => aB (.slice (some ⟨b7, 0, none⟩) y7.length y7.length) 118 aK y7) rfl (tZ (t := aK) (z := (⟨0, 0, [], []⟩ : Ae)) rfl (has rfl) (et rfl) rfl sE (aI.cons Ent.rfl (aI.cons Ent.rfl (aI.cons cH (aI.cons cH aI.nil)))) h8) (fun b7 u5 => ?_)
 refine M2 ?_
 intros
 refine Nc (aGQ _ _ _ h9) fun _ => ?_
 refine M2 ?_
 intros
 refine D1 5 b7 _ (fun b7 _ => eG [fSl aC y6, fEq (.slice (some ⟨b7, 0, none⟩) y7.length y7.length), fSl aA y8, fI a0.AE]) rfl (gL (ψs := [fSl aC y6, fEq (.slice (some ⟨b7, 0, none⟩) y7.length y7.length), fSl aA y8, fI a0.AE]) rfl aB8 rfl (bP.cons (has rfl) (cY (aY)) (bP.cons (has rfl) (cY (aG a1W)) (bP.cons (has rfl) (cY (aY)) (bP.cons (has rfl) (cY (aG a1W)) bP.nil)))) rfl) (fun _ => ?_)
 refine M2 ?_
 intros
 refine oX (od := od1 5 [4] true (fun b7 _ => dN) (fun b7 _ => [aD b6 96 [fSl aC a0.AD, fSl tI a0.AI, fSl aT a0.AB, fSl aA a0.AC, fI a0.AE, fEq v1, fEq v2, fEq v3, fSl aC y6, fEq (.slice (some ⟨b7, 0, none⟩) y7.length y7.length), fSl aA y8, fI a0.AE]])) (p := 4) (φs' := [fSl aC a0.AD, fSl tI a0.AI, fSl aT a0.AB, fSl aA a0.AC, fI a0.AE, fEq v1, fEq v2, fEq v3, fSl aC y6, fEq (.slice (some ⟨b7, 0, none⟩) y7.length y7.length), fSl aA y8, fI a0.AE]) rfl (fun _ => rfl) (fun _ => rfl) a1W rfl rfl rfl (has rfl) (has rfl) (aL (aY) (aL (aG a1W) (aL (aY) (aL (aG a1W) cE)))) (sz rfl) rfl rfl rfl (fun _ => ?_)
 refine Z1 ?_
 generalize (Value.slice (some ⟨b7, 0, none⟩) _ _) = v4
 refine aE 5 rfl (fun hc_v4 => ?_)
 refine Z1 ?_
 refine aJ ?_
 refine aJ ?_
 revert H; refine bs fun y9 h10 H => ?_
 apply bL (ods := [_, _, _, _, _, _, _, _, _]) 9 0 6 bM rfl rfl rfl
 refine ND ?_
 refine M5 ?_
 intros
 refine sF (od := odC [] true (fSl tI y9) []) (Φ := fSl tI y9) rfl (fun _ => rfl) a1W rfl rfl (has rfl) (aM.cons (has rfl) aM.nil) rfl (cb rfl) (yK a0.AI y9 h10) (fun _ => ?_)
 refine M3 ?_
 intros
 refine Z1 ?_
 refine cR ?_
 refine bH ?_
 refine bH ?_
 refine bH ?_
 refine cR ?_
 refine eL (x := (⟨(⟨a0.AD, a0.AI, a0.AB, a0.AC, a0.AE⟩ : AF), y3, y4, y5, (⟨y6, y7, y8, a0.AE⟩ : AM)⟩ : Ag)) ?_
 revert H; refine bs fun y10 h11 H => ?_
 refine Tc (aHn _ _ _ _ _ _ _ h11) ?_
 refine mH (fun v5 v6 v7 v8 => ?_)
 refine aE 1 rfl (fun hc_v5 => ?_)
 refine aE 2 rfl (fun hc_v6 => ?_)
 refine aE 3 rfl (fun hc_v7 => ?_)
 refine aE 4 rfl (fun hc_v8 => ?_)
 refine Z2 ?_
 revert H; refine cs (fun c8 H => ?_) fun c8 H => ?_
 refine Z12 ?_
 refine Z1 ?_
 cases H
 refine aH [] (by decide) ?_
 exact eE rfl (fK rfl oV) rfl
 refine Z4 ?_
 refine bH ?_
 refine bY (φ := fSl aK y10.1.AK.AB) (v := v8) [] cU (fun _ h => nomatch h) ?_
 refine dJ (φs' := [fSl aC y10.1.AF.AD, fSl tI y10.1.AF.AI, fSl aT y10.1.AF.AB, fSl aA y10.1.AF.AC, fI y10.1.AF.AE, fEq v5, fEq v6, fEq v7, fSl aC y10.1.AK.AD, fSl aK y10.1.AK.AB, fSl aA y10.1.AK.AC, fI y10.1.AK.AE]) (i := 9) rfl rfl ?_
 refine lP 91 (ψ := eG [fSl aC y10.1.AK.AD, fEq v8, fSl aA y10.1.AK.AC, fI y10.1.AK.AE]) rfl (mN (i := 1) (φs := [fSl aC y10.1.AK.AD, fEq v8, fSl aA y10.1.AK.AC, fI y10.1.AK.AE]) (φs' := [fSl aC y10.1.AK.AD, fSl aK y10.1.AK.AB, fSl aA y10.1.AK.AC, fI y10.1.AK.AE]) rfl rfl) ?_
 refine bX ?_
 revert H; refine bs fun y11 h12 H => ?_
 refine Tc (aFi _ _ _ h12) ?_
 revert H; refine I3 (fun c9 H => ?_) fun c9 H => ?_
 refine Z5 ?_
 cases H
 refine aH [] (by decide) ?_
 exact eE rfl (fK rfl oV) rfl
 refine Z8 ?_
 refine bI ?_
 refine bY (φ := fSl (tSl tI) y10.1.AQ) (v := v5) [] cU (fun _ h => nomatch h) ?_
 refine dJ (φs' := [fSl aC y10.1.AF.AD, fSl tI y10.1.AF.AI, fSl aT y10.1.AF.AB, fSl aA y10.1.AF.AC, fI y10.1.AF.AE, fSl (tSl tI) y10.1.AQ, fEq v6, fEq v7, fSl aC y10.1.AK.AD, fSl aK y10.1.AK.AB, fSl aA y10.1.AK.AC, fI y10.1.AK.AE]) (i := 5) rfl rfl ?_
 refine bX ?_
 refine bI ?_
 refine bY (φ := fSl (tSl tI) y10.1.AR) (v := v6) [] cU (fun _ h => nomatch h) ?_
 refine dJ (φs' := [fSl aC y10.1.AF.AD, fSl tI y10.1.AF.AI, fSl aT y10.1.AF.AB, fSl aA y10.1.AF.AC, fI y10.1.AF.AE, fSl (tSl tI) y10.1.AQ, fSl (tSl tI) y10.1.AR, fEq v7, fSl aC y10.1.AK.AD, fSl aK y10.1.AK.AB, fSl aA y10.1.AK.AC, fI y10.1.AK.AE]) (i := 6) rfl rfl ?_
 refine bX ?_
 refine bI ?_
 refine bY (φ := fSl aN y10.1.AO) (v := v7) [] cU (fun _ h => nomatch h) ?_
 refine dJ (φs' := [fSl aC y10.1.AF.AD, fSl tI y10.1.AF.AI, fSl aT y10.1.AF.AB, fSl aA y10.1.AF.AC, fI y10.1.AF.AE, fSl (tSl tI) y10.1.AQ, fSl (tSl tI) y10.1.AR, fSl aN y10.1.AO, fSl aC y10.1.AK.AD, fSl aK y10.1.AK.AB, fSl aA y10.1.AK.AC, fI y10.1.AK.AE]) (i := 7) rfl rfl ?_
 refine bX ?_
 refine bY (φ := bO aEz (⟨(⟨y10.1.AF.AD, y10.1.AF.AI, y10.1.AF.AB, y10.1.AF.AC, y10.1.AF.AE⟩ : AF), y10.1.AQ, y10.1.AR, y10.1.AO, (⟨y10.1.AK.AD, y10.1.AK.AB, y10.1.AK.AC, y10.1.AK.AE⟩ : AM)⟩ : Ag)) (v := ptr b6) [61, 6, 62, 74, 76, 88, 89, 95, 2] (gS aI.rfl) fz ?_
 refine bX ?_
 cases H
 refine aH [] (by decide) ?_
 exact eE rfl (fK rfl ent_optS) rfl
 exact fk
 kernel_rfl
 exact fk
 kernel_rfl
 exact fk
 kernel_rfl
 refine Z5 ?_
 cases H
 refine aH [] (by decide) ?_
 exact eE rfl (fK rfl oV) rfl
def nD (y2 : Ag) : Nat -> (List (List Int)) -> Int -> Option (List (List Int))
| 0, _, _ => none
| k + 1, x4, x5 =>
 if x5 < (y2.AQ.length : Int) then
  (idx y2.AQ x5).bind fun y3 =>
  (iH y3).bind fun y4 =>
  (dR (x4 ++ [y4])).bind fun z1 =>
  (chk (x5 + 1)).bind fun z2 =>
  nD y2 k z1 z2
 else
  some x4
def zI (AA : Nat) (a0 : AF) : Option ((List (List Int)) × Int) :=
 (uA AA (⟨a0.AD, a0.AI, a0.AB, a0.AC, a0.AE⟩ : AF)).bind fun y1 =>
 bif y1.isNone then
  some ([], 2)
 else
  ((y1).bind fun y2 =>
  nD y2 AA [] 0).bind fun x1 =>
  some (x1, 0)
theorem aHR (AA : Nat)  (a0 : AF) (r : (List (List Int)) × Int) (H : zI AA a0 = some r) : FnS Tryz.prog 13 [fSt jI a0] [] (eM [fSl (tSl tI) r.1, fI r.2]) (fun _ => []) := by
 unfold zI at H
 refine bS Tryz.func13 rfl Tryz.ntmps13 rfl (fun β => ?_)
 refine Z1 ?_
 refine Tn (cV rfl hh cJ) fun b1 => ?_
 revert H; refine B5 fun y1 h1 H => ?_
 refine Tc (aEY _ _ _ h1) ?_
 refine Z2 ?_
 refine aJ ?_
 refine Z2 ?_
 refine Yy (aBZ rfl hh aD0) ?_
 refine Z1 ?_
 revert H; refine cs (fun c1 H => ?_) fun c1 H => ?_
 refine Z6 ?_
 cases H
 refine aH [] (by decide) ?_
 exact lV rfl (fK rfl cH) (bU rfl) rfl
 revert H; refine B6 fun o1 H Hr1 => ?_
 refine aP (ι := List (List Int) × Value) (fun i => o1 = i.1) (fun i => [(5, fEq i.2)]) (fun i => [aD b1 27 [fSl aC a0.AD, fSl tI a0.AI, fSl aT a0.AB, fSl aA a0.AC, fI a0.AE], aB i.2 23 (tSl tI) i.1]) ?_ ?_
 revert H; refine B2 fun y2 h2 H => ?_
 refine wK 9 rfl (xS h2) ?_
 refine wK 4 rfl (xS h2) ?_
 refine wK 10 rfl (xS h2) ?_
 refine wK 12 rfl (xS h2) ?_
 refine Z7 ?_
 refine gR (tSl tI) 23 ?_
 refine aH [1, 0] (by decide) ?_
 refine Tl (ι := Nat × List (List Int) × Int × Value) (fun i => nD y2 i.1 i.2.1 i.2.2.1 = _) (fun i => i.1) (fun i => [(5, fEq i.2.2.2), (15, fSl (tSl tI) y2.AQ), (16, fI (y2.AQ.length : Int)), (17, fI i.2.2.1)]) (fun i => [aD b1 27 [fSl aC a0.AD, fSl tI a0.AI, fSl aT a0.AB, fSl aA a0.AC, fI a0.AE], aB i.2.2.2 23 (tSl tI) i.2.1]) (AA, [], 0, (.slice none 0 0)) H ?_
 clear H; rintro ⟨k1, x4, x5, v3⟩ H
 replace H : nD y2 k1 x4 x5 = _ := H
 try dsimp only
 obtain _ | k1 := k1
 rw [nD] at H; cases H
 rw [nD] at H
 refine aE 1 rfl (fun hc_v3 => ?_)
 refine Z3 ?_
 refine aJ ?_
 revert H; refine is (fun c2 H => ?_) fun c2 H => ?_
 refine Z3 ?_
 refine aJ ?_
 revert H; refine B2 fun y3 h3 H => ?_
 revert H; refine B7 fun y4 h4 H => ?_
 refine iN a1W rfl rfl rfl hh (aM.cons hh aM.nil) rfl (cb rfl) (yK y3 y4 h4) rfl ?_
 refine Tn (fV (t := (tSl tI)) (xs := [y4]) rfl (et rfl) (cP.cons rfl (has rfl) (cY (aY)) cP.nil) rfl rfl rfl) fun b2 => ?_
 generalize (Value.slice (some ⟨b2, 0, none⟩) _ _) = v4
 refine aE 0 rfl (fun hc_v4 => ?_)
 revert H; refine bs fun z1 h5 H => ?_
 refine eH ?_
 refine bI ?_
 refine jT a1W rfl rfl rfl (has rfl) (has rfl) (et rfl) rfl h5 (fun v5 => ?_)
 refine aE 0 rfl (fun hc_v5 => ?_)
 revert H; refine B5 fun z2 h6 H => ?_
 refine Z3 ?_
 refine aH [1, 0] (by decide) ?_
 exact Tm ((k1, z1, z2, v5)) ⟨H, ls⟩
 refine Z6 ?_
 exact Tm ((x4, v3)) (ij H)
 clear H; intro i hi; obtain ⟨x1, v1⟩ := i; subst o1; have H := Hr1; clear Hr1; try dsimp only at H
 try dsimp only
 refine aE 1 rfl (fun hc_v1 => ?_)
 refine Z6 ?_
 refine bI ?_
 refine bY (φ := fSl (tSl tI) x1) (v := v1) [5, 27, 2] cU fz ?_
 refine bX ?_
 cases H
 refine aH [] (by decide) ?_
 exact lV rfl (bU rfl) (bU rfl) rfl
open Go.SX Go.SW Go.Dt
def mR (a0 : List ByteArray) (a1 : ByteArray) : Nat -> Int -> Option ((Unit) ⊕ (Bool))
| 0, _ => none
| k + 1, x2 =>
 if x2 < (a0.length : Int) then
  (idx a0 x2).bind fun y1 =>
  if y1 = a1 then
   (some true).bind fun r => some (Sum.inr r)
  else
   (chk (x2 + 1)).bind fun z1 =>
   mR a0 a1 k z1
 else
  some (Sum.inl ())
def vE (AA : Nat) (a0 : List ByteArray) (a1 : ByteArray) : Option (Bool) :=
 (mR a0 a1 AA 0).bind fun o => match o with
 | Sum.inr r => some r
 | Sum.inl _ =>
 some false
theorem aFl (AA : Nat)  (a0 : List ByteArray) (a1 : ByteArray) (r : Bool) (H : vE AA a0 a1 = some r) : FnS Tryz.prog 200 [fSl aC a0, gD a1] [] (aF r) (fun _ => []) := by
 unfold vE at H
 refine bS Tryz.func200 rfl Tryz.ntmps200 rfl (fun β => ?_)
 revert H; refine B3 fun o1 H Hr1 => ?_
 refine aP (ι := Unit) (fun i => o1 = Sum.inl ()) (fun i => []) (fun i => []) ?_ ?_
 refine Z4 ?_
 refine Tl (ι := Nat × Int) (fun i => mR a0 a1 i.1 i.2 = _) (fun i => i.1) (fun i => [(0, fSl aC a0), (1, gD a1), (5, fI i.2)]) (fun i => []) (AA, 0) H ?_
 clear H; rintro ⟨k1, x2⟩ H
 replace H : mR a0 a1 k1 x2 = _ := H
 try dsimp only
 obtain _ | k1 := k1
 rw [mR] at H; cases H
 rw [mR] at H
 refine aJ ?_
 revert H; refine I6 (fun c1 H => ?_) fun c1 H => ?_
 refine Z3 ?_
 refine aJ ?_
 revert H; refine B4 fun y1 h1 H => ?_
 refine Z3 ?_
 refine Yy (o_eqlS rfl hh hh) ?_
 revert H; refine I1 (fun c2 H => ?_) fun c2 H => ?_
 revert H; refine B10 fun r1 H e1 => ?_
 cases e1; cases Hr1
 cases H
 exact To
 revert H; refine B6 fun z1 h2 H => ?_
 refine Z3 ?_
 exact Tm ((k1, z1)) ⟨H, ls⟩
 refine Z6 ?_
 exact Tm (()) (ij H)
 clear H; intro i hi; subst o1; have H := Hr1; clear Hr1; try dsimp only at H
 try dsimp only
 refine Z4 ?_
 cases H
 exact To
def oU (a0 : ByteArray) : Nat -> Int -> Option ((Unit) ⊕ (Bool))
| 0, _ => none
| k + 1, x2 =>
 if x2 < (a0.size : Int) then
  (sidx a0 x2).bind fun z1 =>
  if z1 < 97 then
   (some false).bind fun r => some (Sum.inr r)
  else
   (sidx a0 x2).bind fun z2 =>
   if 122 < z2 then
    (some false).bind fun r => some (Sum.inr r)
   else
    (chk (x2 + 1)).bind fun z3 =>
    oU a0 k z3
 else
  some (Sum.inl ())
def rN (AA : Nat) (a0 : ByteArray) : Option (Bool) :=
 if (a0.size : Int) < 1 then
  some false
 else
  if 8 < (a0.size : Int) then
   some false
  else
   (oU a0 AA 0).bind fun o => match o with
   | Sum.inr r => some r
   | Sum.inl _ =>
   (vE AA [{ data := #[97, 110, 100] }, { data := #[100, 101, 102] }, { data := #[101, 108, 115, 101] }, { data := #[103, 111] }, { data := #[105, 102] }, { data := #[105, 110] }, { data := #[112, 108, 97, 99, 101] }, { data := #[115, 116, 111, 112] }, { data := #[116, 104, 101, 110] }, { data := #[119, 97, 116, 99, 104] }] a0).bind fun y1 =>
   some (!y1)
theorem aAG (AA : Nat)  (a0 : ByteArray) (r : Bool) (H : rN AA a0 = some r) : FnS Tryz.prog 137 [gD a0] [] (aF r) (fun _ => []) := by
 unfold rN at H
 refine bS Tryz.func137 rfl Tryz.ntmps137 rfl (fun β => ?_)
 refine Z3 ?_
 refine aJ ?_
 refine Z2 ?_
 refine Yy (sN rfl hh lR) ?_
 revert H; refine I2 (fun c1 H => ?_) fun c1 H => ?_
 refine Z10 ?_
 cases H
 exact To
 refine Z1 ?_
 refine Yg c1 (sN rfl hh lR) ?_
 revert H; refine I3 (fun c2 H => ?_) fun c2 H => ?_
 refine Z5 ?_
 cases H
 exact To
 revert H; refine B3 fun o1 H Hr1 => ?_
 refine aP (ι := Unit) (fun i => o1 = Sum.inl ()) (fun i => [(0, gD a0)]) (fun i => []) ?_ ?_
 refine Z4 ?_
 refine Tl (ι := Nat × Int) (fun i => oU a0 i.1 i.2 = _) (fun i => i.1) (fun i => [(0, gD a0), (3, fI i.2)]) (fun i => []) (AA, 0) H ?_
 clear H; rintro ⟨k1, x2⟩ H
 replace H : oU a0 k1 x2 = _ := H
 try dsimp only
 obtain _ | k1 := k1
 rw [oU] at H; cases H
 rw [oU] at H
 refine aJ ?_
 refine Z3 ?_
 refine Yy (sN rfl hh lR) ?_
 revert H; refine I2 (fun c3 H => ?_) fun c3 H => ?_
 refine Z3 ?_
 refine aJ ?_
 revert H; refine B4 fun z1 h1 H => ?_
 refine Yy (zK rfl hh hh lR h1) ?_
 revert H; refine I2 (fun c4 H => ?_) fun c4 H => ?_
 refine Z12 ?_
 revert H; refine B4 fun r1 H e1 => ?_
 cases e1; cases Hr1
 cases H
 exact To
 revert H; refine B2 fun z2 h2 H => ?_
 refine Yg c4 (zK rfl hh hh lR h2) ?_
 revert H; refine I3 (fun c5 H => ?_) fun c5 H => ?_
 revert H; refine B10 fun r2 H e2 => ?_
 cases e2; cases Hr1
 cases H
 exact To
 revert H; refine B6 fun z3 h3 H => ?_
 refine Z3 ?_
 exact Tm ((k1, z3)) ⟨H, ls⟩
 refine Z6 ?_
 exact Tm (()) (ij H)
 clear H; intro i hi; subst o1; have H := Hr1; clear Hr1; try dsimp only at H
 try dsimp only
 refine Z1 ?_
 refine Tn (fV (t := aC) (xs := [{ data := #[97, 110, 100] }, { data := #[100, 101, 102] }, { data := #[101, 108, 115, 101] }, { data := #[103, 111] }, { data := #[105, 102] }, { data := #[105, 110] }, { data := #[112, 108, 97, 99, 101] }, { data := #[115, 116, 111, 112] }, { data := #[116, 104, 101, 110] }, { data := #[119, 97, 116, 99, 104] }]) rfl (et rfl) (cP.cons rfl (has rfl) (cY (aG a1W)) (cP.cons rfl (has rfl) (cY (aG a1W)) (cP.cons rfl (has rfl) (cY (aG a1W)) (cP.cons rfl (has rfl) (cY (aG a1W)) (cP.cons rfl (has rfl) (cY (aG a1W)) (cP.cons rfl (has rfl) (cY (aG a1W)) (cP.cons rfl (has rfl) (cY (aG a1W)) (cP.cons rfl (has rfl) (cY (aG a1W)) (cP.cons rfl (has rfl) (cY (aG a1W)) (cP.cons rfl (has rfl) (cY (aG a1W)) cP.nil)))))))))) rfl rfl rfl) fun b1 => ?_
 generalize (Value.slice (some ⟨b1, 0, none⟩) _ _) = v1
 refine aE 0 rfl (fun hc_v1 => ?_)
 refine Z1 ?_
 refine bY (φ := fSl aC [{ data := #[97, 110, 100] }, { data := #[100, 101, 102] }, { data := #[101, 108, 115, 101] }, { data := #[103, 111] }, { data := #[105, 102] }, { data := #[105, 110] }, { data := #[112, 108, 97, 99, 101] }, { data := #[115, 116, 111, 112] }, { data := #[116, 104, 101, 110] }, { data := #[119, 97, 116, 99, 104] }]) (v := v1) [28] cU fz ?_
 refine bX ?_
 revert H; refine bs fun y1 h4 H => ?_
 refine Tc (aFl _ _ _ _ h4) ?_
 refine Z4 ?_
 cases H
 exact To
open Go.SX Go.SW Go.Dt
def oF (a0 : AN) : Nat -> Int -> Option ((Unit) ⊕ (Bool))
| 0, _ => none
| k + 1, x2 =>
 if x2 < (a0.AP.length : Int) then
  (idx a0.AP x2).bind fun y1 =>
  if y1.At < 0 then
   (some false).bind fun r => some (Sum.inr r)
  else
   (idx a0.AP x2).bind fun y2 =>
   if (a0.AT.length : Int) < y2.At then
    (some false).bind fun r => some (Sum.inr r)
   else
    (idx a0.AP x2).bind fun y3 =>
    if y3.Ap < 0 then
     (some false).bind fun r => some (Sum.inr r)
    else
     (idx a0.AP x2).bind fun y4 =>
     if 3 < y4.Ap then
      (some false).bind fun r => some (Sum.inr r)
     else
      (chk (x2 + 1)).bind fun z1 =>
      oF a0 k z1
 else
  some (Sum.inl ())
def nF (a0 : AN) : Nat -> Int -> Option ((Unit) ⊕ (Bool))
| 0, _ => none
| k + 1, x4 =>
 if x4 < (a0.AT.length : Int) then
  (idx a0.AT x4).bind fun y5 =>
  if y5.In < 0 then
   (some false).bind fun r => some (Sum.inr r)
  else
   (idx a0.AT x4).bind fun y6 =>
   if x4 < y6.In then
    (some false).bind fun r => some (Sum.inr r)
   else
    (chk (x4 + 1)).bind fun z2 =>
    nF a0 k z2
 else
  some (Sum.inl ())
def mY (y8 : Al) (x14 : Int) (y9 : Int) : Nat -> Int -> Option ((Unit) ⊕ ((List Bool) ⊕ ((List Bool) ⊕ ((List Bool) ⊕ (Bool)))))
| 0, _ => none
| k + 1, x17 =>
 if x17 < x14 then
  (idx y8.Af x17).bind fun y11 =>
  if y11 = y9 then
   ((((some false).bind fun r => some (Sum.inr r)).bind fun r => some (Sum.inr r)).bind fun r => some (Sum.inr r)).bind fun r => some (Sum.inr r)
  else
   (chk (x17 + 1)).bind fun z3 =>
   mY y8 x14 y9 k z3
 else
  some (Sum.inl ())
def jM (AA : Nat) (a0 : AN) (y8 : Al) : Nat -> (List Bool) -> Int -> Option ((List Bool) ⊕ ((List Bool) ⊕ (Bool)))
| 0, _, _ => none
| k + 1, x13, x14 =>
 if x14 < (y8.Af.length : Int) then
  ((idx y8.Af x14).bind fun y9 =>
  if y9 < 0 then
   (((some false).bind fun r => some (Sum.inr r)).bind fun r => some (Sum.inr r)).bind fun r => some (Sum.inr r)
  else
   if (a0.AP.length : Int) <= y9 then
    (((some false).bind fun r => some (Sum.inr r)).bind fun r => some (Sum.inr r)).bind fun r => some (Sum.inr r)
   else
    (idx a0.AP y9).bind fun y10 =>
    if y10.At ≠ y8.At then
     (((some false).bind fun r => some (Sum.inr r)).bind fun r => some (Sum.inr r)).bind fun r => some (Sum.inr r)
    else
     (mY y8 x14 y9 AA 0).bind fun o => match o with
     | Sum.inr r => some r
     | Sum.inl _ =>
     (idx x13 y9).bind fun y12 =>
     some (Sum.inl (x13.set y9.toNat true))).bind fun o => match o with
  | Sum.inr r => some r
  | Sum.inl x15 =>
  (chk (x14 + 1)).bind fun z4 =>
  jM AA a0 y8 k x15 z4
 else
  some (Sum.inl x13)
def lU (AA : Nat) (a0 : AN) : Nat -> (List Bool) -> Int -> Option ((List Bool) ⊕ (Bool))
| 0, _, _ => none
| k + 1, x8, x9 =>
 if x9 < (a0.AS.length : Int) then
  ((idx a0.AS x9).bind fun y8 =>
  if y8.At < 0 then
   ((some false).bind fun r => some (Sum.inr r)).bind fun r => some (Sum.inr r)
  else
   if (a0.AT.length : Int) < y8.At then
    ((some false).bind fun r => some (Sum.inr r)).bind fun r => some (Sum.inr r)
   else
    if (y8.Af.length : Int) < 1 then
     ((some false).bind fun r => some (Sum.inr r)).bind fun r => some (Sum.inr r)
    else
     if 3 < (y8.Af.length : Int) then
      ((some false).bind fun r => some (Sum.inr r)).bind fun r => some (Sum.inr r)
     else
      jM AA a0 y8 AA x8 0).bind fun o => match o with
  | Sum.inr r => some r
  | Sum.inl x10 =>
  (chk (x9 + 1)).bind fun z5 =>
  lU AA a0 k x10 z5
 else
  some (Sum.inl x8)
def nI (x5 : List Bool) : Nat -> Int -> Option ((Unit) ⊕ (Bool))
| 0, _ => none
| k + 1, x19 =>
 if x19 < (x5.length : Int) then
  (idx x5 x19).bind fun y13 =>
  bif y13 then
   (chk (x19 + 1)).bind fun z6 =>
   nI x5 k z6
  else
   (some false).bind fun r => some (Sum.inr r)
 else
  some (Sum.inl ())
def vC (AA : Nat) (a0 : AN) : Option (Bool) :=
 if 30 < (a0.AP.length : Int) then
  some false
 else
  if 30 < (a0.AT.length : Int) then
   some false
  else
   if 30 < (a0.AS.length : Int) then
    some false
   else
    (oF a0 AA 0).bind fun o => match o with
    | Sum.inr r => some r
    | Sum.inl _ =>
    (nF a0 AA 0).bind fun o => match o with
    | Sum.inr r => some r
    | Sum.inl _ =>
    (mk false (a0.AP.length : Int)).bind fun y7 =>
    (lU AA a0 AA y7 0).bind fun o => match o with
    | Sum.inr r => some r
    | Sum.inl x5 =>
    (nI x5 AA 0).bind fun o => match o with
    | Sum.inr r => some r
    | Sum.inl _ =>
    some true
theorem aGL (AA : Nat)  (a0 : AN) (r : Bool) (H : vC AA a0 = some r) : FnS Tryz.prog 138 [fSt aA a0] [] (aF r) (fun _ => []) := by
 unfold vC at H
 refine bS Tryz.func138 rfl Tryz.ntmps138 rfl (fun β => ?_)
 refine Z1 ?_
 refine Tn (cV rfl hh cJ) fun b1 => ?_
 refine Z2 ?_
 refine aJ ?_
 revert H; refine I6 (fun c1 H => ?_) fun c1 H => ?_
 refine Yt c1 ?_
 refine Yt c1 ?_
 refine Yt c1 ?_
 refine Yt c1 ?_
 refine Yy (bZ rfl hh c1 hh) ?_
 refine Z12 ?_
 cases H
 refine aH [] (by decide) ?_
 exact To
 refine Yg c1 (bE 1 rfl hh (fa rfl) rfl) ?_
 refine Yh 0 rfl c1 (aZ rfl hh (sc rfl) rfl Ent.rfl) ?_
 refine Yg c1 (eB rfl hh (us rfl)) ?_
 refine Yg c1 (eV rfl hh hh) ?_
 refine Yy (bG rfl hh c1 hh) ?_
 revert H; refine I1 (fun c2 H => ?_) fun c2 H => ?_
 refine Yt c2 ?_
 refine Yt c2 ?_
 refine Yt c2 ?_
 refine Yt c2 ?_
 refine Yy (bZ rfl hh c2 hh) ?_
 refine Z6 ?_
 cases H
 refine aH [] (by decide) ?_
 exact To
 refine Yg c2 (bE 2 rfl hh (fa rfl) rfl) ?_
 refine Yh 0 rfl c2 (aZ rfl hh (sc rfl) rfl Ent.rfl) ?_
 refine Yg c2 (eB rfl hh (us rfl)) ?_
 refine Yg c2 (eV rfl hh hh) ?_
 refine Yy (bG rfl hh c2 hh) ?_
 revert H; refine I1 (fun c3 H => ?_) fun c3 H => ?_
 refine cL hh c3 ?_
 refine Z4 ?_
 cases H
 refine aH [] (by decide) ?_
 exact To
 refine cM hh c3 ?_
 revert H; refine B2 fun o1 H Hr1 => ?_
 refine aP (ι := Unit) (fun i => o1 = Sum.inl ()) (fun i => [(1, fEq (ptr b1))]) (fun i => [aD b1 130 [fSl aW a0.AP, fSl bB a0.AT, fSl bF a0.AS]]) ?_ ?_
 refine Z4 ?_
 refine Tl (ι := Nat × Int) (fun i => oF a0 i.1 i.2 = _) (fun i => i.1) (fun i => [(1, fEq (ptr b1)), (3, fI i.2)]) (fun i => [aD b1 130 [fSl aW a0.AP, fSl bB a0.AT, fSl bF a0.AS]]) (AA, 0) H ?_
 clear H; rintro ⟨k1, x2⟩ H
 replace H : oF a0 k1 x2 = _ := H
 try dsimp only
 obtain _ | k1 := k1
 rw [oF] at H; cases H
 rw [oF] at H
 refine aJ ?_
 revert H; refine I7 (fun c4 H => ?_) fun c4 H => ?_
 refine cL hh c4 ?_
 refine Z2 ?_
 refine aJ ?_
 refine Z1 ?_
 refine aJ ?_
 revert H; refine bs fun y1 h1 H => ?_
 revert H; refine is (fun c5 H => ?_) fun c5 H => ?_
 apply bL (ods := [_, _, _, _, _, _, _, _, _, _, _, _, _, _, _, _, _, _, _, _, _, _, _, _, _, _, _, _, _, _, _, _, _, _, _, _, _]) 37 0 1 bM rfl rfl rfl
 refine ND ?_
 refine M3 ?_
 intros
 refine My (cF rfl hh hh (el rfl) h1) fun _ => ?_
 refine M4 ?_
 intros
 refine Mt c5 fun _ => ?_
 refine Mt c5 fun _ => ?_
 refine Mt c5 fun _ => ?_
 refine Mt c5 fun _ => ?_
 refine Mt c5 fun _ => ?_
 refine Mt c5 fun _ => ?_
 refine Mt c5 fun _ => ?_
 refine Mt c5 fun _ => ?_
 refine Mt c5 fun _ => ?_
 refine Mt c5 fun _ => ?_
 refine My (bZ rfl hh c5 hh) fun _ => ?_
 refine M8 ?_
 intros
 refine M8 ?_
 intros
 refine M2 ?_
 intros
 revert H; refine B12 fun r1 H e1 => ?_
 cases e1; cases Hr1
 cases H
 refine aH [] (by decide) ?_
 exact To
 exact fk
 kernel_rfl
 revert H; refine bs fun y2 h2 H => ?_
 revert H; refine is (fun c6 H => ?_) fun c6 H => ?_
 apply bL (ods := [_, _, _, _, _, _, _, _, _, _, _, _, _, _, _, _, _, _, _, _, _, _, _, _, _, _, _, _, _, _, _, _, _, _, _, _, _]) 37 0 1 bM rfl rfl rfl
 refine ND ?_
 refine M3 ?_
 intros
 refine My (cF rfl hh hh (el rfl) h1) fun _ => ?_
 refine M4 ?_
 intros
 refine Mg c5 (bE 0 rfl hh (fa rfl) rfl) fun _ => ?_
 refine dQ (od := odC [0] false (fSl aW a0.AP) [dA]) (ps := [0]) (φ := fSl aW a0.AP) rfl (fun _ => rfl) ⟨_, _, rfl, rfl, c5⟩ rfl rfl (aZ rfl hh (sc rfl) rfl Ent.rfl) (fun _ => ?_)
 refine Mg c5 (bC rfl hh) fun _ => ?_
 refine Mg c5 (cF rfl hh hh (el rfl) h2) fun _ => ?_
 refine Mg c5 (iL (t' := tI) (z := y2.At) rfl hh (fa rfl) rfl) fun _ => ?_
 refine Mg c5 (fQ rfl hh (sc rfl) rfl) fun _ => ?_
 refine Mg c5 (bE 1 rfl hh (fa rfl) rfl) fun _ => ?_
 refine dQ (od := odC [0] false (fSl bB a0.AT) [dA]) (ps := [0]) (φ := fSl bB a0.AT) rfl (fun _ => rfl) ⟨_, _, rfl, rfl, c5⟩ rfl rfl (aZ rfl hh (sc rfl) rfl Ent.rfl) (fun _ => ?_)
 refine Mg c5 (eB rfl hh (us rfl)) fun _ => ?_
 refine Mg c5 (eV rfl hh hh) fun _ => ?_
 refine My (bG rfl hh c5 hh) fun _ => ?_
 refine M1 ?_
 intros
 refine Mt c6 fun _ => ?_
 refine Mt c6 fun _ => ?_
 refine Mt c6 fun _ => ?_
 refine Mt c6 fun _ => ?_
 refine Mt c6 fun _ => ?_
 refine Mt c6 fun _ => ?_
 refine Mt c6 fun _ => ?_
 refine My (bZ rfl hh c6 hh) fun _ => ?_
 refine M8 ?_
 intros
 refine M1 ?_
 intros
 revert H; refine B12 fun r2 H e2 => ?_
 cases e2; cases Hr1
 cases H
 refine aH [] (by decide) ?_
 exact To
 exact fk
 kernel_rfl
 revert H; refine bs fun y3 h3 H => ?_
 revert H; refine is (fun c7 H => ?_) fun c7 H => ?_
 apply bL (ods := [_, _, _, _, _, _, _, _, _, _, _, _, _, _, _, _, _, _, _, _, _, _, _, _, _, _, _, _, _, _, _, _, _, _, _, _, _]) 37 0 1 bM rfl rfl rfl
 refine ND ?_
 refine M3 ?_
 intros
 refine My (cF rfl hh hh (el rfl) h1) fun _ => ?_
 refine M4 ?_
 intros
 refine Mg c5 (bE 0 rfl hh (fa rfl) rfl) fun _ => ?_
 refine dQ (od := odC [0] false (fSl aW a0.AP) [dA]) (ps := [0]) (φ := fSl aW a0.AP) rfl (fun _ => rfl) ⟨_, _, rfl, rfl, c5⟩ rfl rfl (aZ rfl hh (sc rfl) rfl Ent.rfl) (fun _ => ?_)
 refine Mg c5 (bC rfl hh) fun _ => ?_
 refine Mg c5 (cF rfl hh hh (el rfl) h2) fun _ => ?_
 refine Mg c5 (iL (t' := tI) (z := y2.At) rfl hh (fa rfl) rfl) fun _ => ?_
 refine Mg c5 (fQ rfl hh (sc rfl) rfl) fun _ => ?_
 refine Mg c5 (bE 1 rfl hh (fa rfl) rfl) fun _ => ?_
 refine dQ (od := odC [0] false (fSl bB a0.AT) [dA]) (ps := [0]) (φ := fSl bB a0.AT) rfl (fun _ => rfl) ⟨_, _, rfl, rfl, c5⟩ rfl rfl (aZ rfl hh (sc rfl) rfl Ent.rfl) (fun _ => ?_)
 refine Mg c5 (eB rfl hh (us rfl)) fun _ => ?_
 refine Mg c5 (eV rfl hh hh) fun _ => ?_
 refine My (bG rfl hh c5 hh) fun _ => ?_
 refine M1 ?_
 intros
 refine Mg c6 (bE 0 rfl hh (fa rfl) rfl) fun _ => ?_
 refine dQ (od := odC [0] false (fSl aW a0.AP) [dA]) (ps := [0]) (φ := fSl aW a0.AP) rfl (fun _ => rfl) ⟨_, _, rfl, rfl, c6⟩ rfl rfl (aZ rfl hh (sc rfl) rfl Ent.rfl) (fun _ => ?_)
 refine Mg c6 (bC rfl hh) fun _ => ?_
 refine Mg c6 (cF rfl hh hh (el rfl) h3) fun _ => ?_
 refine Mg c6 (iL (t' := tI) (z := y3.Ap) rfl hh (fa rfl) rfl) fun _ => ?_
 refine Mg c6 (fQ rfl hh (sc rfl) rfl) fun _ => ?_
 refine Mg c6 (qU rfl hh hh) fun _ => ?_
 refine My (bG rfl hh c6 hh) fun _ => ?_
 refine M1 ?_
 intros
 refine Mt c7 fun _ => ?_
 refine Mt c7 fun _ => ?_
 refine Mt c7 fun _ => ?_
 refine Mt c7 fun _ => ?_
 refine Mt c7 fun _ => ?_
 refine Mt c7 fun _ => ?_
 refine Mt c7 fun _ => ?_
 refine My (bZ rfl hh c7 hh) fun _ => ?_
 revert H; refine B12 fun r3 H e3 => ?_
 cases e3; cases Hr1
 cases H
 refine aH [] (by decide) ?_
 exact To
 exact fk
 kernel_rfl
 revert H; refine bs fun y4 h4 H => ?_
 apply bL (ods := [_, _, _, _, _, _, _, _, _, _, _, _, _, _, _, _, _, _, _, _, _, _, _, _, _, _, _, _, _, _, _, _, _, _, _, _, _]) 37 0 1 bM rfl rfl rfl
 refine ND ?_
 refine M3 ?_
 intros
 refine My (cF rfl hh hh (el rfl) h1) fun _ => ?_
 refine M4 ?_
 intros
 refine Mg c5 (bE 0 rfl hh (fa rfl) rfl) fun _ => ?_
 refine dQ (od := odC [0] false (fSl aW a0.AP) [dA]) (ps := [0]) (φ := fSl aW a0.AP) rfl (fun _ => rfl) ⟨_, _, rfl, rfl, c5⟩ rfl rfl (aZ rfl hh (sc rfl) rfl Ent.rfl) (fun _ => ?_)
 refine Mg c5 (bC rfl hh) fun _ => ?_
 refine Mg c5 (cF rfl hh hh (el rfl) h2) fun _ => ?_
 refine Mg c5 (iL (t' := tI) (z := y2.At) rfl hh (fa rfl) rfl) fun _ => ?_
 refine Mg c5 (fQ rfl hh (sc rfl) rfl) fun _ => ?_
 refine Mg c5 (bE 1 rfl hh (fa rfl) rfl) fun _ => ?_
 refine dQ (od := odC [0] false (fSl bB a0.AT) [dA]) (ps := [0]) (φ := fSl bB a0.AT) rfl (fun _ => rfl) ⟨_, _, rfl, rfl, c5⟩ rfl rfl (aZ rfl hh (sc rfl) rfl Ent.rfl) (fun _ => ?_)
 refine Mg c5 (eB rfl hh (us rfl)) fun _ => ?_
 refine Mg c5 (eV rfl hh hh) fun _ => ?_
 refine My (bG rfl hh c5 hh) fun _ => ?_
 refine M1 ?_
 intros
 refine Mg c6 (bE 0 rfl hh (fa rfl) rfl) fun _ => ?_
 refine dQ (od := odC [0] false (fSl aW a0.AP) [dA]) (ps := [0]) (φ := fSl aW a0.AP) rfl (fun _ => rfl) ⟨_, _, rfl, rfl, c6⟩ rfl rfl (aZ rfl hh (sc rfl) rfl Ent.rfl) (fun _ => ?_)
 refine Mg c6 (bC rfl hh) fun _ => ?_
 refine Mg c6 (cF rfl hh hh (el rfl) h3) fun _ => ?_
 refine Mg c6 (iL (t' := tI) (z := y3.Ap) rfl hh (fa rfl) rfl) fun _ => ?_
 refine Mg c6 (fQ rfl hh (sc rfl) rfl) fun _ => ?_
 refine Mg c6 (qU rfl hh hh) fun _ => ?_
 refine My (bG rfl hh c6 hh) fun _ => ?_
 refine M1 ?_
 intros
 refine Mg c7 (bE 0 rfl hh (fa rfl) rfl) fun _ => ?_
 refine dQ (od := odC [0] false (fSl aW a0.AP) [dA]) (ps := [0]) (φ := fSl aW a0.AP) rfl (fun _ => rfl) ⟨_, _, rfl, rfl, c7⟩ rfl rfl (aZ rfl hh (sc rfl) rfl Ent.rfl) (fun _ => ?_)
 refine Mg c7 (bC rfl hh) fun _ => ?_
 refine Mg c7 (cF rfl hh hh (el rfl) h4) fun _ => ?_
 refine Mg c7 (iL (t' := tI) (z := y4.Ap) rfl hh (fa rfl) rfl) fun _ => ?_
 refine Mg c7 (fQ rfl hh (sc rfl) rfl) fun _ => ?_
 refine Mg c7 (eV rfl hh hh) fun _ => ?_
 refine My (bG rfl hh c7 hh) fun _ => ?_
 revert H; refine I2 (fun c8 H => ?_) fun c8 H => ?_
 refine cL hh c8 ?_
 revert H; refine B9 fun r4 H e4 => ?_
 cases e4; cases Hr1
 cases H
 refine aH [] (by decide) ?_
 exact To
 refine cM hh c8 ?_
 revert H; refine B5 fun z1 h5 H => ?_
 refine Yy (dT rfl hh hh h5) ?_
 refine Z2 ?_
 exact Tm ((k1, z1)) ⟨H, ls⟩
 exact fk
 kernel_rfl
 refine cM hh c4 ?_
 refine Z5 ?_
 exact Tm (()) (ij H)
 clear H; intro i hi; subst o1; have H := Hr1; clear Hr1; try dsimp only at H
 try dsimp only
 revert H; refine bs fun o2 H Hr2 => ?_
 refine aP (ι := Unit) (fun i => o2 = Sum.inl ()) (fun i => [(1, fEq (ptr b1))]) (fun i => [aD b1 130 [fSl aW a0.AP, fSl bB a0.AT, fSl bF a0.AS]]) ?_ ?_
 refine Z4 ?_
 refine Tl (ι := Nat × Int) (fun i => nF a0 i.1 i.2 = _) (fun i => i.1) (fun i => [(1, fEq (ptr b1)), (4, fI i.2)]) (fun i => [aD b1 130 [fSl aW a0.AP, fSl bB a0.AT, fSl bF a0.AS]]) (AA, 0) H ?_
 clear H; rintro ⟨k2, x4⟩ H
 replace H : nF a0 k2 x4 = _ := H
 try dsimp only
 obtain _ | k2 := k2
 rw [nF] at H; cases H
 rw [nF] at H
 refine aJ ?_
 revert H; refine I7 (fun c9 H => ?_) fun c9 H => ?_
 refine cL hh c9 ?_
 refine Z2 ?_
 refine aJ ?_
 revert H; refine B5 fun y5 h6 H => ?_
 refine Yy (cF rfl hh hh (el rfl) h6) ?_
 revert H; refine I4 (fun c10 H => ?_) fun c10 H => ?_
 refine Yt c10 ?_
 refine Yt c10 ?_
 refine Yt c10 ?_
 refine Yt c10 ?_
 refine Yt c10 ?_
 refine Yt c10 ?_
 refine Yt c10 ?_
 refine Yt c10 ?_
 refine Yy (bZ rfl hh c10 hh) ?_
 revert H; refine B11 fun r5 H e5 => ?_
 cases e5; cases Hr2
 cases H
 refine aH [] (by decide) ?_
 exact To
 refine Yg c10 (bE 1 rfl hh (fa rfl) rfl) ?_
 refine Yh 0 rfl c10 (aZ rfl hh (sc rfl) rfl Ent.rfl) ?_
 refine Yg c10 (bC rfl hh) ?_
 revert H; refine bs fun y6 h7 H => ?_
 refine Yg c10 (cF rfl hh hh (el rfl) h7) ?_
 refine Yg c10 (iL (t' := tI) (z := y6.In) rfl hh (fa rfl) rfl) ?_
 refine Yg c10 (fQ rfl hh (sc rfl) rfl) ?_
 refine Yg c10 (bC rfl hh) ?_
 refine Yg c10 (eV rfl hh hh) ?_
 refine Yy (bG rfl hh c10 hh) ?_
 revert H; refine I1 (fun c11 H => ?_) fun c11 H => ?_
 refine cL hh c11 ?_
 revert H; refine B9 fun r6 H e6 => ?_
 cases e6; cases Hr2
 cases H
 refine aH [] (by decide) ?_
 exact To
 refine cM hh c11 ?_
 revert H; refine B5 fun z2 h8 H => ?_
 refine Yy (dT rfl hh hh h8) ?_
 refine Z2 ?_
 exact Tm ((k2, z2)) ⟨H, ls⟩
 refine cM hh c9 ?_
 refine Z5 ?_
 exact Tm (()) (ij H)
 clear H; intro i hi; subst o2; have H := Hr2; clear Hr2; try dsimp only at H
 try dsimp only
 revert H; refine B4 fun y7 h9 H => ?_
 refine Tn (lL (t := aN) (z := false) rfl hh (et rfl) rfl wD rfl h9) fun b2 => ?_
 generalize (Value.slice (some ⟨b2, 0, none⟩) _ _) = v1
 refine aE 0 rfl (fun hc_v1 => ?_)
 revert H; refine B2 fun o3 H Hr3 => ?_
 refine aP (ι := List Bool) (fun i => o3 = Sum.inl i) (fun i => [(5, fEq v1)]) (fun i => [aD b1 130 [fSl aW a0.AP, fSl bB a0.AT, fSl bF a0.AS], aB v1 4 aN i]) ?_ ?_
 refine Z4 ?_
 refine aH [1, 0] (by decide) ?_
 refine Tl (ι := Nat × List Bool × Int) (fun i => lU AA a0 i.1 i.2.1 i.2.2 = _) (fun i => i.1) (fun i => [(1, fEq (ptr b1)), (5, fEq v1), (6, fI i.2.2)]) (fun i => [aD b1 130 [fSl aW a0.AP, fSl bB a0.AT, fSl bF a0.AS], aB v1 4 aN i.2.1]) (AA, y7, 0) H ?_
 clear H; rintro ⟨k3, x8, x9⟩ H
 replace H : lU AA a0 k3 x8 x9 = _ := H
 try dsimp only
 obtain _ | k3 := k3
 rw [lU] at H; cases H
 rw [lU] at H
 refine aJ ?_
 revert H; refine I7 (fun c12 H => ?_) fun c12 H => ?_
 refine cL hh c12 ?_
 revert H; refine B2 fun o4 H Hr4 => ?_
 refine aP (ι := List Bool) (fun i => o4 = Sum.inl i) (fun i => [(1, fEq (ptr b1)), (5, fEq v1), (6, fI x9)]) (fun i => [aD b1 130 [fSl aW a0.AP, fSl bB a0.AT, fSl bF a0.AS], aB v1 4 aN i]) ?_ ?_
 revert H; refine B5 fun y8 h10 H => ?_
 refine Yy (cF rfl hh hh (el rfl) h10) ?_
 refine Z1 ?_
 refine Tn (dG rfl sT rfl) fun b3 => ?_
 refine dV (φs' := [fI y8.At, fSl tI y8.Af, fI y8.Ab]) a1W rfl rfl (has rfl) (has rfl) (aL (aG a1W) (aL (aY) (aL (aG a1W) cE))) (sz rfl) rfl rfl rfl ?_
 refine Z1 ?_
 refine aJ ?_
 revert H; refine I5 (fun c13 H => ?_) fun c13 H => ?_
 refine Yt c13 ?_
 refine Yt c13 ?_
 refine Yt c13 ?_
 refine Yt c13 ?_
 refine Yt c13 ?_
 refine Yt c13 ?_
 refine Yy (bZ rfl hh c13 hh) ?_
 refine Z12 ?_
 revert H; refine B8 fun r7 H e7 => ?_
 cases e7; cases Hr4
 revert H; refine B3 fun r8 H e8 => ?_
 cases e8; cases Hr3
 cases H
 refine aH [] (by decide) ?_
 exact To
 refine Yg c13 (bE 0 rfl hh (fa rfl) rfl) ?_
 refine Yh 0 rfl c13 (aZ rfl hh (sc rfl) rfl Ent.rfl) ?_
 refine Yg c13 (bE 1 rfl hh (fa rfl) rfl) ?_
 refine Yh 1 rfl c13 (aZ rfl hh (sc rfl) rfl Ent.rfl) ?_
 refine Yg c13 (eB rfl hh (us rfl)) ?_
 refine Yg c13 (eV rfl hh hh) ?_
 refine Yy (bG rfl hh c13 hh) ?_
 revert H; refine I1 (fun c14 H => ?_) fun c14 H => ?_
 refine Yt c14 ?_
 refine Yt c14 ?_
 refine Yt c14 ?_
 refine Yt c14 ?_
 refine Yy (bZ rfl hh c14 hh) ?_
 refine Z12 ?_
 revert H; refine B2 fun r9 H e9 => ?_
 cases e9; cases Hr4
 revert H; refine B3 fun r10 H e10 => ?_
 cases e10; cases Hr3
 cases H
 refine aH [] (by decide) ?_
 exact To
 refine Yg c14 (bE 1 rfl hh (fa rfl) rfl) ?_
 refine Yh 0 rfl c14 (aZ rfl hh (sc rfl) rfl Ent.rfl) ?_
 refine Yg c14 (eB rfl hh (us rfl)) ?_
 refine Yg c14 (qU rfl hh hh) ?_
 refine Yy (bG rfl hh c14 hh) ?_
 revert H; refine I1 (fun c15 H => ?_) fun c15 H => ?_
 refine Yt c15 ?_
 refine Yt c15 ?_
 refine Yt c15 ?_
 refine Yt c15 ?_
 refine Yy (bZ rfl hh c15 hh) ?_
 revert H; refine B8 fun r11 H e11 => ?_
 cases e11; cases Hr4
 revert H; refine B3 fun r12 H e12 => ?_
 cases e12; cases Hr3
 cases H
 refine aH [] (by decide) ?_
 exact To
 refine Yg c15 (bE 1 rfl hh (fa rfl) rfl) ?_
 refine Yh 0 rfl c15 (aZ rfl hh (sc rfl) rfl Ent.rfl) ?_
 refine Yg c15 (eB rfl hh (us rfl)) ?_
 refine Yg c15 (eV rfl hh hh) ?_
 refine Yy (bG rfl hh c15 hh) ?_
 revert H; refine I1 (fun c16 H => ?_) fun c16 H => ?_
 refine cL hh c16 ?_
 revert H; refine B6 fun r13 H e13 => ?_
 cases e13; cases Hr4
 revert H; refine B3 fun r14 H e14 => ?_
 cases e14; cases Hr3
 cases H
 refine aH [] (by decide) ?_
 exact To
 refine cM hh c16 ?_
 refine Z6 ?_
 refine Tl (ι := Nat × List Bool × Int) (fun i => jM AA a0 y8 i.1 i.2.1 i.2.2 = _) (fun i => i.1) (fun i => [(1, fEq (ptr b1)), (5, fEq v1), (6, fI x9), (7, fEq (ptr b3)), (8, fI i.2.2)]) (fun i => [aD b3 134 [fI y8.At, fSl tI y8.Af, fI y8.Ab], aD b1 130 [fSl aW a0.AP, fSl bB a0.AT, fSl bF a0.AS], aB v1 4 aN i.2.1]) (AA, x8, 0) H ?_
 clear H; rintro ⟨k4, x13, x14⟩ H
 replace H : jM AA a0 y8 k4 x13 x14 = _ := H
 try dsimp only
 obtain _ | k4 := k4
 rw [jM] at H; cases H
 rw [jM] at H
 refine aJ ?_
 revert H; refine I7 (fun c17 H => ?_) fun c17 H => ?_
 refine cL hh c17 ?_
 revert H; refine B2 fun o5 H Hr5 => ?_
 refine aP (ι := List Bool) (fun i => o5 = Sum.inl i) (fun i => [(1, fEq (ptr b1)), (5, fEq v1), (6, fI x9), (7, fEq (ptr b3)), (8, fI x14)]) (fun i => [aD b3 134 [fI y8.At, fSl tI y8.Af, fI y8.Ab], aD b1 130 [fSl aW a0.AP, fSl bB a0.AT, fSl bF a0.AS], aB v1 4 aN i]) ?_ ?_
 revert H; refine B5 fun y9 h11 H => ?_
 refine Yy (cF rfl hh hh (el rfl) h11) ?_
 refine Z3 ?_
 refine aJ ?_
 refine aJ ?_
 revert H; refine is (fun c18 H => ?_) fun c18 H => ?_
 apply bL (ods := [_, _, _, _, _, _, _, _, _, _, _, _, _, _, _, _, _, _, _, _]) 20 0 3 bM rfl rfl rfl
 refine ND ?_
 refine M3 ?_
 intros
 refine Mt c18 fun _ => ?_
 refine Mt c18 fun _ => ?_
 refine Mt c18 fun _ => ?_
 refine Mt c18 fun _ => ?_
 refine Mt c18 fun _ => ?_
 refine My (bZ rfl hh c18 hh) fun _ => ?_
 refine M8 ?_
 intros
 refine M3 ?_
 intros
 revert H; refine B9 fun r15 H e15 => ?_
 cases e15; cases Hr5
 revert H; refine B4 fun r16 H e16 => ?_
 cases e16; cases Hr4
 revert H; refine B3 fun r17 H e17 => ?_
 cases e17; cases Hr3
 cases H
 refine aH [] (by decide) ?_
 exact To
 exact fk
 kernel_rfl
 revert H; refine is (fun c19 H => ?_) fun c19 H => ?_
 apply bL (ods := [_, _, _, _, _, _, _, _, _, _, _, _, _, _, _, _, _, _, _, _]) 20 0 3 bM rfl rfl rfl
 refine ND ?_
 refine M3 ?_
 intros
 refine Mg c18 (bC rfl hh) fun _ => ?_
 refine Mg c18 (bE 0 rfl hh (fa rfl) rfl) fun _ => ?_
 refine dQ (od := odC [1] false (fSl aW a0.AP) [dA]) (ps := [1]) (φ := fSl aW a0.AP) rfl (fun _ => rfl) ⟨_, _, rfl, rfl, c18⟩ rfl rfl (aZ rfl hh (sc rfl) rfl Ent.rfl) (fun _ => ?_)
 refine Mg c18 (eB rfl hh (us rfl)) fun _ => ?_
 refine Mg c18 (gZ rfl hh hh) fun _ => ?_
 refine My (bG rfl hh c18 hh) fun _ => ?_
 refine M1 ?_
 intros
 refine Mt c19 fun _ => ?_
 refine Mt c19 fun _ => ?_
 refine Mt c19 fun _ => ?_
 refine Mt c19 fun _ => ?_
 refine Mt c19 fun _ => ?_
 refine Mt c19 fun _ => ?_
 refine Mt c19 fun _ => ?_
 refine Mt c19 fun _ => ?_
 refine Mt c19 fun _ => ?_
 refine My (bZ rfl hh c19 hh) fun _ => ?_
 revert H; refine B9 fun r18 H e18 => ?_
 cases e18; cases Hr5
 revert H; refine B4 fun r19 H e19 => ?_
 cases e19; cases Hr4
 revert H; refine B3 fun r20 H e20 => ?_
 cases e20; cases Hr3
 cases H
 refine aH [] (by decide) ?_
 exact To
 exact fk
 kernel_rfl
 revert H; refine bs fun y10 h12 H => ?_
 apply bL (ods := [_, _, _, _, _, _, _, _, _, _, _, _, _, _, _, _, _, _, _, _]) 20 0 3 bM rfl rfl rfl
 refine ND ?_
 refine M3 ?_
 intros
 refine Mg c18 (bC rfl hh) fun _ => ?_
 refine Mg c18 (bE 0 rfl hh (fa rfl) rfl) fun _ => ?_
 refine dQ (od := odC [1] false (fSl aW a0.AP) [dA]) (ps := [1]) (φ := fSl aW a0.AP) rfl (fun _ => rfl) ⟨_, _, rfl, rfl, c18⟩ rfl rfl (aZ rfl hh (sc rfl) rfl Ent.rfl) (fun _ => ?_)
 refine Mg c18 (eB rfl hh (us rfl)) fun _ => ?_
 refine Mg c18 (gZ rfl hh hh) fun _ => ?_
 refine My (bG rfl hh c18 hh) fun _ => ?_
 refine M1 ?_
 intros
 refine Mg c19 (bE 0 rfl hh (fa rfl) rfl) fun _ => ?_
 refine dQ (od := odC [1] false (fSl aW a0.AP) [dA]) (ps := [1]) (φ := fSl aW a0.AP) rfl (fun _ => rfl) ⟨_, _, rfl, rfl, c19⟩ rfl rfl (aZ rfl hh (sc rfl) rfl Ent.rfl) (fun _ => ?_)
 refine Mg c19 (bC rfl hh) fun _ => ?_
 refine Mg c19 (cF rfl hh hh (el rfl) h12) fun _ => ?_
 refine Mg c19 (iL (t' := tI) (z := y10.At) rfl hh (fa rfl) rfl) fun _ => ?_
 refine Mg c19 (fQ rfl hh (sc rfl) rfl) fun _ => ?_
 refine Mg c19 (bE 0 rfl hh (fa rfl) rfl) fun _ => ?_
 refine dQ (od := odC [0] false (fI y8.At) [dA]) (ps := [0]) (φ := fI y8.At) rfl (fun _ => rfl) ⟨_, _, rfl, rfl, c19⟩ rfl rfl (aZ rfl hh (sc rfl) rfl Ent.rfl) (fun _ => ?_)
 refine Mg c19 (rU rfl hh hh) fun _ => ?_
 refine My (bG rfl hh c19 hh) fun _ => ?_
 revert H; refine I2 (fun c20 H => ?_) fun c20 H => ?_
 refine cL hh c20 ?_
 revert H; refine B6 fun r21 H e21 => ?_
 cases e21; cases Hr5
 revert H; refine B4 fun r22 H e22 => ?_
 cases e22; cases Hr4
 revert H; refine B3 fun r23 H e23 => ?_
 cases e23; cases Hr3
 cases H
 refine aH [] (by decide) ?_
 exact To
 refine cM hh c20 ?_
 revert H; refine B2 fun o6 H Hr6 => ?_
 refine aP (ι := Unit) (fun i => o6 = Sum.inl ()) (fun i => [(1, fEq (ptr b1)), (5, fEq v1), (6, fI x9), (7, fEq (ptr b3)), (8, fI x14), (9, fI y9)]) (fun i => [aD b3 134 [fI y8.At, fSl tI y8.Af, fI y8.Ab], aD b1 130 [fSl aW a0.AP, fSl bB a0.AT, fSl bF a0.AS], aB v1 4 aN x13]) ?_ ?_
 refine Z4 ?_
 refine Tl (ι := Nat × Int) (fun i => mY y8 x14 y9 i.1 i.2 = _) (fun i => i.1) (fun i => [(1, fEq (ptr b1)), (5, fEq v1), (6, fI x9), (7, fEq (ptr b3)), (8, fI x14), (9, fI y9), (10, fI i.2)]) (fun i => [aD b3 134 [fI y8.At, fSl tI y8.Af, fI y8.Ab], aD b1 130 [fSl aW a0.AP, fSl bB a0.AT, fSl bF a0.AS], aB v1 4 aN x13]) (AA, 0) H ?_
 clear H; rintro ⟨k5, x17⟩ H
 replace H : mY y8 x14 y9 k5 x17 = _ := H
 try dsimp only
 obtain _ | k5 := k5
 rw [mY] at H; cases H
 rw [mY] at H
 refine aJ ?_
 revert H; refine I5 (fun c21 H => ?_) fun c21 H => ?_
 refine cL hh c21 ?_
 refine Z2 ?_
 refine aJ ?_
 revert H; refine B5 fun y11 h13 H => ?_
 refine Yy (cF rfl hh hh (el rfl) h13) ?_
 revert H; refine I4 (fun c22 H => ?_) fun c22 H => ?_
 refine cL hh c22 ?_
 revert H; refine B9 fun r24 H e24 => ?_
 cases e24; cases Hr6
 revert H; refine B2 fun r25 H e25 => ?_
 cases e25; cases Hr5
 revert H; refine B4 fun r26 H e26 => ?_
 cases e26; cases Hr4
 revert H; refine B3 fun r27 H e27 => ?_
 cases e27; cases Hr3
 cases H
 refine aH [] (by decide) ?_
 exact To
 refine cM hh c22 ?_
 revert H; refine B5 fun z3 h14 H => ?_
 refine Yy (dT rfl hh hh h14) ?_
 refine Z2 ?_
 exact Tm ((k5, z3)) ⟨H, ls⟩
 refine cM hh c21 ?_
 refine Z5 ?_
 exact Tm (()) (ij H)
 clear H; intro i hi; subst o6; have H := Hr6; clear Hr6; try dsimp only at H
 try dsimp only
 revert H; refine B3 fun y12 h15 H => ?_
 refine Yo 2 rfl (fZ rfl hh hh (el rfl) h15) ?_
 refine eH ?_
 refine wE (z' := true) a1W rfl rfl rfl (has rfl) (has rfl) (aG a1W) (sz rfl) (eD h15) rfl rfl ?_
 refine Z3 ?_
 refine aH [1, 2, 0] (by decide) ?_
 exact Tm (x13.set y9.toNat true) (ij H)
 exact fk
 kernel_rfl
 clear H; intro x15 hi; subst o5; have H := Hr5; clear Hr5; try dsimp only at H
 try dsimp only
 revert H; refine B2 fun z4 h16 H => ?_
 refine Yy (dT rfl hh hh h16) ?_
 refine Z2 ?_
 exact Tm ((k4, x15, z4)) ⟨H, ls⟩
 refine cM hh c17 ?_
 refine Z6 ?_
 refine aH [1, 2] (by decide) ?_
 exact Tm (x13) (ij H)
 clear H; intro x10 hi; subst o4; have H := Hr4; clear Hr4; try dsimp only at H
 try dsimp only
 revert H; refine B2 fun z5 h17 H => ?_
 refine Yy (dT rfl hh hh h17) ?_
 refine Z2 ?_
 exact Tm ((k3, x10, z5)) ⟨H, ls⟩
 refine cM hh c12 ?_
 refine Z5 ?_
 exact Tm (x8) (ij H)
 clear H; intro x5 hi; subst o3; have H := Hr3; clear Hr3; try dsimp only at H
 try dsimp only
 revert H; refine bs fun o7 H Hr7 => ?_
 refine aP (ι := Unit) (fun i => o7 = Sum.inl ()) (fun i => []) (fun i => [aD b1 130 [fSl aW a0.AP, fSl bB a0.AT, fSl bF a0.AS]]) ?_ ?_
 refine Z4 ?_
 refine Tl (ι := Nat × Int) (fun i => nI x5 i.1 i.2 = _) (fun i => i.1) (fun i => [(5, fEq v1), (11, fI i.2)]) (fun i => [aD b1 130 [fSl aW a0.AP, fSl bB a0.AT, fSl bF a0.AS], aB v1 4 aN x5]) (AA, 0) H ?_
 clear H; rintro ⟨k6, x19⟩ H
 replace H : nI x5 k6 x19 = _ := H
 try dsimp only
 obtain _ | k6 := k6
 rw [nI] at H; cases H
 rw [nI] at H
 refine aJ ?_
 revert H; refine I6 (fun c23 H => ?_) fun c23 H => ?_
 refine cL hh c23 ?_
 refine Z2 ?_
 refine aJ ?_
 revert H; refine B4 fun y13 h18 H => ?_
 refine Yo 1 rfl (fZ rfl hh hh (el rfl) h18) ?_
 refine Yo 1 rfl (iV rfl rfl hh (sc rfl) (eD h18) rfl) ?_
 refine Z2 ?_
 revert H; refine cs (fun c24 H => ?_) fun c24 H => ?_
 refine cM hh (iQ c24) ?_
 revert H; refine B5 fun z6 h19 H => ?_
 refine Yy (dT rfl hh hh h19) ?_
 refine Z2 ?_
 exact Tm ((k6, z6)) ⟨H, ls⟩
 refine cL hh (iU c24) ?_
 revert H; refine B9 fun r28 H e28 => ?_
 cases e28; cases Hr7
 cases H
 refine aH [] (by decide) ?_
 exact To
 refine cM hh c23 ?_
 refine Z5 ?_
 refine aH [0] (by decide) ?_
 exact Tm (()) (ij H)
 clear H; intro i hi; subst o7; have H := Hr7; clear Hr7; try dsimp only at H
 try dsimp only
 refine Z4 ?_
 cases H
 refine aH [] (by decide) ?_
 exact To
open Go.SX Go.SW Go.Dt
def nW (rec_r03_expNodes : AW -> Int -> Option (Int)) (a0 : AW) (a1 : Int) : Nat -> Int -> Int -> Option (Int)
| 0, _, _ => none
| k + 1, x4, x5 =>
 if x5 < (a0.AU.length : Int) then
  if x4 <= a1 then
   (idx a0.AU x5).bind fun y1 =>
   (chk (a1 - x4)).bind fun z1 =>
   (rec_r03_expNodes y1 z1).bind fun y2 =>
   (chk (x4 + y2)).bind fun z2 =>
   (chk (x5 + 1)).bind fun z3 =>
   nW rec_r03_expNodes a0 a1 k z2 z3
  else
   some x4
 else
  some x4
def lH : Nat -> AW -> Int -> Option (Int)
| 0, _, _ => none
| AA + 1, a0, a1 =>
 (nW (lH AA) a0 a1 AA 1 0).bind fun x1 =>
 some x1
theorem aHu : ∀ (AA : Nat), (∀  (a0 : AW) (a1 : Int) (r : Int) (H : lH AA a0 a1 = some r), FnS Tryz.prog 229 [fSt aO a0, fI a1] [] (fI r) (fun _ => [])) := by
 intro AA
 induction AA with
 | zero => exact fun a0 a1 r H => (by rw [lH] at H; cases H)
 | succ AA ih =>
 have ih_r03_expNodes := ih
 refine ?_
 intro a0 a1 r H
 rw [lH] at H
 refine bS Tryz.func229 rfl Tryz.ntmps229 rfl (fun β => ?_)
 refine Z1 ?_
 refine Tn (cV rfl hh cJ) fun b1 => ?_
 revert H; refine B5 fun o1 H Hr1 => ?_
 refine aP (ι := Int) (fun i => o1 = i) (fun i => [(5, fI i)]) (fun i => [aD b1 124 [fI a0.Op, fI a0.N, eF a0.AU]]) ?_ ?_
 refine Z4 ?_
 refine Tl (ι := Nat × Int × Int) (fun i => nW (lH AA) a0 a1 i.1 i.2.1 i.2.2 = _) (fun i => i.1) (fun i => [(1, fI a1), (2, fEq (ptr b1)), (5, fI i.2.1), (6, fI i.2.2)]) (fun i => [aD b1 124 [fI a0.Op, fI a0.N, eF a0.AU]]) (AA, 1, 0) H ?_
 clear H; rintro ⟨k1, x4, x5⟩ H
 replace H : nW (lH AA) a0 a1 k1 x4 x5 = _ := H
 try dsimp only
 obtain _ | k1 := k1
 rw [nW] at H; cases H
 rw [nW] at H
 refine aJ ?_
 refine Z3 ?_
 refine Yo 0 rfl (aZ rfl hh (sc rfl) rfl (gI fX)) ?_
 revert H; refine I3 (fun c1 H => ?_) fun c1 H => ?_
 revert H; refine I5 (fun c2 H => ?_) fun c2 H => ?_
 refine Z3 ?_
 refine aJ ?_
 refine Z4 ?_
 refine Yo 0 rfl (aZ rfl hh (sc rfl) rfl (gI fX)) ?_
 revert H; refine B1 fun y1 h1 H => ?_
 revert H; refine B4 fun z1 h2 H => ?_
 revert H; refine B1 fun y2 h3 H => ?_
 refine Tc (ih_r03_expNodes _ _ _ h3) ?_
 revert H; refine bs fun z2 h4 H => ?_
 revert H; refine B7 fun z3 h5 H => ?_
 refine Z3 ?_
 exact Tm ((k1, z2, z3)) ⟨H, ls⟩
 refine Z6 ?_
 exact Tm (x4) (ij H)
 refine Z11 ?_
 exact Tm (x4) (ij H)
 clear H; intro x1 hi; subst o1; have H := Hr1; clear Hr1; try dsimp only at H
 try dsimp only
 refine Z5 ?_
 cases H
 refine aH [] (by decide) ?_
 exact To
def nJ (rec_r03_expDepth : AW -> Option (Int)) (a0 : AW) : Nat -> Int -> Int -> Option (Int)
| 0, _, _ => none
| k + 1, x4, x5 =>
 if x5 < (a0.AU.length : Int) then
  (idx a0.AU x5).bind fun y1 =>
  (rec_r03_expDepth y1).bind fun y2 =>
  (chk (x5 + 1)).bind fun z1 =>
  nJ rec_r03_expDepth a0 k (max x4 y2) z1
 else
  some x4
def lJ : Nat -> AW -> Option (Int)
| 0, _ => none
| AA + 1, a0 =>
 (nJ (lJ AA) a0 AA 0 0).bind fun x1 =>
 (chk (x1 + 1)).bind fun z2 =>
 some z2
theorem aHN : ∀ (AA : Nat), (∀  (a0 : AW) (r : Int) (H : lJ AA a0 = some r), FnS Tryz.prog 230 [fSt aO a0] [] (fI r) (fun _ => [])) := by
 intro AA
 induction AA with
 | zero => exact fun a0 r H => (by rw [lJ] at H; cases H)
 | succ AA ih =>
 have ih_r03_expDepth := ih
 refine ?_
 intro a0 r H
 rw [lJ] at H
 refine bS Tryz.func230 rfl Tryz.ntmps230 rfl (fun β => ?_)
 refine Z1 ?_
 refine Tn (cV rfl hh cJ) fun b1 => ?_
 revert H; refine B5 fun o1 H Hr1 => ?_
 refine aP (ι := Int) (fun i => o1 = i) (fun i => [(3, fI i)]) (fun i => [aD b1 124 [fI a0.Op, fI a0.N, eF a0.AU]]) ?_ ?_
 refine Z4 ?_
 refine Tl (ι := Nat × Int × Int) (fun i => nJ (lJ AA) a0 i.1 i.2.1 i.2.2 = _) (fun i => i.1) (fun i => [(1, fEq (ptr b1)), (3, fI i.2.1), (4, fI i.2.2)]) (fun i => [aD b1 124 [fI a0.Op, fI a0.N, eF a0.AU]]) (AA, 0, 0) H ?_
 clear H; rintro ⟨k1, x4, x5⟩ H
 replace H : nJ (lJ AA) a0 k1 x4 x5 = _ := H
 try dsimp only
 obtain _ | k1 := k1
 rw [nJ] at H; cases H
 rw [nJ] at H
 refine aJ ?_
 refine Z3 ?_
 refine Yo 0 rfl (aZ rfl hh (sc rfl) rfl (gI fX)) ?_
 revert H; refine I3 (fun c1 H => ?_) fun c1 H => ?_
 refine Z3 ?_
 refine aJ ?_
 refine Z4 ?_
 refine Yo 0 rfl (aZ rfl hh (sc rfl) rfl (gI fX)) ?_
 revert H; refine B1 fun y1 h1 H => ?_
 revert H; refine B2 fun y2 h2 H => ?_
 refine Tc (ih_r03_expDepth _ _ h2) ?_
 refine Yy (o_max rfl hh hh) ?_
 revert H; refine B6 fun z1 h3 H => ?_
 refine Z3 ?_
 exact Tm ((k1, max x4 y2, z1)) ⟨H, ls⟩
 refine Z6 ?_
 exact Tm (x4) (ij H)
 clear H; intro x1 hi; subst o1; have H := Hr1; clear Hr1; try dsimp only at H
 try dsimp only
 revert H; refine B2 fun z2 h4 H => ?_
 refine Z4 ?_
 cases H
 refine aH [] (by decide) ?_
 exact To
def oP : Nat -> AW -> Int -> Option (Bool)
| 0, _, _ => none
| AA + 1, a0, a1 =>
 if a0.Op = 1 then
  (if (a0.AU.length : Int) = 0 then
   if (-1000000000) <= a0.N then
    some (decide (a0.N <= 1000000000))
   else
    some false
  else
   some false).bind fun x1 =>
  some x1
 else
  if a0.Op = 2 then
   (if (a0.AU.length : Int) = 0 then
    if 0 <= a0.N then
     some (decide (a0.N < a1))
    else
     some false
   else
    some false).bind fun x2 =>
   some x2
  else
   if a0.Op < 3 then
    some false
   else
    if 7 < a0.Op then
     some false
    else
     if (a0.AU.length : Int) ≠ 2 then
      some false
     else
      if a0.N ≠ 0 then
       some false
      else
       ((idx a0.AU 0).bind fun y1 =>
       ((oP AA) y1 a1).bind fun y2 =>
       bif y2 then
        (idx a0.AU 1).bind fun y3 =>
        ((oP AA) y3 a1).bind fun y4 =>
        some y4
       else
        some false).bind fun x3 =>
       some x3
theorem aFA : ∀ (AA : Nat), (∀  (a0 : AW) (a1 : Int) (r : Bool) (H : oP AA a0 a1 = some r), FnS Tryz.prog 231 [fSt aO a0, fI a1] [] (aF r) (fun _ => [])) := by
 intro AA
 induction AA with
 | zero => exact fun a0 a1 r H => (by rw [oP] at H; cases H)
 | succ AA ih =>
 have ih_r03_expFormed := ih
 refine ?_
 intro a0 a1 r H
 rw [oP] at H
 refine bS Tryz.func231 rfl Tryz.ntmps231 rfl (fun β => ?_)
 refine Z1 ?_
 refine Tn (cV rfl hh cJ) fun b1 => ?_
 refine Z2 ?_
 refine aJ ?_
 revert H; refine I7 (fun c1 H => ?_) fun c1 H => ?_
 revert H; refine B1 fun o1 H Hr1 => ?_
 refine aP (ι := Bool) (fun i => o1 = i) (fun i => [(4, aF i)]) (fun i => [aD b1 124 [fI a0.Op, fI a0.N, eF a0.AU]]) ?_ ?_
 refine Z2 ?_
 refine Yo 0 rfl (aZ rfl hh (sc rfl) rfl (gI fX)) ?_
 revert H; refine I3 (fun c2 H => ?_) fun c2 H => ?_
 revert H; refine I5 (fun c3 H => ?_) fun c3 H => ?_
 refine Z6 ?_
 exact Tm (decide (a0.N <= 1000000000)) (ij H)
 refine Z6 ?_
 exact Tm (false) (ij H)
 refine Z11 ?_
 exact Tm (false) (ij H)
 clear H; intro x1 hi; subst o1; have H := Hr1; clear Hr1; try dsimp only at H
 try dsimp only
 refine Z3 ?_
 cases H
 refine aH [] (by decide) ?_
 exact To
 revert H; refine I7 (fun c4 H => ?_) fun c4 H => ?_
 revert H; refine B1 fun o2 H Hr2 => ?_
 refine aP (ι := Bool) (fun i => o2 = i) (fun i => [(4, aF i)]) (fun i => [aD b1 124 [fI a0.Op, fI a0.N, eF a0.AU]]) ?_ ?_
 refine Z2 ?_
 refine Yo 0 rfl (aZ rfl hh (sc rfl) rfl (gI fX)) ?_
 revert H; refine I3 (fun c5 H => ?_) fun c5 H => ?_
 revert H; refine I5 (fun c6 H => ?_) fun c6 H => ?_
 refine Z7 ?_
 exact Tm (decide (a0.N < a1)) (ij H)
 refine Z7 ?_
 exact Tm (false) (ij H)
 refine Z12 ?_
 exact Tm (false) (ij H)
 clear H; intro x2 hi; subst o2; have H := Hr2; clear Hr2; try dsimp only at H
 try dsimp only
 refine Z3 ?_
 cases H
 refine aH [] (by decide) ?_
 exact To
 revert H; refine I6 (fun c7 H => ?_) fun c7 H => ?_
 refine Z12 ?_
 refine Z12 ?_
 cases H
 refine aH [] (by decide) ?_
 exact To
 revert H; refine I5 (fun c8 H => ?_) fun c8 H => ?_
 refine Z12 ?_
 refine Z7 ?_
 cases H
 refine aH [] (by decide) ?_
 exact To
 refine Z1 ?_
 refine Yh 0 rfl c8 (aZ rfl hh (sc rfl) rfl (gI fX)) ?_
 revert H; refine I4 (fun c9 H => ?_) fun c9 H => ?_
 refine Z12 ?_
 refine Z1 ?_
 cases H
 refine aH [] (by decide) ?_
 exact To
 revert H; refine I6 (fun c10 H => ?_) fun c10 H => ?_
 refine Z7 ?_
 cases H
 refine aH [] (by decide) ?_
 exact To
 revert H; refine B4 fun o3 H Hr3 => ?_
 refine aP (ι := Bool) (fun i => o3 = i) (fun i => [(4, aF i)]) (fun i => [aD b1 124 [fI a0.Op, fI a0.N, eF a0.AU]]) ?_ ?_
 refine Z2 ?_
 refine Yo 0 rfl (aZ rfl hh (sc rfl) rfl (gI fX)) ?_
 revert H; refine bs fun y1 h1 H => ?_
 revert H; refine B3 fun y2 h2 H => ?_
 refine Tc (ih_r03_expFormed _ _ _ h2) ?_
 refine Z1 ?_
 revert H; refine cs (fun c11 H => ?_) fun c11 H => ?_
 refine Z1 ?_
 refine Yh 0 rfl c11 (aZ rfl hh (sc rfl) rfl (gI fX)) ?_
 revert H; refine bs fun y3 h3 H => ?_
 revert H; refine B3 fun y4 h4 H => ?_
 refine Tc (ih_r03_expFormed _ _ _ h4) ?_
 refine Z3 ?_
 exact Tm (y4) (ij H)
 refine Z9 ?_
 exact Tm (false) (ij H)
 clear H; intro x3 hi; subst o3; have H := Hr3; clear Hr3; try dsimp only at H
 try dsimp only
 refine Z1 ?_
 cases H
 refine aH [] (by decide) ?_
 exact To
def tL (AA : Nat) (a0 : AW) (a1 : Int) : Option (Bool) :=
 ((lH AA (⟨a0.Op, a0.N, a0.AU⟩ : AW) 60).bind fun y1 =>
 if y1 <= 60 then
  (lJ AA (⟨a0.Op, a0.N, a0.AU⟩ : AW)).bind fun y2 =>
  if y2 <= 12 then
   (oP AA (⟨a0.Op, a0.N, a0.AU⟩ : AW) a1).bind fun y3 =>
   some y3
  else
   some false
 else
  some false).bind fun x1 =>
 some x1
theorem aDy (AA : Nat)  (a0 : AW) (a1 : Int) (r : Bool) (H : tL AA a0 a1 = some r) : FnS Tryz.prog 189 [fSt aO a0, fI a1] [] (aF r) (fun _ => []) := by
 unfold tL at H
 refine bS Tryz.func189 rfl Tryz.ntmps189 rfl (fun β => ?_)
 refine Z1 ?_
 refine Tn (cV rfl hh cJ) fun b1 => ?_
 revert H; refine B2 fun o1 H Hr1 => ?_
 refine aP (ι := Bool) (fun i => o1 = i) (fun i => [(4, aF i)]) (fun i => [aD b1 124 [fI a0.Op, fI a0.N, eF a0.AU]]) ?_ ?_
 revert H; refine B2 fun y1 h1 H => ?_
 refine Tc (aHu _ _ _ _ h1) ?_
 revert H; refine I2 (fun c1 H => ?_) fun c1 H => ?_
 revert H; refine B1 fun y2 h2 H => ?_
 refine Tc (aHN _ _ _ h2) ?_
 revert H; refine I3 (fun c2 H => ?_) fun c2 H => ?_
 revert H; refine B2 fun y3 h3 H => ?_
 refine Tc (aFA _ _ _ _ h3) ?_
 refine Z3 ?_
 exact Tm (y3) (ij H)
 refine Z6 ?_
 exact Tm (false) (ij H)
 refine Z11 ?_
 exact Tm (false) (ij H)
 clear H; intro x1 hi; subst o1; have H := Hr1; clear Hr1; try dsimp only at H
 try dsimp only
 refine Z1 ?_
 cases H
 refine aH [] (by decide) ?_
 exact To
def tO (a0 : Int) : Option (Int × Int × Bool) :=
 (if a0 = 1 then
  some (decide (a0 = 1))
 else
  some (decide (a0 = 7))).bind fun x1 =>
 bif x1 then
  some (0, 0, true)
 else
  if a0 = 2 then
   some ((-1), 0, true)
  else
   if a0 = 3 then
    some (0, 2, true)
   else
    if a0 = 5 then
     some (1, 2, true)
    else
     (if a0 = 4 then
      some (decide (a0 = 4))
     else
      if a0 = 6 then
       some (decide (a0 = 6))
      else
       some (decide (a0 = 8))).bind fun x2 =>
     bif x2 then
      some (0, 1, true)
     else
      some (0, 0, false)
theorem aGb  (a0 : Int) (r : Int × Int × Bool) (H : tO a0 = some r) : FnS Tryz.prog 201 [fI a0] [] (eM [fI r.1, fI r.2.1, aF r.2.2]) (fun _ => []) := by
 unfold tO at H
 refine bS Tryz.func201 rfl Tryz.ntmps201 rfl (fun β => ?_)
 refine Z5 ?_
 refine aJ ?_
 revert H; refine B4 fun o1 H Hr1 => ?_
 refine aP (ι := Bool) (fun i => o1 = i) (fun i => [(5, fI a0), (6, aF i)]) (fun i => []) ?_ ?_
 revert H; refine I4 (fun c1 H => ?_) fun c1 H => ?_
 refine Z3 ?_
 exact Tm (decide (a0 = 1)) (ij H)
 refine Z5 ?_
 exact Tm (decide (a0 = 7)) (ij H)
 clear H; intro x1 hi; subst o1; have H := Hr1; clear Hr1; try dsimp only at H
 try dsimp only
 revert H; refine cs (fun c2 H => ?_) fun c2 H => ?_
 refine Z9 ?_
 cases H
 exact tB rfl (bU rfl) (bU rfl) (bU rfl) rfl
 revert H; refine I5 (fun c3 H => ?_) fun c3 H => ?_
 refine Z9 ?_
 cases H
 exact tB rfl (bU rfl) (bU rfl) (bU rfl) rfl
 revert H; refine I5 (fun c4 H => ?_) fun c4 H => ?_
 refine Z9 ?_
 cases H
 exact tB rfl (bU rfl) (bU rfl) (bU rfl) rfl
 revert H; refine I5 (fun c5 H => ?_) fun c5 H => ?_
 refine Z9 ?_
 cases H
 exact tB rfl (bU rfl) (bU rfl) (bU rfl) rfl
 revert H; refine B1 fun o2 H Hr2 => ?_
 refine aP (ι := Bool) (fun i => o2 = i) (fun i => [(15, aF i)]) (fun i => []) ?_ ?_
 revert H; refine I4 (fun c6 H => ?_) fun c6 H => ?_
 refine Z3 ?_
 exact Tm (decide (a0 = 4)) (ij H)
 revert H; refine I5 (fun c7 H => ?_) fun c7 H => ?_
 refine Z3 ?_
 exact Tm (decide (a0 = 6)) (ij H)
 refine Z5 ?_
 exact Tm (decide (a0 = 8)) (ij H)
 clear H; intro x2 hi; subst o2; have H := Hr2; clear Hr2; try dsimp only at H
 try dsimp only
 revert H; refine cs (fun c8 H => ?_) fun c8 H => ?_
 refine Z9 ?_
 cases H
 exact tB rfl (bU rfl) (bU rfl) (bU rfl) rfl
 refine Z10 ?_
 cases H
 exact tB rfl (bU rfl) (bU rfl) (bU rfl) rfl
def sK (a0 : AN) : Option (Int) :=
 (chk ((a0.AP.length : Int) + (a0.AT.length : Int))).bind fun z1 =>
 some z1
theorem aGK  (a0 : AN) (r : Int) (H : sK a0 = some r) : FnS Tryz.prog 202 [fSt aA a0] [] (fI r) (fun _ => []) := by
 unfold sK at H
 refine bS Tryz.func202 rfl Tryz.ntmps202 rfl (fun β => ?_)
 refine Z1 ?_
 refine Tn (cV rfl hh cJ) fun b1 => ?_
 revert H; refine B9 fun z1 h1 H => ?_
 refine Z4 ?_
 cases H
 refine aH [] (by decide) ?_
 exact To
def oG (a0 : AN) (a1 : Al) : Nat -> Int -> Int -> Option (Int)
| 0, _, _ => none
| k + 1, x4, x5 =>
 if x5 < (a1.Af.length : Int) then
  (idx a1.Af x5).bind fun y1 =>
  (idx a0.AP y1).bind fun y2 =>
  (chk (x4 + y2.Ap)).bind fun z1 =>
  (chk (x5 + 1)).bind fun z2 =>
  oG a0 a1 k z1 z2
 else
  some x4
def xJ (AA : Nat) (a0 : AN) (a1 : Al) : Option (Int) :=
 (oG a0 a1 AA 0 0).bind fun x1 =>
 some x1
theorem aHB (AA : Nat)  (a0 : AN) (a1 : Al) (r : Int) (H : xJ AA a0 a1 = some r) : FnS Tryz.prog 249 [fSt aA a0, fSt bF a1] [] (fI r) (fun _ => []) := by
 unfold xJ at H
 refine bS Tryz.func249 rfl Tryz.ntmps249 rfl (fun β => ?_)
 refine Z1 ?_
 refine Tn (cV rfl hh cJ) fun b1 => ?_
 refine Tn (cV rfl hh cJ) fun b2 => ?_
 revert H; refine B5 fun o1 H Hr1 => ?_
 refine aP (ι := Int) (fun i => o1 = i) (fun i => [(5, fI i)]) (fun i => [aD b2 134 [fI a1.At, fSl tI a1.Af, fI a1.Ab], aD b1 130 [fSl aW a0.AP, fSl bB a0.AT, fSl bF a0.AS]]) ?_ ?_
 refine Z4 ?_
 refine Tl (ι := Nat × Int × Int) (fun i => oG a0 a1 i.1 i.2.1 i.2.2 = _) (fun i => i.1) (fun i => [(2, fEq (ptr b1)), (3, fEq (ptr b2)), (5, fI i.2.1), (6, fI i.2.2)]) (fun i => [aD b2 134 [fI a1.At, fSl tI a1.Af, fI a1.Ab], aD b1 130 [fSl aW a0.AP, fSl bB a0.AT, fSl bF a0.AS]]) (AA, 0, 0) H ?_
 clear H; rintro ⟨k1, x4, x5⟩ H
 replace H : oG a0 a1 k1 x4 x5 = _ := H
 try dsimp only
 obtain _ | k1 := k1
 rw [oG] at H; cases H
 rw [oG] at H
 refine aJ ?_
 revert H; refine I7 (fun c1 H => ?_) fun c1 H => ?_
 refine Z3 ?_
 refine aJ ?_
 revert H; refine B1 fun y1 h1 H => ?_
 revert H; refine bs fun y2 h2 H => ?_
 revert H; refine bs fun z1 h3 H => ?_
 apply bL (ods := [_, _, _, _, _, _, _, _, _, _, _, _, _]) 13 0 2 bM rfl rfl rfl
 refine ND ?_
 refine M8 ?_
 intros
 refine M5 ?_
 intros
 revert H; refine B6 fun z2 h4 H => ?_
 refine Z3 ?_
 exact Tm ((k1, z1, z2)) ⟨H, ls⟩
 exact fk
 kernel_rfl
 refine Z6 ?_
 exact Tm (x4) (ij H)
 clear H; intro x1 hi; subst o1; have H := Hr1; clear Hr1; try dsimp only at H
 try dsimp only
 refine Z5 ?_
 cases H
 refine aH [] (by decide) ?_
 exact To
open Go.SX Go.SW Go.Dt
def jC (AA : Nat) (a2 : Int) (y5 : Ae) : Nat -> Int -> Bool -> Option (Bool)
| 0, _, _ => none
| k + 1, x4, x5 =>
 if x4 < (y5.Aa.length : Int) then
  (bif x5 then
   some true
  else
   (idx y5.Aa x4).bind fun y7 =>
   (tL AA y7 a2).bind fun y8 =>
   some (!y8)).bind fun x6 =>
  (chk (x4 + 1)).bind fun z2 =>
  jC AA a2 y5 k z2 x6
 else
  some x5
def iW (rec_r03_look_node : Ah -> Int -> Int -> Option (Ah)) (y5 : Ae) (x7 : Int) : Nat -> Int -> (List ByteArray) -> (List Ae) -> (List AN) -> Int -> (List Int) -> (List Int) -> (List Int) -> Bool -> Option (Ah)
| 0, _, _, _, _, _, _, _, _, _ => none
| k + 1, x26, x27, x28, x29, x30, x31, x32, x33, x34 =>
 if x26 < (y5.AU.length : Int) then
  bif x34 then
   some (⟨(⟨x27, x28, x29, x30⟩ : AM), x31, x32, x33, x34⟩ : Ah)
  else
   (idx y5.AU x26).bind fun y16 =>
   (rec_r03_look_node (⟨(⟨x27, x28, x29, x30⟩ : AM), x31, x32, x33, x34⟩ : Ah) y16 x7).bind fun y17 =>
   (chk (x26 + 1)).bind fun z5 =>
   iW rec_r03_look_node y5 x7 k z5 y17.p.AD y17.p.AB y17.p.AC y17.p.AE y17.AV y17.Ak y17.Aj y17.bad
 else
  some (⟨(⟨x27, x28, x29, x30⟩ : AM), x31, x32, x33, x34⟩ : Ah)
def kB (AA : Nat) (rec_r03_look_node : Ah -> Int -> Int -> Option (Ah)) (a1 : AN) (a2 : Int) : Nat -> Int -> (List ByteArray) -> (List Ae) -> (List AN) -> Int -> (List Int) -> (List Int) -> (List Int) -> Bool -> Option (List ByteArray × List Ae × List AN × Int × List Int × List Int × List Int × Bool)
| 0, _, _, _, _, _, _, _, _, _ => none
| k + 1, x18, x19, x20, x21, x22, x23, x24, x25, x26 =>
 if x18 < (a1.AS.length : Int) then
  bif x26 then
   some (x19, x20, x21, x22, x23, x24, x25, x26)
  else
   (idx a1.AS x18).bind fun y1 =>
   (idx a1.AS x18).bind fun y2 =>
   (xJ AA (⟨a1.AP, a1.AT, a1.AS⟩ : AN) y2).bind fun y3 =>
   (chk (a2 + y3)).bind fun z1 =>
   (rec_r03_look_node (⟨(⟨x19, x20, x21, x22⟩ : AM), x23, x24, x25, x26⟩ : Ah) y1.Ab z1).bind fun y4 =>
   (chk (x18 + 1)).bind fun z2 =>
   kB AA rec_r03_look_node a1 a2 k z2 y4.p.AD y4.p.AB y4.p.AC y4.p.AE y4.AV y4.Ak y4.Aj y4.bad
 else
  some (x19, x20, x21, x22, x23, x24, x25, x26)
def kQ (rec_r03_look_node : Ah -> Int -> Int -> Option (Ah)) (a1 : AN) (a2 : Int) : Nat -> Int -> (List ByteArray) -> (List Ae) -> (List AN) -> Int -> (List Int) -> (List Int) -> (List Int) -> Bool -> Option (Ah)
| 0, _, _, _, _, _, _, _, _, _ => none
| k + 1, x36, x37, x38, x39, x40, x41, x42, x43, x44 =>
 if x36 < (a1.AT.length : Int) then
  bif x44 then
   some (⟨(⟨x37, x38, x39, x40⟩ : AM), x41, x42, x43, x44⟩ : Ah)
  else
   (idx a1.AT x36).bind fun y5 =>
   (rec_r03_look_node (⟨(⟨x37, x38, x39, x40⟩ : AM), x41, x42, x43, x44⟩ : Ah) y5.Ab a2).bind fun y6 =>
   (chk (x36 + 1)).bind fun z3 =>
   kQ rec_r03_look_node a1 a2 k z3 y6.p.AD y6.p.AB y6.p.AC y6.p.AE y6.AV y6.Ak y6.Aj y6.bad
 else
  some (⟨(⟨x37, x38, x39, x40⟩ : AM), x41, x42, x43, x44⟩ : Ah)
mutual
def eR : Nat -> Ah -> Int -> Int -> Option (Ah)
| 0, _, _, _ => none
| AA + 1, a0, a1, a2 =>
 if a1 < 0 then
  some (⟨(⟨a0.p.AD, a0.p.AB, a0.p.AC, a0.p.AE⟩ : AM), a0.AV, a0.Ak, a0.Aj, true⟩ : Ah)
 else
  if (a0.p.AB.length : Int) <= a1 then
   some (⟨(⟨a0.p.AD, a0.p.AB, a0.p.AC, a0.p.AE⟩ : AM), a0.AV, a0.Ak, a0.Aj, true⟩ : Ah)
  else
   (idx a0.Ak a1).bind fun y1 =>
   if 0 < y1 then
    some (⟨(⟨a0.p.AD, a0.p.AB, a0.p.AC, a0.p.AE⟩ : AM), a0.AV, a0.Ak, a0.Aj, true⟩ : Ah)
   else
    (idx a0.Ak a1).bind fun y2 =>
    (chk (y2 + 1)).bind fun z1 =>
    (idx a0.Ak a1).bind fun y3 =>
    (idx a0.AV a1).bind fun y4 =>
    (idx a0.p.AB a1).bind fun y5 =>
    (tO y5.Op).bind fun y6 =>
    (bif !y6.2.2 then
     (some (⟨(⟨a0.p.AD, a0.p.AB, a0.p.AC, a0.p.AE⟩ : AM), a0.AV.set a1.toNat a2, a0.Ak.set a1.toNat z1, a0.Aj, true⟩ : Ah)).bind fun r => some (Sum.inr r)
    else
     if (y5.AU.length : Int) ≠ y6.2.1 then
      (some (⟨(⟨a0.p.AD, a0.p.AB, a0.p.AC, a0.p.AE⟩ : AM), a0.AV.set a1.toNat a2, a0.Ak.set a1.toNat z1, a0.Aj, true⟩ : Ah)).bind fun r => some (Sum.inr r)
     else
      if y6.1 < 0 then
       if 3 < (y5.Aa.length : Int) then
        (some (⟨(⟨a0.p.AD, a0.p.AB, a0.p.AC, a0.p.AE⟩ : AM), a0.AV.set a1.toNat a2, a0.Ak.set a1.toNat z1, a0.Aj, true⟩ : Ah)).bind fun r => some (Sum.inr r)
       else
        if 0 <= y6.1 then
         if (y5.Aa.length : Int) ≠ y6.1 then
          (some (⟨(⟨a0.p.AD, a0.p.AB, a0.p.AC, a0.p.AE⟩ : AM), a0.AV.set a1.toNat a2, a0.Ak.set a1.toNat z1, a0.Aj, true⟩ : Ah)).bind fun r => some (Sum.inr r)
         else
          some (Sum.inl ())
        else
         some (Sum.inl ())
      else
       if 0 <= y6.1 then
        if (y5.Aa.length : Int) ≠ y6.1 then
         (some (⟨(⟨a0.p.AD, a0.p.AB, a0.p.AC, a0.p.AE⟩ : AM), a0.AV.set a1.toNat a2, a0.Ak.set a1.toNat z1, a0.Aj, true⟩ : Ah)).bind fun r => some (Sum.inr r)
        else
         some (Sum.inl ())
       else
        some (Sum.inl ())).bind fun o => match o with
    | Sum.inr r => some r
    | Sum.inl _ =>
    (jC AA a2 y5 AA 0 a0.bad).bind fun x1 =>
    ((if y5.Op = 2 then
     some (decide (y5.Op = 2))
    else
     if y5.Op = 6 then
      some (decide (y5.Op = 6))
     else
      some (decide (y5.Op = 8))).bind fun x16 =>
    bif x16 then
     bif x1 then
      some (Sum.inl (a2, a0.p.AD, a0.p.AB, a0.p.AC, a0.p.AE, a0.AV.set a1.toNat a2, a0.Ak.set a1.toNat z1, a0.Aj, true))
     else
      if y5.N < 0 then
       some (Sum.inl (a2, a0.p.AD, a0.p.AB, a0.p.AC, a0.p.AE, a0.AV.set a1.toNat a2, a0.Ak.set a1.toNat z1, a0.Aj, true))
      else
       some (Sum.inl (a2, a0.p.AD, a0.p.AB, a0.p.AC, a0.p.AE, a0.AV.set a1.toNat a2, a0.Ak.set a1.toNat z1, a0.Aj, decide (a2 <= y5.N)))
    else
     if y5.Op = 4 then
      if y5.N < 0 then
       (some (⟨(⟨a0.p.AD, a0.p.AB, a0.p.AC, a0.p.AE⟩ : AM), a0.AV.set a1.toNat a2, a0.Ak.set a1.toNat z1, a0.Aj, true⟩ : Ah)).bind fun r => some (Sum.inr r)
      else
       if (a0.p.AC.length : Int) <= y5.N then
        (some (⟨(⟨a0.p.AD, a0.p.AB, a0.p.AC, a0.p.AE⟩ : AM), a0.AV.set a1.toNat a2, a0.Ak.set a1.toNat z1, a0.Aj, true⟩ : Ah)).bind fun r => some (Sum.inr r)
       else
        (idx a0.Aj y5.N).bind fun y9 =>
        if 0 < y9 then
         (some (⟨(⟨a0.p.AD, a0.p.AB, a0.p.AC, a0.p.AE⟩ : AM), a0.AV.set a1.toNat a2, a0.Ak.set a1.toNat z1, a0.Aj, true⟩ : Ah)).bind fun r => some (Sum.inr r)
        else
         (idx a0.Aj y5.N).bind fun y10 =>
         (chk (y10 + 1)).bind fun z3 =>
         (idx a0.Aj y5.N).bind fun y11 =>
         (idx a0.p.AC y5.N).bind fun y12 =>
         (sK y12).bind fun y13 =>
         (chk (a2 + y13)).bind fun z4 =>
         (idx a0.p.AC y5.N).bind fun y14 =>
         ((mW AA) (⟨(⟨a0.p.AD, a0.p.AB, a0.p.AC, a0.p.AE⟩ : AM), a0.AV.set a1.toNat a2, a0.Ak.set a1.toNat z1, a0.Aj.set y5.N.toNat z3, x1⟩ : Ah) y14 z4).bind fun y15 =>
         some (Sum.inl (z4, y15.p.AD, y15.p.AB, y15.p.AC, y15.p.AE, y15.AV, y15.Ak, y15.Aj, y15.bad))
     else
      bif x1 then
       some (Sum.inl (a2, a0.p.AD, a0.p.AB, a0.p.AC, a0.p.AE, a0.AV.set a1.toNat a2, a0.Ak.set a1.toNat z1, a0.Aj, true))
      else
       some (Sum.inl (a2, a0.p.AD, a0.p.AB, a0.p.AC, a0.p.AE, a0.AV.set a1.toNat a2, a0.Ak.set a1.toNat z1, a0.Aj, decide (y5.N ≠ 0)))).bind fun o => match o with
    | Sum.inr r => some r
    | Sum.inl (x7, x8, x9, x10, x11, x12, x13, x14, x15) =>
    iW (eR AA) y5 x7 AA 0 x8 x9 x10 x11 x12 x13 x14 x15
def mW : Nat -> Ah -> AN -> Int -> Option (Ah)
| 0, _, _, _ => none
| AA + 1, a0, a1, a2 =>
 (kB AA (eR AA) a1 a2 AA 0 a0.p.AD a0.p.AB a0.p.AC a0.p.AE a0.AV a0.Ak a0.Aj a0.bad).bind fun (x1, x2, x3, x4, x5, x6, x7, x8) =>
 kQ (eR AA) a1 a2 AA 0 x1 x2 x3 x4 x5 x6 x7 x8
end
theorem aGX : ∀ (AA : Nat), (∀ (p0 : Nat) (a0 : Ah) (a1 : Int) (a2 : Int) (r : Ah) (H : eR AA a0 a1 a2 = some r), FnS Tryz.prog 139 [fEq (.pointer (some ⟨p0, 0, none⟩)), fI a1, fI a2] [pP p0 a0] (eM []) (fun _ => [pP p0 r])) /\ (∀ (p0 : Nat) (a0 : Ah) (a1 : AN) (a2 : Int) (r : Ah) (H : mW AA a0 a1 a2 = some r), FnS Tryz.prog 203 [fEq (.pointer (some ⟨p0, 0, none⟩)), fSt aA a1, fI a2] [pP p0 a0] (eM []) (fun _ => [pP p0 r])) := by
 intro AA
 induction AA with
 | zero => exact ⟨fun p0 a0 a1 a2 r H => (by rw [eR] at H; cases H), fun p0 a0 a1 a2 r H => (by rw [mW] at H; cases H)⟩
 | succ AA ih =>
 obtain ⟨ih_r03_look_node, ih_r03_look_def⟩ := ih
 refine ⟨?_, ?_⟩
 intro p0 a0 a1 a2 r H
 rw [eR] at H
 refine bS Tryz.func139 rfl Tryz.ntmps139 rfl (fun β => ?_)
 refine rB (fun v1 v2 v3 => ?_)
 refine aE 1 rfl (fun hc_v1 => ?_)
 refine aE 2 rfl (fun hc_v2 => ?_)
 refine aE 3 rfl (fun hc_v3 => ?_)
 refine aJ ?_
 revert H; refine I4 (fun c1 H => ?_) fun c1 H => ?_
 refine Yt c1 ?_
 refine Yt c1 ?_
 refine Yt c1 ?_
 refine Yt c1 ?_
 refine Yt c1 ?_
 refine Yt c1 ?_
 refine Yt c1 ?_
 refine Yt c1 ?_
 refine Yy (bZ rfl hh c1 hh) ?_
 refine Z12 ?_
 refine Z4 ?_
 refine bK (φs' := [fSl aC a0.p.AD, fSl aK a0.p.AB, fSl aA a0.p.AC, fI a0.p.AE, fEq v1, fEq v2, fEq v3, aF true]) a1W rfl rfl (has rfl) (has rfl) (aG a1W) (sz rfl) rfl rfl ?_
 refine Z2 ?_
 refine fP (x := (⟨(⟨a0.p.AD, a0.p.AB, a0.p.AC, a0.p.AE⟩ : AM), a0.AV, a0.Ak, a0.Aj, true⟩ : Ah)) ?_
 cases H
 exact dI (.inl rfl) rfl rfl
 refine Yg c1 (bC rfl hh) ?_
 refine Yg c1 (bC rfl hh) ?_
 refine Yg c1 (fY rfl (has rfl) (fun m v h => ⟨_, h⟩)) ?_
 refine Yg c1 (bE 0 rfl hh (fa rfl) rfl) ?_
 refine Yg c1 (bE 1 rfl hh (fa rfl) rfl) ?_
 refine Yh 0 rfl c1 (aZ rfl hh (sc rfl) rfl Ent.rfl) ?_
 refine Yg c1 (eB rfl hh (us rfl)) ?_
 refine Yg c1 (gZ rfl hh hh) ?_
 refine Yy (bG rfl hh c1 hh) ?_
 revert H; refine I1 (fun c2 H => ?_) fun c2 H => ?_
 refine Yt c2 ?_
 refine Yt c2 ?_
 refine Yt c2 ?_
 refine Yt c2 ?_
 refine Yt c2 ?_
 refine Yt c2 ?_
 refine Yt c2 ?_
 refine Yt c2 ?_
 refine Yy (bZ rfl hh c2 hh) ?_
 refine Z6 ?_
 refine bK (φs' := [fSl aC a0.p.AD, fSl aK a0.p.AB, fSl aA a0.p.AC, fI a0.p.AE, fEq v1, fEq v2, fEq v3, aF true]) a1W rfl rfl (has rfl) (has rfl) (aG a1W) (sz rfl) rfl rfl ?_
 refine Z2 ?_
 refine fP (x := (⟨(⟨a0.p.AD, a0.p.AB, a0.p.AC, a0.p.AE⟩ : AM), a0.AV, a0.Ak, a0.Aj, true⟩ : Ah)) ?_
 cases H
 exact dI (.inl rfl) rfl rfl
 refine Yg c2 (bC rfl hh) ?_
 refine Yg c2 (fY rfl (has rfl) (fun m v h => ⟨_, h⟩)) ?_
 refine Yg c2 (bE 5 rfl hh (fa rfl) rfl) ?_
 refine Yh 0 rfl c2 (aZ rfl hh (sc rfl) rfl Ent.rfl) ?_
 refine Yg c2 (bC rfl hh) ?_
 revert H; refine bs fun y1 h1 H => ?_
 refine Yh 2 rfl c2 (fZ rfl hh hh (el rfl) h1) ?_
 refine Yh 2 rfl c2 (iV rfl rfl hh (sc rfl) (eD h1) rfl) ?_
 refine Yg c2 (eV rfl hh hh) ?_
 refine Yy (bG rfl hh c2 hh) ?_
 revert H; refine I1 (fun c3 H => ?_) fun c3 H => ?_
 refine cL hh c3 ?_
 refine Z4 ?_
 refine bK (φs' := [fSl aC a0.p.AD, fSl aK a0.p.AB, fSl aA a0.p.AC, fI a0.p.AE, fEq v1, fEq v2, fEq v3, aF true]) a1W rfl rfl (has rfl) (has rfl) (aG a1W) (sz rfl) rfl rfl ?_
 refine Z2 ?_
 refine fP (x := (⟨(⟨a0.p.AD, a0.p.AB, a0.p.AC, a0.p.AE⟩ : AM), a0.AV, a0.Ak, a0.Aj, true⟩ : Ah)) ?_
 cases H
 exact dI (.inl rfl) rfl rfl
 refine cM hh c3 ?_
 revert H; refine B8 fun y2 h2 H => ?_
 refine Yo 2 rfl (fZ rfl hh hh (el rfl) h2) ?_
 refine Yo 2 rfl (iV rfl rfl hh (sc rfl) (eD h2) rfl) ?_
 revert H; refine bs fun z1 h3 H => ?_
 refine Yy (dT rfl hh hh h3) ?_
 revert H; refine bs fun y3 h4 H => ?_
 refine Yo 2 rfl (fZ rfl hh hh (el rfl) h4) ?_
 refine eH ?_
 refine wE (z' := z1) a1W rfl rfl rfl (has rfl) (has rfl) (aG a1W) (sz rfl) (eD h4) rfl rfl ?_
 revert H; refine B8 fun y4 h5 H => ?_
 refine Yo 2 rfl (fZ rfl hh hh (el rfl) h5) ?_
 refine eH ?_
 refine wE (z' := a2) a1W rfl rfl rfl (has rfl) (has rfl) (aG a1W) (sz rfl) (eD h5) rfl rfl ?_
 revert H; refine B8 fun y5 h6 H => ?_
 refine Yy (cF rfl hh hh (el rfl) h6) ?_
 refine Z1 ?_
 refine Tn (dG rfl sE rfl) fun b1 => ?_
 refine dV (φs' := [fI y5.Op, fI y5.N, fSl aO y5.Aa, fSl tI y5.AU]) a1W rfl rfl (has rfl) (has rfl) (aL (aG a1W) (aL (aG a1W) (aL (aY) (aL (aY) cE)))) (sz rfl) rfl rfl rfl ?_
 revert H; refine B4 fun y6 h7 H => ?_
 refine Tc (aGb _ _ h7) ?_
 revert H; refine B8 fun o1 H Hr1 => ?_
 refine aP (ι := Unit) (fun i => o1 = Sum.inl ()) (fun i => [(0, fEq (ptr p0)), (2, fI a2), (6, fEq (ptr b1))]) (fun i => [aD b1 118 [fI y5.Op, fI y5.N, fSl aO y5.Aa, fSl tI y5.AU], aD p0 146 [fSl aC a0.p.AD, fSl aK a0.p.AB, fSl aA a0.p.AC, fI a0.p.AE, fEq v1, fEq v2, fEq v3, aF a0.bad], aB v1 3 tI (a0.AV.set a1.toNat a2), aB v2 3 tI (a0.Ak.set a1.toNat z1), aB v3 3 tI a0.Aj]) ?_ ?_
 refine Z4 ?_
 revert H; refine cs (fun c4 H => ?_) fun c4 H => ?_
 refine Yt c4 ?_
 refine Yt c4 ?_
 refine Yt c4 ?_
 refine Yt c4 ?_
 refine Yt c4 ?_
 refine Yy (bZ rfl hh c4 hh) ?_
 refine Z4 ?_
 refine cQ (⟨_, _, _, _, rfl, rfl, rfl, nu⟩) rfl rfl ?_
 refine cQ (⟨_, _, _, _, rfl, rfl, rfl, nu⟩) rfl rfl ?_
 refine cQ (⟨_, _, _, _, rfl, rfl, rfl, nu⟩) rfl rfl ?_
 refine cQ (⟨_, _, _, _, rfl, rfl, rfl, nu⟩) rfl rfl ?_
 refine Z6 ?_
 refine cQ (⟨_, _, _, _, rfl, rfl, rfl, nu⟩) rfl rfl ?_
 refine cQ (⟨_, _, _, _, rfl, rfl, rfl, nu⟩) rfl rfl ?_
 refine cQ (⟨_, _, _, _, rfl, rfl, rfl, nu⟩) rfl rfl ?_
 refine cQ (⟨_, _, _, _, rfl, rfl, rfl, nu⟩) rfl rfl ?_
 refine cQ (⟨_, _, _, _, rfl, rfl, rfl, nu⟩) rfl rfl ?_
 refine Z8 ?_
 refine dM ?_
 refine bK (φs' := [fSl aC a0.p.AD, fSl aK a0.p.AB, fSl aA a0.p.AC, fI a0.p.AE, fEq v1, fEq v2, fEq v3, aF true]) a1W rfl rfl (has rfl) (has rfl) (aG a1W) (sz rfl) rfl rfl ?_
 revert H; refine B2 fun r1 H e1 => ?_
 cases e1; cases Hr1
 refine bH ?_
 refine bH ?_
 refine bH ?_
 refine dM ?_
 refine fP (x := (⟨(⟨a0.p.AD, a0.p.AB, a0.p.AC, a0.p.AE⟩ : AM), a0.AV.set a1.toNat a2, a0.Ak.set a1.toNat z1, a0.Aj, true⟩ : Ah)) ?_
 cases H
 refine aH [0] (by decide) ?_
 exact dI (.inl rfl) rfl rfl
 refine Yg c4 (bE 3 rfl hh (fa rfl) rfl) ?_
 refine Yh 0 rfl c4 (aZ rfl hh (sc rfl) rfl Ent.rfl) ?_
 refine Yg c4 (eB rfl hh (us rfl)) ?_
 refine Yg c4 (bC rfl hh) ?_
 refine Yg c4 (rU rfl hh hh) ?_
 refine Yy (bG rfl hh c4 hh) ?_
 revert H; refine I1 (fun c5 H => ?_) fun c5 H => ?_
 refine Yt c5 ?_
 refine Yt c5 ?_
 refine Yt c5 ?_
 refine cQ (⟨_, _, _, _, rfl, rfl, rfl, nu⟩) rfl rfl ?_
 refine cQ (⟨_, _, _, _, rfl, rfl, rfl, nu⟩) rfl rfl ?_
 refine cQ (⟨_, _, _, _, rfl, rfl, rfl, nu⟩) rfl rfl ?_
 refine cQ (⟨_, _, _, _, rfl, rfl, rfl, nu⟩) rfl rfl ?_
 refine Yt c5 ?_
 refine Yy (bZ rfl hh c5 hh) ?_
 refine Z4 ?_
 refine cQ (⟨_, _, _, _, rfl, rfl, rfl, nu⟩) rfl rfl ?_
 refine cQ (⟨_, _, _, _, rfl, rfl, rfl, nu⟩) rfl rfl ?_
 refine cQ (⟨_, _, _, _, rfl, rfl, rfl, nu⟩) rfl rfl ?_
 refine cQ (⟨_, _, _, _, rfl, rfl, rfl, nu⟩) rfl rfl ?_
 refine cQ (⟨_, _, _, _, rfl, rfl, rfl, nu⟩) rfl rfl ?_
 refine Z8 ?_
 refine dM ?_
 refine bK (φs' := [fSl aC a0.p.AD, fSl aK a0.p.AB, fSl aA a0.p.AC, fI a0.p.AE, fEq v1, fEq v2, fEq v3, aF true]) a1W rfl rfl (has rfl) (has rfl) (aG a1W) (sz rfl) rfl rfl ?_
 revert H; refine B2 fun r2 H e2 => ?_
 cases e2; cases Hr1
 refine bH ?_
 refine bH ?_
 refine bH ?_
 refine dM ?_
 refine fP (x := (⟨(⟨a0.p.AD, a0.p.AB, a0.p.AC, a0.p.AE⟩ : AM), a0.AV.set a1.toNat a2, a0.Ak.set a1.toNat z1, a0.Aj, true⟩ : Ah)) ?_
 cases H
 refine aH [0] (by decide) ?_
 exact dI (.inl rfl) rfl rfl
 refine Yg c5 (bC rfl hh) ?_
 refine Yg c5 (qU rfl hh hh) ?_
 refine Yg c5 (bC rfl hh) ?_
 revert H; refine is (fun c6 H => ?_) fun c6 H => ?_
 refine Yg c6 (bE 2 rfl hh (fa rfl) rfl) ?_
 refine Yh 0 rfl c6 (aZ rfl hh (sc rfl) rfl Ent.rfl) ?_
 refine Yg c6 (eB rfl hh (us rfl)) ?_
 refine Yg c6 (eV rfl hh hh) ?_
 refine Yg c5 (bZ rfl hh c6 hh) ?_
 refine Yy (bG rfl hh c5 hh) ?_
 revert H; refine I1 (fun c7 H => ?_) fun c7 H => ?_
 refine Yt c7 ?_
 refine Yt c7 ?_
 refine Yt c7 ?_
 refine cQ (⟨_, _, _, _, rfl, rfl, rfl, nu⟩) rfl rfl ?_
 refine cQ (⟨_, _, _, _, rfl, rfl, rfl, nu⟩) rfl rfl ?_
 refine cQ (⟨_, _, _, _, rfl, rfl, rfl, nu⟩) rfl rfl ?_
 refine cQ (⟨_, _, _, _, rfl, rfl, rfl, nu⟩) rfl rfl ?_
 refine cQ (⟨_, _, _, _, rfl, rfl, rfl, nu⟩) rfl rfl ?_
 refine Yt c7 ?_
 refine Yy (bZ rfl hh c7 hh) ?_
 refine Z6 ?_
 refine dM ?_
 refine bK (φs' := [fSl aC a0.p.AD, fSl aK a0.p.AB, fSl aA a0.p.AC, fI a0.p.AE, fEq v1, fEq v2, fEq v3, aF true]) a1W rfl rfl (has rfl) (has rfl) (aG a1W) (sz rfl) rfl rfl ?_
 revert H; refine B2 fun r3 H e3 => ?_
 cases e3; cases Hr1
 refine bH ?_
 refine bH ?_
 refine bH ?_
 refine dM ?_
 refine fP (x := (⟨(⟨a0.p.AD, a0.p.AB, a0.p.AC, a0.p.AE⟩ : AM), a0.AV.set a1.toNat a2, a0.Ak.set a1.toNat z1, a0.Aj, true⟩ : Ah)) ?_
 cases H
 refine aH [0] (by decide) ?_
 exact dI (.inl rfl) rfl rfl
 refine Yg c7 (bC rfl hh) ?_
 refine Yg c7 (gZ rfl hh hh) ?_
 refine Yg c7 (bC rfl hh) ?_
 revert H; refine is (fun c8 H => ?_) fun c8 H => ?_
 refine Yg c8 (bE 2 rfl hh (fa rfl) rfl) ?_
 refine Yh 0 rfl c8 (aZ rfl hh (sc rfl) rfl Ent.rfl) ?_
 refine Yg c8 (eB rfl hh (us rfl)) ?_
 refine Yg c8 (bC rfl hh) ?_
 refine Yg c8 (rU rfl hh hh) ?_
 refine Yg c7 (bZ rfl hh c8 hh) ?_
 refine Yy (bG rfl hh c7 hh) ?_
 revert H; refine I1 (fun c9 H => ?_) fun c9 H => ?_
 refine cL hh c9 ?_
 refine Z4 ?_
 refine dM ?_
 refine bK (φs' := [fSl aC a0.p.AD, fSl aK a0.p.AB, fSl aA a0.p.AC, fI a0.p.AE, fEq v1, fEq v2, fEq v3, aF true]) a1W rfl rfl (has rfl) (has rfl) (aG a1W) (sz rfl) rfl rfl ?_
 revert H; refine B2 fun r4 H e4 => ?_
 cases e4; cases Hr1
 refine bH ?_
 refine bH ?_
 refine bH ?_
 refine dM ?_
 refine fP (x := (⟨(⟨a0.p.AD, a0.p.AB, a0.p.AC, a0.p.AE⟩ : AM), a0.AV.set a1.toNat a2, a0.Ak.set a1.toNat z1, a0.Aj, true⟩ : Ah)) ?_
 cases H
 refine aH [0] (by decide) ?_
 exact dI (.inl rfl) rfl rfl
 refine cM hh c9 ?_
 refine Z2 ?_
 refine aH [0, 3, 1, 2, 4] (by decide) ?_
 exact Tm (()) (ij H)
 refine Yf c8 ?_
 refine Yf c8 ?_
 refine Yf c8 ?_
 refine Yf c8 ?_
 refine Yf c8 ?_
 refine Yg c7 (bG rfl hh c8 hh) ?_
 refine Yy (bG rfl hh c7 hh) ?_
 refine Z4 ?_
 refine aH [0, 3, 1, 2, 4] (by decide) ?_
 exact Tm (()) (ij H)
 refine Yf c6 ?_
 refine Yf c6 ?_
 refine Yf c6 ?_
 refine Yf c6 ?_
 refine Yg c5 (bG rfl hh c6 hh) ?_
 refine Yy (bG rfl hh c5 hh) ?_
 revert H; refine I4 (fun c10 H => ?_) fun c10 H => ?_
 refine Yg c10 (bE 2 rfl hh (fa rfl) rfl) ?_
 refine Yh 0 rfl c10 (aZ rfl hh (sc rfl) rfl Ent.rfl) ?_
 refine Yg c10 (eB rfl hh (us rfl)) ?_
 refine Yg c10 (bC rfl hh) ?_
 refine Yg c10 (rU rfl hh hh) ?_
 refine Yg rfl (bZ rfl hh c10 hh) ?_
 revert H; refine I2 (fun c11 H => ?_) fun c11 H => ?_
 refine cL hh c11 ?_
 refine Z4 ?_
 refine dM ?_
 refine bK (φs' := [fSl aC a0.p.AD, fSl aK a0.p.AB, fSl aA a0.p.AC, fI a0.p.AE, fEq v1, fEq v2, fEq v3, aF true]) a1W rfl rfl (has rfl) (has rfl) (aG a1W) (sz rfl) rfl rfl ?_
 revert H; refine B2 fun r5 H e5 => ?_
 cases e5; cases Hr1
 refine bH ?_
 refine bH ?_
 refine bH ?_
 refine dM ?_
 refine fP (x := (⟨(⟨a0.p.AD, a0.p.AB, a0.p.AC, a0.p.AE⟩ : AM), a0.AV.set a1.toNat a2, a0.Ak.set a1.toNat z1, a0.Aj, true⟩ : Ah)) ?_
 cases H
 refine aH [0] (by decide) ?_
 exact dI (.inl rfl) rfl rfl
 refine cM hh c11 ?_
 refine Z2 ?_
 refine aH [0, 3, 1, 2, 4] (by decide) ?_
 exact Tm (()) (ij H)
 refine Yf c10 ?_
 refine Yf c10 ?_
 refine Yf c10 ?_
 refine Yf c10 ?_
 refine Yf c10 ?_
 refine Yg rfl (bG rfl hh c10 hh) ?_
 refine Z5 ?_
 refine aH [0, 3, 1, 2, 4] (by decide) ?_
 exact Tm (()) (ij H)
 clear H; intro i hi; subst o1; have H := Hr1; clear Hr1; try dsimp only at H
 try dsimp only
 revert H; refine bs fun o2 H Hr2 => ?_
 refine aP (ι := Bool) (fun i => o2 = i) (fun i => [(0, fEq (ptr p0)), (2, fI a2), (6, fEq (ptr b1))]) (fun i => [aD b1 118 [fI y5.Op, fI y5.N, fSl aO y5.Aa, fSl tI y5.AU], aD p0 146 [fSl aC a0.p.AD, fSl aK a0.p.AB, fSl aA a0.p.AC, fI a0.p.AE, fEq v1, fEq v2, fEq v3, aF i], aB v1 3 tI (a0.AV.set a1.toNat a2), aB v2 3 tI (a0.Ak.set a1.toNat z1), aB v3 3 tI a0.Aj]) ?_ ?_
 refine Z4 ?_
 refine Tl (ι := Nat × Int × Bool) (fun i => jC AA a2 y5 i.1 i.2.1 i.2.2 = _) (fun i => i.1) (fun i => [(0, fEq (ptr p0)), (2, fI a2), (6, fEq (ptr b1)), (10, fI i.2.1)]) (fun i => [aD b1 118 [fI y5.Op, fI y5.N, fSl aO y5.Aa, fSl tI y5.AU], aD p0 146 [fSl aC a0.p.AD, fSl aK a0.p.AB, fSl aA a0.p.AC, fI a0.p.AE, fEq v1, fEq v2, fEq v3, aF i.2.2], aB v1 3 tI (a0.AV.set a1.toNat a2), aB v2 3 tI (a0.Ak.set a1.toNat z1), aB v3 3 tI a0.Aj]) (AA, 0, a0.bad) H ?_
 clear H; rintro ⟨k1, x4, x5⟩ H
 replace H : jC AA a2 y5 k1 x4 x5 = _ := H
 try dsimp only
 obtain _ | k1 := k1
 rw [jC] at H; cases H
 rw [jC] at H
 refine aJ ?_
 revert H; refine I7 (fun c12 H => ?_) fun c12 H => ?_
 refine cL hh c12 ?_
 revert H; refine B2 fun o3 H Hr3 => ?_
 refine aP (ι := Bool) (fun i => o3 = i) (fun i => [(0, fEq (ptr p0)), (2, fI a2), (6, fEq (ptr b1)), (10, fI x4)]) (fun i => [aD p0 146 [fSl aC a0.p.AD, fSl aK a0.p.AB, fSl aA a0.p.AC, fI a0.p.AE, fEq v1, fEq v2, fEq v3, aF i], aD b1 118 [fI y5.Op, fI y5.N, fSl aO y5.Aa, fSl tI y5.AU], aB v1 3 tI (a0.AV.set a1.toNat a2), aB v2 3 tI (a0.Ak.set a1.toNat z1), aB v3 3 tI a0.Aj]) ?_ ?_
 refine Z8 ?_
 revert H; refine cs (fun c13 H => ?_) fun c13 H => ?_
 refine Yt c13 ?_
 refine Yt c13 ?_
 refine Yt c13 ?_
 refine Yt c13 ?_
 refine Yt c13 ?_
 refine Yt c13 ?_
 refine Yt c13 ?_
 refine Yt c13 ?_
 refine Yy (bZ rfl hh c13 hh) ?_
 refine Z2 ?_
 refine bI ?_
 refine bK (φs' := [fSl aC a0.p.AD, fSl aK a0.p.AB, fSl aA a0.p.AC, fI a0.p.AE, fEq v1, fEq v2, fEq v3, aF true]) a1W rfl rfl (has rfl) (has rfl) (aG a1W) (sz rfl) rfl rfl ?_
 refine Z3 ?_
 exact Tm (true) (ij H)
 refine Yg c13 (bE 2 rfl hh (fa rfl) rfl) ?_
 refine Yh 0 rfl c13 (aZ rfl hh (sc rfl) rfl Ent.rfl) ?_
 refine Yg c13 (bC rfl hh) ?_
 revert H; refine bs fun y7 h8 H => ?_
 refine Yg c13 (cF rfl hh hh (el rfl) h8) ?_
 refine Yg c13 (aAp rfl hh (ag rfl)) ?_
 refine Yg c13 (bC rfl hh) ?_
 revert H; refine bs fun y8 h9 H => ?_
 refine Tc (aDy _ _ _ _ h9) ?_
 refine Yg c13 (iJ rfl hh) ?_
 refine Yy (bG rfl hh c13 hh) ?_
 refine Z2 ?_
 refine bI ?_
 refine bK (φs' := [fSl aC a0.p.AD, fSl aK a0.p.AB, fSl aA a0.p.AC, fI a0.p.AE, fEq v1, fEq v2, fEq v3, aF (!y8)]) a1W rfl rfl (has rfl) (has rfl) (aG a1W) (sz rfl) rfl rfl ?_
 refine Z3 ?_
 exact Tm (!y8) (ij H)
 clear H; intro x6 hi; subst o3; have H := Hr3; clear Hr3; try dsimp only at H
 try dsimp only
 revert H; refine B2 fun z2 h10 H => ?_
 refine Yy (dT rfl hh hh h10) ?_
 refine Z2 ?_
 refine aH [1, 0, 2, 3, 4] (by decide) ?_
 exact Tm ((k1, z2, x6)) ⟨H, ls⟩
 refine cM hh c12 ?_
 refine Z5 ?_
 exact Tm (x5) (ij H)
 clear H; intro x1 hi; subst o2; have H := Hr2; clear Hr2; try dsimp only at H
 try dsimp only
 revert H; refine B4 fun o4 H Hr4 => ?_
 refine aP (ι := Int × List ByteArray × List Ae × List AN × Int × List Int × List Int × List Int × Bool × Value × Value × Value) (fun i => o4 = Sum.inl (i.1, i.2.1, i.2.2.1, i.2.2.2.1, i.2.2.2.2.1, i.2.2.2.2.2.1, i.2.2.2.2.2.2.1, i.2.2.2.2.2.2.2.1, i.2.2.2.2.2.2.2.2.1)) (fun i => [(0, fEq (ptr p0)), (6, fEq (ptr b1)), (11, fI i.1)]) (fun i => [aD p0 146 [fSl aC i.2.1, fSl aK i.2.2.1, fSl aA i.2.2.2.1, fI i.2.2.2.2.1, fEq i.2.2.2.2.2.2.2.2.2.1, fEq i.2.2.2.2.2.2.2.2.2.2.1, fEq i.2.2.2.2.2.2.2.2.2.2.2, aF i.2.2.2.2.2.2.2.2.1], aD b1 118 [fI y5.Op, fI y5.N, fSl aO y5.Aa, fSl tI y5.AU], aB i.2.2.2.2.2.2.2.2.2.1 3 tI i.2.2.2.2.2.1, aB i.2.2.2.2.2.2.2.2.2.2.1 3 tI i.2.2.2.2.2.2.1, aB i.2.2.2.2.2.2.2.2.2.2.2 3 tI i.2.2.2.2.2.2.2.1]) ?_ ?_
 revert H; refine B5 fun o5 H Hr5 => ?_
 refine aP (ι := Bool) (fun i => o5 = i) (fun i => [(0, fEq (ptr p0)), (2, fI a2), (6, fEq (ptr b1)), (11, fI a2), (128, fI y5.Op), (141, aF i)]) (fun i => [aD b1 118 [fI y5.Op, fI y5.N, fSl aO y5.Aa, fSl tI y5.AU], aD p0 146 [fSl aC a0.p.AD, fSl aK a0.p.AB, fSl aA a0.p.AC, fI a0.p.AE, fEq v1, fEq v2, fEq v3, aF x1], aB v1 3 tI (a0.AV.set a1.toNat a2), aB v2 3 tI (a0.Ak.set a1.toNat z1), aB v3 3 tI a0.Aj]) ?_ ?_
 revert H; refine I4 (fun c14 H => ?_) fun c14 H => ?_
 refine cL hh c14 ?_
 refine Z2 ?_
 exact Tm (decide (y5.Op = 2)) (ij H)
 refine cM hh c14 ?_
 revert H; refine I4 (fun c15 H => ?_) fun c15 H => ?_
 refine cL hh c15 ?_
 refine Z2 ?_
 exact Tm (decide (y5.Op = 6)) (ij H)
 refine cM hh c15 ?_
 refine Z4 ?_
 exact Tm (decide (y5.Op = 8)) (ij H)
 clear H; intro x16 hi; subst o5; have H := Hr5; clear Hr5; try dsimp only at H
 try dsimp only
 revert H; refine cs (fun c16 H => ?_) fun c16 H => ?_
 refine cL hh c16 ?_
 refine Z7 ?_
 revert H; refine cs (fun c17 H => ?_) fun c17 H => ?_
 refine Yt c17 ?_
 refine Yt c17 ?_
 refine Yt c17 ?_
 refine Yy (bZ rfl hh c17 hh) ?_
 refine Z8 ?_
 refine bI ?_
 refine bK (φs' := [fSl aC a0.p.AD, fSl aK a0.p.AB, fSl aA a0.p.AC, fI a0.p.AE, fEq v1, fEq v2, fEq v3, aF true]) a1W rfl rfl (has rfl) (has rfl) (aG a1W) (sz rfl) rfl rfl ?_
 refine Z3 ?_
 exact Tm ((a2, a0.p.AD, a0.p.AB, a0.p.AC, a0.p.AE, a0.AV.set a1.toNat a2, a0.Ak.set a1.toNat z1, a0.Aj, true, v1, v2, v3)) (ij H)
 refine Yg c17 (bE 1 rfl hh (fa rfl) rfl) ?_
 refine Yh 0 rfl c17 (aZ rfl hh (sc rfl) rfl Ent.rfl) ?_
 refine Yg c17 (qU rfl hh hh) ?_
 refine Yy (bG rfl hh c17 hh) ?_
 revert H; refine I1 (fun c18 H => ?_) fun c18 H => ?_
 refine Yt c18 ?_
 refine Yt c18 ?_
 refine Yt c18 ?_
 refine Yt c18 ?_
 refine Yy (bZ rfl hh c18 hh) ?_
 refine Z2 ?_
 refine bI ?_
 refine bK (φs' := [fSl aC a0.p.AD, fSl aK a0.p.AB, fSl aA a0.p.AC, fI a0.p.AE, fEq v1, fEq v2, fEq v3, aF true]) a1W rfl rfl (has rfl) (has rfl) (aG a1W) (sz rfl) rfl rfl ?_
 refine Z3 ?_
 exact Tm ((a2, a0.p.AD, a0.p.AB, a0.p.AC, a0.p.AE, a0.AV.set a1.toNat a2, a0.Ak.set a1.toNat z1, a0.Aj, true, v1, v2, v3)) (ij H)
 refine Yg c18 (bE 1 rfl hh (fa rfl) rfl) ?_
 refine Yh 0 rfl c18 (aZ rfl hh (sc rfl) rfl Ent.rfl) ?_
 refine Yg c18 (bC rfl hh) ?_
 refine Yg c18 (gZ rfl hh hh) ?_
 refine Yy (bG rfl hh c18 hh) ?_
 refine Z2 ?_
 refine bI ?_
 refine bK (φs' := [fSl aC a0.p.AD, fSl aK a0.p.AB, fSl aA a0.p.AC, fI a0.p.AE, fEq v1, fEq v2, fEq v3, aF (decide (a2 <= y5.N))]) a1W rfl rfl (has rfl) (has rfl) (aG a1W) (sz rfl) rfl rfl ?_
 refine Z3 ?_
 exact Tm ((a2, a0.p.AD, a0.p.AB, a0.p.AC, a0.p.AE, a0.AV.set a1.toNat a2, a0.Ak.set a1.toNat z1, a0.Aj, decide (a2 <= y5.N), v1, v2, v3)) (ij H)
 refine cM hh c16 ?_
 revert H; refine I4 (fun c19 H => ?_) fun c19 H => ?_
 refine cL hh c19 ?_
 refine aJ ?_
 refine aJ ?_
 revert H; refine is (fun c20 H => ?_) fun c20 H => ?_
 apply bL (ods := [_, _, _, _, _, _, _, _, _, _, _, _, _, _, _, _, _, _, _, _, _, _, _, _, _]) 25 0 5 bM rfl rfl rfl
 refine ND ?_
 refine M4 ?_
 intros
 refine Mt c20 fun _ => ?_
 refine Mt c20 fun _ => ?_
 refine Mt c20 fun _ => ?_
 refine Mt c20 fun _ => ?_
 refine Mt c20 fun _ => ?_
 refine Mt c20 fun _ => ?_
 refine Mt c20 fun _ => ?_
 refine Mt c20 fun _ => ?_
 refine Mt c20 fun _ => ?_
 refine My (bZ rfl hh c20 hh) fun _ => ?_
 refine M8 ?_
 intros
 refine M3 ?_
 intros
 refine Z7 ?_
 refine bI ?_
 refine bK (φs' := [fSl aC a0.p.AD, fSl aK a0.p.AB, fSl aA a0.p.AC, fI a0.p.AE, fEq v1, fEq v2, fEq v3, aF true]) a1W rfl rfl (has rfl) (has rfl) (aG a1W) (sz rfl) rfl rfl ?_
 revert H; refine B4 fun r6 H e6 => ?_
 cases e6; cases Hr4
 refine bH ?_
 refine bH ?_
 refine bH ?_
 refine dM ?_
 refine fP (x := (⟨(⟨a0.p.AD, a0.p.AB, a0.p.AC, a0.p.AE⟩ : AM), a0.AV.set a1.toNat a2, a0.Ak.set a1.toNat z1, a0.Aj, true⟩ : Ah)) ?_
 cases H
 refine aH [0] (by decide) ?_
 exact dI (.inl rfl) rfl rfl
 exact fk
 kernel_rfl
 revert H; refine is (fun c21 H => ?_) fun c21 H => ?_
 apply bL (ods := [_, _, _, _, _, _, _, _, _, _, _, _, _, _, _, _, _, _, _, _, _, _, _, _, _]) 25 0 5 bM rfl rfl rfl
 refine ND ?_
 refine M4 ?_
 intros
 refine Mg c20 (bE 1 rfl hh (fa rfl) rfl) fun _ => ?_
 refine dQ (od := odC [0] false (fI y5.N) [dA]) (ps := [0]) (φ := fI y5.N) rfl (fun _ => rfl) ⟨_, _, rfl, rfl, c20⟩ rfl rfl (aZ rfl hh (sc rfl) rfl Ent.rfl) (fun _ => ?_)
 refine Mg c20 (bC rfl hh) fun _ => ?_
 refine Mg c20 (fY rfl (has rfl) (fun m v h => ⟨_, h⟩)) fun _ => ?_
 refine Mg c20 (bE 0 rfl hh (fa rfl) rfl) fun _ => ?_
 refine Mg c20 (bE 2 rfl hh (fa rfl) rfl) fun _ => ?_
 refine dQ (od := odC [1] false (fSl aA a0.p.AC) [dA]) (ps := [1]) (φ := fSl aA a0.p.AC) rfl (fun _ => rfl) ⟨_, _, rfl, rfl, c20⟩ rfl rfl (aZ rfl hh (sc rfl) rfl Ent.rfl) (fun _ => ?_)
 refine Mg c20 (eB rfl hh (us rfl)) fun _ => ?_
 refine Mg c20 (gZ rfl hh hh) fun _ => ?_
 refine My (bG rfl hh c20 hh) fun _ => ?_
 refine M1 ?_
 intros
 refine Mt c21 fun _ => ?_
 refine Mt c21 fun _ => ?_
 refine Mt c21 fun _ => ?_
 refine Mt c21 fun _ => ?_
 refine Mt c21 fun _ => ?_
 refine Mt c21 fun _ => ?_
 refine Mt c21 fun _ => ?_
 refine Mt c21 fun _ => ?_
 refine Mt c21 fun _ => ?_
 refine My (bZ rfl hh c21 hh) fun _ => ?_
 refine Z7 ?_
 refine bI ?_
 refine bK (φs' := [fSl aC a0.p.AD, fSl aK a0.p.AB, fSl aA a0.p.AC, fI a0.p.AE, fEq v1, fEq v2, fEq v3, aF true]) a1W rfl rfl (has rfl) (has rfl) (aG a1W) (sz rfl) rfl rfl ?_
 revert H; refine B4 fun r7 H e7 => ?_
 cases e7; cases Hr4
 refine bH ?_
 refine bH ?_
 refine bH ?_
 refine dM ?_
 refine fP (x := (⟨(⟨a0.p.AD, a0.p.AB, a0.p.AC, a0.p.AE⟩ : AM), a0.AV.set a1.toNat a2, a0.Ak.set a1.toNat z1, a0.Aj, true⟩ : Ah)) ?_
 cases H
 refine aH [0] (by decide) ?_
 exact dI (.inl rfl) rfl rfl
 exact fk
 kernel_rfl
 revert H; refine bs fun y9 h11 H => ?_
 apply bL (ods := [_, _, _, _, _, _, _, _, _, _, _, _, _, _, _, _, _, _, _, _, _, _, _, _, _]) 25 0 5 bM rfl rfl rfl
 refine ND ?_
 refine M4 ?_
 intros
 refine Mg c20 (bE 1 rfl hh (fa rfl) rfl) fun _ => ?_
 refine dQ (od := odC [0] false (fI y5.N) [dA]) (ps := [0]) (φ := fI y5.N) rfl (fun _ => rfl) ⟨_, _, rfl, rfl, c20⟩ rfl rfl (aZ rfl hh (sc rfl) rfl Ent.rfl) (fun _ => ?_)
 refine Mg c20 (bC rfl hh) fun _ => ?_
 refine Mg c20 (fY rfl (has rfl) (fun m v h => ⟨_, h⟩)) fun _ => ?_
 refine Mg c20 (bE 0 rfl hh (fa rfl) rfl) fun _ => ?_
 refine Mg c20 (bE 2 rfl hh (fa rfl) rfl) fun _ => ?_
 refine dQ (od := odC [1] false (fSl aA a0.p.AC) [dA]) (ps := [1]) (φ := fSl aA a0.p.AC) rfl (fun _ => rfl) ⟨_, _, rfl, rfl, c20⟩ rfl rfl (aZ rfl hh (sc rfl) rfl Ent.rfl) (fun _ => ?_)
 refine Mg c20 (eB rfl hh (us rfl)) fun _ => ?_
 refine Mg c20 (gZ rfl hh hh) fun _ => ?_
 refine My (bG rfl hh c20 hh) fun _ => ?_
 refine M1 ?_
 intros
 refine Mg c21 (bC rfl hh) fun _ => ?_
 refine Mg c21 (fY rfl (has rfl) (fun m v h => ⟨_, h⟩)) fun _ => ?_
 refine Mg c21 (bE 6 rfl hh (fa rfl) rfl) fun _ => ?_
 refine dQ (od := odC [1] false (fEq v3) [dA]) (ps := [1]) (φ := fEq v3) rfl (fun _ => rfl) ⟨_, _, rfl, rfl, c21⟩ rfl rfl (aZ rfl hh (sc rfl) rfl Ent.rfl) (fun _ => ?_)
 refine Mg c21 (bE 1 rfl hh (fa rfl) rfl) fun _ => ?_
 refine dQ (od := odC [0] false (fI y5.N) [dA]) (ps := [0]) (φ := fI y5.N) rfl (fun _ => rfl) ⟨_, _, rfl, rfl, c21⟩ rfl rfl (aZ rfl hh (sc rfl) rfl Ent.rfl) (fun _ => ?_)
 refine dQ (od := odC [4] false (qZ v3 1 y5.N.toNat 0) [dA]) (ps := [4]) (φ := qZ v3 1 y5.N.toNat 0) rfl (fun _ => rfl) ⟨_, _, rfl, rfl, c21⟩ rfl rfl (fZ rfl hh hh (el rfl) h11) (fun _ => ?_)
 refine dQ (od := odC [4] false (fI y9) [dA]) (ps := [4]) (φ := fI y9) rfl (fun _ => rfl) ⟨_, _, rfl, rfl, c21⟩ rfl rfl (iV rfl rfl hh (sc rfl) (eD h11) rfl) (fun _ => ?_)
 refine Mg c21 (eV rfl hh hh) fun _ => ?_
 refine My (bG rfl hh c21 hh) fun _ => ?_
 revert H; refine I2 (fun c22 H => ?_) fun c22 H => ?_
 refine cL hh c22 ?_
 refine Z4 ?_
 refine bI ?_
 refine bK (φs' := [fSl aC a0.p.AD, fSl aK a0.p.AB, fSl aA a0.p.AC, fI a0.p.AE, fEq v1, fEq v2, fEq v3, aF true]) a1W rfl rfl (has rfl) (has rfl) (aG a1W) (sz rfl) rfl rfl ?_
 revert H; refine B4 fun r8 H e8 => ?_
 cases e8; cases Hr4
 refine bH ?_
 refine bH ?_
 refine bH ?_
 refine dM ?_
 refine fP (x := (⟨(⟨a0.p.AD, a0.p.AB, a0.p.AC, a0.p.AE⟩ : AM), a0.AV.set a1.toNat a2, a0.Ak.set a1.toNat z1, a0.Aj, true⟩ : Ah)) ?_
 cases H
 refine aH [0] (by decide) ?_
 exact dI (.inl rfl) rfl rfl
 refine cM hh c22 ?_
 refine Z2 ?_
 refine aJ ?_
 revert H; refine bs fun y10 h12 H => ?_
 revert H; refine bs fun z3 h13 H => ?_
 revert H; refine bs fun y11 h14 H => ?_
 apply bL (ods := [_, _, _, _, _, _, _, _, _, _, _]) 11 0 5 bM rfl rfl rfl
 refine ND ?_
 refine M6 ?_
 intros
 refine Mo 4 rfl (fZ rfl hh hh (el rfl) h12) fun _ => ?_
 refine Mo 4 rfl (iV rfl rfl hh (sc rfl) (eD h12) rfl) fun _ => ?_
 refine My (dT rfl hh hh h13) fun _ => ?_
 refine Mo 4 rfl (fZ rfl hh hh (el rfl) h14) fun _ => ?_
 refine nX (od := odC [4] true (dN) [aB v3 3 tI (a0.Aj.set y5.N.toNat z3)]) (p := 4) (z' := z3) rfl (fun _ => rfl) (fun _ => rfl) a1W rfl rfl rfl rfl (has rfl) (has rfl) (aG a1W) (sz rfl) (eD h14) rfl rfl (fun _ => ?_)
 refine Z2 ?_
 refine aJ ?_
 revert H; refine bs fun y12 h15 H => ?_
 revert H; refine bs fun y13 h16 H => ?_
 revert H; refine bs fun z4 h17 H => ?_
 apply bL (ods := [_, _, _, _, _, _, _, _, _, _, _, _, _]) 13 0 5 bM rfl rfl rfl
 refine ND ?_
 refine M8 ?_
 intros
 refine My (cF rfl hh hh (el rfl) h15) fun _ => ?_
 refine M1 ?_
 intros
 refine Nc (aGK _ _ h16) fun _ => ?_
 refine My (dT rfl hh hh h17) fun _ => ?_
 refine M1 ?_
 intros
 revert H; refine B2 fun y14 h18 H => ?_
 apply bL (ods := [_, _, _, _, _, _, _, _, _, _, _]) 11 0 5 bM rfl rfl rfl
 refine ND ?_
 refine M8 ?_
 intros
 refine My (cF rfl hh hh (el rfl) h18) fun _ => ?_
 refine M2 ?_
 intros
 refine Z1 ?_
 refine bH ?_
 refine bH ?_
 refine bH ?_
 refine bH ?_
 refine fP (x := (⟨(⟨a0.p.AD, a0.p.AB, a0.p.AC, a0.p.AE⟩ : AM), a0.AV.set a1.toNat a2, a0.Ak.set a1.toNat z1, a0.Aj.set y5.N.toNat z3, x1⟩ : Ah)) ?_
 revert H; refine bs fun y15 h19 H => ?_
 refine Tc (ih_r03_look_def _ _ _ _ _ h19) ?_
 refine rB (fun v7 v8 v9 => ?_)
 refine aE 1 rfl (fun hc_v7 => ?_)
 refine aE 2 rfl (fun hc_v8 => ?_)
 refine aE 3 rfl (fun hc_v9 => ?_)
 refine Z3 ?_
 refine aH [0, 4, 1, 2, 3] (by decide) ?_
 exact Tm ((z4, y15.p.AD, y15.p.AB, y15.p.AC, y15.p.AE, y15.AV, y15.Ak, y15.Aj, y15.bad, v7, v8, v9)) (ij H)
 exact fk
 kernel_rfl
 exact fk
 kernel_rfl
 exact fk
 kernel_rfl
 exact fk
 kernel_rfl
 refine cM hh c19 ?_
 refine Z7 ?_
 revert H; refine cs (fun c23 H => ?_) fun c23 H => ?_
 refine Yt c23 ?_
 refine Yt c23 ?_
 refine Yt c23 ?_
 refine Yy (bZ rfl hh c23 hh) ?_
 refine Z2 ?_
 refine bI ?_
 refine bK (φs' := [fSl aC a0.p.AD, fSl aK a0.p.AB, fSl aA a0.p.AC, fI a0.p.AE, fEq v1, fEq v2, fEq v3, aF true]) a1W rfl rfl (has rfl) (has rfl) (aG a1W) (sz rfl) rfl rfl ?_
 refine Z3 ?_
 exact Tm ((a2, a0.p.AD, a0.p.AB, a0.p.AC, a0.p.AE, a0.AV.set a1.toNat a2, a0.Ak.set a1.toNat z1, a0.Aj, true, v1, v2, v3)) (ij H)
 refine Yg c23 (bE 1 rfl hh (fa rfl) rfl) ?_
 refine Yh 0 rfl c23 (aZ rfl hh (sc rfl) rfl Ent.rfl) ?_
 refine Yg c23 (rU rfl hh hh) ?_
 refine Yy (bG rfl hh c23 hh) ?_
 refine Z2 ?_
 refine bI ?_
 refine bK (φs' := [fSl aC a0.p.AD, fSl aK a0.p.AB, fSl aA a0.p.AC, fI a0.p.AE, fEq v1, fEq v2, fEq v3, aF (decide (y5.N ≠ 0))]) a1W rfl rfl (has rfl) (has rfl) (aG a1W) (sz rfl) rfl rfl ?_
 refine Z3 ?_
 exact Tm ((a2, a0.p.AD, a0.p.AB, a0.p.AC, a0.p.AE, a0.AV.set a1.toNat a2, a0.Ak.set a1.toNat z1, a0.Aj, decide (y5.N ≠ 0), v1, v2, v3)) (ij H)
 clear H; intro i hi; obtain ⟨x7, x8, x9, x10, x11, x12, x13, x14, x15, v4, v5, v6⟩ := i; subst o4; have H := Hr4; clear Hr4; try dsimp only at H
 try dsimp only
 refine aE 2 rfl (fun hc_v4 => ?_)
 refine aE 3 rfl (fun hc_v5 => ?_)
 refine aE 4 rfl (fun hc_v6 => ?_)
 refine Z4 ?_
 refine Tl (ι := Nat × Int × List ByteArray × List Ae × List AN × Int × List Int × List Int × List Int × Bool × Value × Value × Value) (fun i => iW (eR AA) y5 x7 i.1 i.2.1 i.2.2.1 i.2.2.2.1 i.2.2.2.2.1 i.2.2.2.2.2.1 i.2.2.2.2.2.2.1 i.2.2.2.2.2.2.2.1 i.2.2.2.2.2.2.2.2.1 i.2.2.2.2.2.2.2.2.2.1 = _) (fun i => i.1) (fun i => [(0, fEq (ptr p0)), (6, fEq (ptr b1)), (11, fI x7), (12, fI i.2.1)]) (fun i => [aD p0 146 [fSl aC i.2.2.1, fSl aK i.2.2.2.1, fSl aA i.2.2.2.2.1, fI i.2.2.2.2.2.1, fEq i.2.2.2.2.2.2.2.2.2.2.1, fEq i.2.2.2.2.2.2.2.2.2.2.2.1, fEq i.2.2.2.2.2.2.2.2.2.2.2.2, aF i.2.2.2.2.2.2.2.2.2.1], aD b1 118 [fI y5.Op, fI y5.N, fSl aO y5.Aa, fSl tI y5.AU], aB i.2.2.2.2.2.2.2.2.2.2.1 3 tI i.2.2.2.2.2.2.1, aB i.2.2.2.2.2.2.2.2.2.2.2.1 3 tI i.2.2.2.2.2.2.2.1, aB i.2.2.2.2.2.2.2.2.2.2.2.2 3 tI i.2.2.2.2.2.2.2.2.1]) (AA, 0, x8, x9, x10, x11, x12, x13, x14, x15, v4, v5, v6) H ?_
 clear H; rintro ⟨k2, x26, x27, x28, x29, x30, x31, x32, x33, x34, v13, v14, v15⟩ H
 replace H : iW (eR AA) y5 x7 k2 x26 x27 x28 x29 x30 x31 x32 x33 x34 = _ := H
 try dsimp only
 obtain _ | k2 := k2
 rw [iW] at H; cases H
 rw [iW] at H
 refine aE 2 rfl (fun hc_v13 => ?_)
 refine aE 3 rfl (fun hc_v14 => ?_)
 refine aE 4 rfl (fun hc_v15 => ?_)
 refine aJ ?_
 revert H; refine I7 (fun c24 H => ?_) fun c24 H => ?_
 refine Yg c24 (bC rfl hh) ?_
 refine Yg c24 (fY rfl (has rfl) (fun m v h => ⟨_, h⟩)) ?_
 refine Yg c24 (bE 7 rfl hh (fa rfl) rfl) ?_
 refine Yh 0 rfl c24 (aZ rfl hh (sc rfl) rfl Ent.rfl) ?_
 refine Yg c24 (iJ rfl hh) ?_
 refine Yy (bZ rfl hh c24 hh) ?_
 refine Z1 ?_
 revert H; refine cs (fun c25 H => ?_) fun c25 H => ?_
 refine cM hh (iQ c25) ?_
 refine Z4 ?_
 refine bH ?_
 refine bH ?_
 refine bH ?_
 refine dM ?_
 refine fP (x := (⟨(⟨x27, x28, x29, x30⟩ : AM), x31, x32, x33, x34⟩ : Ah)) ?_
 cases H
 refine aH [0] (by decide) ?_
 exact dI (.inr rfl) rfl rfl
 refine cL hh (iU c25) ?_
 refine Z2 ?_
 refine aJ ?_
 revert H; refine B6 fun y16 h20 H => ?_
 refine Yy (cF rfl hh hh (el rfl) h20) ?_
 refine Z2 ?_
 refine bH ?_
 refine bH ?_
 refine bH ?_
 refine dM ?_
 refine fP (x := (⟨(⟨x27, x28, x29, x30⟩ : AM), x31, x32, x33, x34⟩ : Ah)) ?_
 revert H; refine bs fun y17 h21 H => ?_
 refine Tc (ih_r03_look_node _ _ _ _ _ h21) ?_
 refine rB (fun v16 v17 v18 => ?_)
 refine aE 1 rfl (fun hc_v16 => ?_)
 refine aE 2 rfl (fun hc_v17 => ?_)
 refine aE 3 rfl (fun hc_v18 => ?_)
 revert H; refine B5 fun z5 h22 H => ?_
 refine Yy (dT rfl hh hh h22) ?_
 refine Z2 ?_
 refine aH [0, 4, 1, 2, 3] (by decide) ?_
 exact Tm ((k2, z5, y17.p.AD, y17.p.AB, y17.p.AC, y17.p.AE, y17.AV, y17.Ak, y17.Aj, y17.bad, v16, v17, v18)) ⟨H, ls⟩
 refine Yf c24 ?_
 refine Yf c24 ?_
 refine Yf c24 ?_
 refine Yf c24 ?_
 refine Yf c24 ?_
 refine Yy (bG rfl hh c24 hh) ?_
 refine Z6 ?_
 refine bH ?_
 refine bH ?_
 refine bH ?_
 refine dM ?_
 refine fP (x := (⟨(⟨x27, x28, x29, x30⟩ : AM), x31, x32, x33, x34⟩ : Ah)) ?_
 cases H
 refine aH [0] (by decide) ?_
 exact dI (.inr rfl) rfl rfl
 intro p0 a0 a1 a2 r H
 rw [mW] at H
 refine bS Tryz.func203 rfl Tryz.ntmps203 rfl (fun β => ?_)
 refine rB (fun v1 v2 v3 => ?_)
 refine aE 1 rfl (fun hc_v1 => ?_)
 refine aE 2 rfl (fun hc_v2 => ?_)
 refine aE 3 rfl (fun hc_v3 => ?_)
 refine Z1 ?_
 refine Tn (cV rfl hh cJ) fun b1 => ?_
 revert H; refine B1 fun o1 H Hr1 => ?_
 refine aP (ι := List ByteArray × List Ae × List AN × Int × List Int × List Int × List Int × Bool × Value × Value × Value) (fun i => o1 = (i.1, i.2.1, i.2.2.1, i.2.2.2.1, i.2.2.2.2.1, i.2.2.2.2.2.1, i.2.2.2.2.2.2.1, i.2.2.2.2.2.2.2.1)) (fun i => [(0, fEq (ptr p0)), (2, fI a2), (4, fEq (ptr b1))]) (fun i => [aD b1 130 [fSl aW a1.AP, fSl bB a1.AT, fSl bF a1.AS], aD p0 146 [fSl aC i.1, fSl aK i.2.1, fSl aA i.2.2.1, fI i.2.2.2.1, fEq i.2.2.2.2.2.2.2.2.1, fEq i.2.2.2.2.2.2.2.2.2.1, fEq i.2.2.2.2.2.2.2.2.2.2, aF i.2.2.2.2.2.2.2.1], aB i.2.2.2.2.2.2.2.2.1 3 tI i.2.2.2.2.1, aB i.2.2.2.2.2.2.2.2.2.1 3 tI i.2.2.2.2.2.1, aB i.2.2.2.2.2.2.2.2.2.2 3 tI i.2.2.2.2.2.2.1]) ?_ ?_
 refine Z4 ?_
 refine Tl (ι := Nat × Int × List ByteArray × List Ae × List AN × Int × List Int × List Int × List Int × Bool × Value × Value × Value) (fun i => kB AA (eR AA) a1 a2 i.1 i.2.1 i.2.2.1 i.2.2.2.1 i.2.2.2.2.1 i.2.2.2.2.2.1 i.2.2.2.2.2.2.1 i.2.2.2.2.2.2.2.1 i.2.2.2.2.2.2.2.2.1 i.2.2.2.2.2.2.2.2.2.1 = _) (fun i => i.1) (fun i => [(0, fEq (ptr p0)), (2, fI a2), (4, fEq (ptr b1)), (6, fI i.2.1)]) (fun i => [aD b1 130 [fSl aW a1.AP, fSl bB a1.AT, fSl bF a1.AS], aD p0 146 [fSl aC i.2.2.1, fSl aK i.2.2.2.1, fSl aA i.2.2.2.2.1, fI i.2.2.2.2.2.1, fEq i.2.2.2.2.2.2.2.2.2.2.1, fEq i.2.2.2.2.2.2.2.2.2.2.2.1, fEq i.2.2.2.2.2.2.2.2.2.2.2.2, aF i.2.2.2.2.2.2.2.2.2.1], aB i.2.2.2.2.2.2.2.2.2.2.1 3 tI i.2.2.2.2.2.2.1, aB i.2.2.2.2.2.2.2.2.2.2.2.1 3 tI i.2.2.2.2.2.2.2.1, aB i.2.2.2.2.2.2.2.2.2.2.2.2 3 tI i.2.2.2.2.2.2.2.2.1]) (AA, 0, a0.p.AD, a0.p.AB, a0.p.AC, a0.p.AE, a0.AV, a0.Ak, a0.Aj, a0.bad, v1, v2, v3) H ?_
 clear H; rintro ⟨k1, x18, x19, x20, x21, x22, x23, x24, x25, x26, v10, v11, v12⟩ H
 replace H : kB AA (eR AA) a1 a2 k1 x18 x19 x20 x21 x22 x23 x24 x25 x26 = _ := H
 try dsimp only
 obtain _ | k1 := k1
 rw [kB] at H; cases H
 rw [kB] at H
 refine aE 2 rfl (fun hc_v10 => ?_)
 refine aE 3 rfl (fun hc_v11 => ?_)
 refine aE 4 rfl (fun hc_v12 => ?_)
 refine aJ ?_
 revert H; refine I7 (fun c1 H => ?_) fun c1 H => ?_
 refine Yg c1 (bC rfl hh) ?_
 refine Yg c1 (fY rfl (has rfl) (fun m v h => ⟨_, h⟩)) ?_
 refine Yg c1 (bE 7 rfl hh (fa rfl) rfl) ?_
 refine Yh 1 rfl c1 (aZ rfl hh (sc rfl) rfl Ent.rfl) ?_
 refine Yg c1 (iJ rfl hh) ?_
 refine Yy (bZ rfl hh c1 hh) ?_
 refine Z1 ?_
 revert H; refine cs (fun c2 H => ?_) fun c2 H => ?_
 refine cM hh (iQ c2) ?_
 refine Z5 ?_
 exact Tm ((x19, x20, x21, x22, x23, x24, x25, x26, v10, v11, v12)) (ij H)
 refine cL hh (iU c2) ?_
 refine Z2 ?_
 refine aJ ?_
 revert H; refine B1 fun y1 h1 H => ?_
 revert H; refine bs fun y2 h2 H => ?_
 revert H; refine bs fun y3 h3 H => ?_
 revert H; refine bs fun z1 h4 H => ?_
 apply bL (ods := [_, _, _, _, _, _, _, _, _, _, _, _, _, _, _, _]) 16 0 5 bM rfl rfl rfl
 refine ND ?_
 refine M4 ?_
 intros
 refine My (cF rfl hh hh (el rfl) h1) fun _ => ?_
 refine M7 ?_
 intros
 refine My (cF rfl hh hh (el rfl) h2) fun _ => ?_
 refine M1 ?_
 intros
 refine Nc (aHB _ _ _ _ h3) fun _ => ?_
 refine My (dT rfl hh hh h4) fun _ => ?_
 refine Z1 ?_
 refine bH ?_
 refine bH ?_
 refine bH ?_
 refine bH ?_
 refine fP (x := (⟨(⟨x19, x20, x21, x22⟩ : AM), x23, x24, x25, x26⟩ : Ah)) ?_
 revert H; refine bs fun y4 h5 H => ?_
 refine Tc (ih_r03_look_node _ _ _ _ _ h5) ?_
 refine rB (fun v13 v14 v15 => ?_)
 refine aE 1 rfl (fun hc_v13 => ?_)
 refine aE 2 rfl (fun hc_v14 => ?_)
 refine aE 3 rfl (fun hc_v15 => ?_)
 revert H; refine B5 fun z2 h6 H => ?_
 refine Yy (dT rfl hh hh h6) ?_
 refine Z2 ?_
 refine aH [4, 0, 1, 2, 3] (by decide) ?_
 exact Tm ((k1, z2, y4.p.AD, y4.p.AB, y4.p.AC, y4.p.AE, y4.AV, y4.Ak, y4.Aj, y4.bad, v13, v14, v15)) ⟨H, ls⟩
 exact fk
 kernel_rfl
 refine Yf c1 ?_
 refine Yf c1 ?_
 refine Yf c1 ?_
 refine Yf c1 ?_
 refine Yf c1 ?_
 refine Yy (bG rfl hh c1 hh) ?_
 refine Z7 ?_
 exact Tm ((x19, x20, x21, x22, x23, x24, x25, x26, v10, v11, v12)) (ij H)
 clear H; intro i hi; obtain ⟨x1, x2, x3, x4, x5, x6, x7, x8, v4, v5, v6⟩ := i; subst o1; have H := Hr1; clear Hr1; try dsimp only at H
 try dsimp only
 refine aE 2 rfl (fun hc_v4 => ?_)
 refine aE 3 rfl (fun hc_v5 => ?_)
 refine aE 4 rfl (fun hc_v6 => ?_)
 refine Z4 ?_
 refine Tl (ι := Nat × Int × List ByteArray × List Ae × List AN × Int × List Int × List Int × List Int × Bool × Value × Value × Value) (fun i => kQ (eR AA) a1 a2 i.1 i.2.1 i.2.2.1 i.2.2.2.1 i.2.2.2.2.1 i.2.2.2.2.2.1 i.2.2.2.2.2.2.1 i.2.2.2.2.2.2.2.1 i.2.2.2.2.2.2.2.2.1 i.2.2.2.2.2.2.2.2.2.1 = _) (fun i => i.1) (fun i => [(0, fEq (ptr p0)), (2, fI a2), (4, fEq (ptr b1)), (7, fI i.2.1)]) (fun i => [aD b1 130 [fSl aW a1.AP, fSl bB a1.AT, fSl bF a1.AS], aD p0 146 [fSl aC i.2.2.1, fSl aK i.2.2.2.1, fSl aA i.2.2.2.2.1, fI i.2.2.2.2.2.1, fEq i.2.2.2.2.2.2.2.2.2.2.1, fEq i.2.2.2.2.2.2.2.2.2.2.2.1, fEq i.2.2.2.2.2.2.2.2.2.2.2.2, aF i.2.2.2.2.2.2.2.2.2.1], aB i.2.2.2.2.2.2.2.2.2.2.1 3 tI i.2.2.2.2.2.2.1, aB i.2.2.2.2.2.2.2.2.2.2.2.1 3 tI i.2.2.2.2.2.2.2.1, aB i.2.2.2.2.2.2.2.2.2.2.2.2 3 tI i.2.2.2.2.2.2.2.2.1]) (AA, 0, x1, x2, x3, x4, x5, x6, x7, x8, v4, v5, v6) H ?_
 clear H; rintro ⟨k2, x36, x37, x38, x39, x40, x41, x42, x43, x44, v19, v20, v21⟩ H
 replace H : kQ (eR AA) a1 a2 k2 x36 x37 x38 x39 x40 x41 x42 x43 x44 = _ := H
 try dsimp only
 obtain _ | k2 := k2
 rw [kQ] at H; cases H
 rw [kQ] at H
 refine aE 2 rfl (fun hc_v19 => ?_)
 refine aE 3 rfl (fun hc_v20 => ?_)
 refine aE 4 rfl (fun hc_v21 => ?_)
 refine aJ ?_
 revert H; refine I7 (fun c3 H => ?_) fun c3 H => ?_
 refine Yg c3 (bC rfl hh) ?_
 refine Yg c3 (fY rfl (has rfl) (fun m v h => ⟨_, h⟩)) ?_
 refine Yg c3 (bE 7 rfl hh (fa rfl) rfl) ?_
 refine Yh 1 rfl c3 (aZ rfl hh (sc rfl) rfl Ent.rfl) ?_
 refine Yg c3 (iJ rfl hh) ?_
 refine Yy (bZ rfl hh c3 hh) ?_
 refine Z1 ?_
 revert H; refine cs (fun c4 H => ?_) fun c4 H => ?_
 refine cM hh (iQ c4) ?_
 refine Z4 ?_
 refine bH ?_
 refine bH ?_
 refine bH ?_
 refine bH ?_
 refine fP (x := (⟨(⟨x37, x38, x39, x40⟩ : AM), x41, x42, x43, x44⟩ : Ah)) ?_
 cases H
 refine aH [0] (by decide) ?_
 exact dI (.inr rfl) rfl rfl
 refine cL hh (iU c4) ?_
 refine Z2 ?_
 refine aJ ?_
 revert H; refine B6 fun y5 h7 H => ?_
 refine Yy (cF rfl hh hh (el rfl) h7) ?_
 refine Z3 ?_
 refine bH ?_
 refine bH ?_
 refine bH ?_
 refine bH ?_
 refine fP (x := (⟨(⟨x37, x38, x39, x40⟩ : AM), x41, x42, x43, x44⟩ : Ah)) ?_
 revert H; refine bs fun y6 h8 H => ?_
 refine Tc (ih_r03_look_node _ _ _ _ _ h8) ?_
 refine rB (fun v22 v23 v24 => ?_)
 refine aE 1 rfl (fun hc_v22 => ?_)
 refine aE 2 rfl (fun hc_v23 => ?_)
 refine aE 3 rfl (fun hc_v24 => ?_)
 revert H; refine B5 fun z3 h9 H => ?_
 refine Yy (dT rfl hh hh h9) ?_
 refine Z2 ?_
 refine aH [4, 0, 1, 2, 3] (by decide) ?_
 exact Tm ((k2, z3, y6.p.AD, y6.p.AB, y6.p.AC, y6.p.AE, y6.AV, y6.Ak, y6.Aj, y6.bad, v22, v23, v24)) ⟨H, ls⟩
 refine Yf c3 ?_
 refine Yf c3 ?_
 refine Yf c3 ?_
 refine Yf c3 ?_
 refine Yf c3 ?_
 refine Yy (bG rfl hh c3 hh) ?_
 refine Z6 ?_
 refine bH ?_
 refine bH ?_
 refine bH ?_
 refine bH ?_
 refine fP (x := (⟨(⟨x37, x38, x39, x40⟩ : AM), x41, x42, x43, x44⟩ : Ah)) ?_
 cases H
 refine aH [0] (by decide) ?_
 exact dI (.inr rfl) rfl rfl
theorem aGp (AA : Nat) (p0 : Nat) (a0 : Ah) (a1 : Int) (a2 : Int) (r : Ah) (H : eR AA a0 a1 a2 = some r) : FnS Tryz.prog 139 [fEq (.pointer (some ⟨p0, 0, none⟩)), fI a1, fI a2] [pP p0 a0] (eM []) (fun _ => [pP p0 r]) := (aGX AA).1 p0 a0 a1 a2 r H
open Go.SX Go.SW Go.Dt
def iR (AA : Nat) (a0 : AM) : Nat -> Int -> Bool -> Option (Bool)
| 0, _, _ => none
| k + 1, x4, x5 =>
 if x4 < (a0.AD.length : Int) then
  (bif x5 then
   some true
  else
   (idx a0.AD x4).bind fun y1 =>
   (rN AA y1).bind fun y2 =>
   bif !y2 then
    some true
   else
    if 0 < x4 then
     (idx a0.AD x4).bind fun y3 =>
     (chk (x4 - 1)).bind fun z1 =>
     (idx a0.AD z1).bind fun y4 =>
     some (sle y3 y4)
    else
     some false).bind fun x6 =>
  (chk (x4 + 1)).bind fun z2 =>
  iR AA a0 k z2 x6
 else
  some x5
def jF (AA : Nat) (a0 : AM) : Nat -> Int -> Bool -> Option (Bool)
| 0, _, _ => none
| k + 1, x10, x11 =>
 if x10 < (a0.AC.length : Int) then
  (bif x11 then
   some true
  else
   (idx a0.AC x10).bind fun y5 =>
   (vC AA y5).bind fun y6 =>
   some (!y6)).bind fun x12 =>
  (chk (x10 + 1)).bind fun z3 =>
  jF AA a0 k z3 x12
 else
  some x11
def jS (y10 : Ah) : Nat -> Int -> Bool -> Option (Bool)
| 0, _, _ => none
| k + 1, x16, x17 =>
 if x16 < (y10.Ak.length : Int) then
  (bif x17 then
   some true
  else
   (idx y10.Ak x16).bind fun y11 =>
   some (decide (y11 = 0))).bind fun x18 =>
  (chk (x16 + 1)).bind fun z4 =>
  jS y10 k z4 x18
 else
  some x17
def jE (y10 : Ah) : Nat -> Int -> Bool -> Option (Bool)
| 0, _, _ => none
| k + 1, x22, x23 =>
 if x22 < (y10.Aj.length : Int) then
  (bif x23 then
   some true
  else
   (idx y10.Aj x22).bind fun y12 =>
   some (decide (y12 = 0))).bind fun x24 =>
  (chk (x22 + 1)).bind fun z5 =>
  jE y10 k z5 x24
 else
  some x23
def uT (AA : Nat) (a0 : AM) : Option (Ah) :=
 if 12 < (a0.AD.length : Int) then
  some (⟨(⟨a0.AD, a0.AB, a0.AC, a0.AE⟩ : AM), [], [], [], true⟩ : Ah)
 else
  if 60 < (a0.AB.length : Int) then
   some (⟨(⟨a0.AD, a0.AB, a0.AC, a0.AE⟩ : AM), [], [], [], true⟩ : Ah)
  else
   if 12 < (a0.AC.length : Int) then
    some (⟨(⟨a0.AD, a0.AB, a0.AC, a0.AE⟩ : AM), [], [], [], true⟩ : Ah)
   else
    (iR AA a0 AA 0 false).bind fun x1 =>
    (jF AA a0 AA 0 x1).bind fun x7 =>
    (mk 0 (a0.AB.length : Int)).bind fun y7 =>
    (mk 0 (a0.AB.length : Int)).bind fun y8 =>
    (mk 0 (a0.AC.length : Int)).bind fun y9 =>
    bif x7 then
     some (⟨(⟨a0.AD, a0.AB, a0.AC, a0.AE⟩ : AM), y7, y8, y9, x7⟩ : Ah)
    else
     (eR AA (⟨(⟨a0.AD, a0.AB, a0.AC, a0.AE⟩ : AM), y7, y8, y9, x7⟩ : Ah) a0.AE (a0.AD.length : Int)).bind fun y10 =>
     (jS y10 AA 0 y10.bad).bind fun x13 =>
     (jE y10 AA 0 x13).bind fun x19 =>
     some (⟨(⟨y10.p.AD, y10.p.AB, y10.p.AC, y10.p.AE⟩ : AM), y10.AV, y10.Ak, y10.Aj, x19⟩ : Ah)
theorem aHL (AA : Nat)  (a0 : AM) (r : Ah) (H : uT AA a0 = some r) : FnS Tryz.prog 80 [fSt iS a0] [] (bO tQ r) (fun _ => []) := by
 unfold uT at H
 refine bS Tryz.func80 rfl Tryz.ntmps80 rfl (fun β => ?_)
 refine Z1 ?_
 refine Tn (cV rfl hh cJ) fun b1 => ?_
 refine Z4 ?_
 refine Yy (gL (ψs := [fSl aC a0.AD, fSl aK a0.AB, fSl aA a0.AC, fI a0.AE, fEq (.slice none 0 0), fEq (.slice none 0 0), fEq (.slice none 0 0), aF false]) rfl aFg rfl (bP.cons (has rfl) cJ bP.nil) rfl) ?_
 refine Tn (cV rfl hh cJ) fun b2 => ?_
 refine Z2 ?_
 refine aJ ?_
 revert H; refine I6 (fun c1 H => ?_) fun c1 H => ?_
 refine Yt c1 ?_
 refine Yt c1 ?_
 refine Yt c1 ?_
 refine Yt c1 ?_
 refine Yy (bZ rfl hh c1 hh) ?_
 refine Z12 ?_
 refine bK (φs' := [fSl aC a0.AD, fSl aK a0.AB, fSl aA a0.AC, fI a0.AE, fEq (.slice none 0 0), fEq (.slice none 0 0), fEq (.slice none 0 0), aF true]) a1W rfl rfl (has rfl) (has rfl) (aG a1W) (sz rfl) rfl rfl ?_
 refine Z6 ?_
 refine bY (φ := bO tQ (⟨(⟨a0.AD, a0.AB, a0.AC, a0.AE⟩ : AM), [], [], [], true⟩ : Ah)) (v := ptr b2) [2, 10, 3, 27, 28, 30] (gS (aI.cons Ent.rfl (aI.cons Ent.rfl (aI.cons Ent.rfl (aI.cons Ent.rfl (aI.cons cH (aI.cons cH (aI.cons cH (aI.cons Ent.rfl aI.nil))))))))) fz ?_
 refine bX ?_
 cases H
 refine aH [] (by decide) ?_
 exact To
 refine Yg c1 (bE 1 rfl hh (fa rfl) rfl) ?_
 refine Yh 1 rfl c1 (aZ rfl hh (sc rfl) rfl Ent.rfl) ?_
 refine Yg c1 (eB rfl hh (us rfl)) ?_
 refine Yg c1 (eV rfl hh hh) ?_
 refine Yy (bG rfl hh c1 hh) ?_
 revert H; refine I1 (fun c2 H => ?_) fun c2 H => ?_
 refine Yt c2 ?_
 refine Yt c2 ?_
 refine Yt c2 ?_
 refine Yt c2 ?_
 refine Yy (bZ rfl hh c2 hh) ?_
 refine Z6 ?_
 refine bK (φs' := [fSl aC a0.AD, fSl aK a0.AB, fSl aA a0.AC, fI a0.AE, fEq (.slice none 0 0), fEq (.slice none 0 0), fEq (.slice none 0 0), aF true]) a1W rfl rfl (has rfl) (has rfl) (aG a1W) (sz rfl) rfl rfl ?_
 refine Z6 ?_
 refine bY (φ := bO tQ (⟨(⟨a0.AD, a0.AB, a0.AC, a0.AE⟩ : AM), [], [], [], true⟩ : Ah)) (v := ptr b2) [2, 10, 3, 27, 28, 30] (gS (aI.cons Ent.rfl (aI.cons Ent.rfl (aI.cons Ent.rfl (aI.cons Ent.rfl (aI.cons cH (aI.cons cH (aI.cons cH (aI.cons Ent.rfl aI.nil))))))))) fz ?_
 refine bX ?_
 cases H
 refine aH [] (by decide) ?_
 exact To
 refine Yg c2 (bE 2 rfl hh (fa rfl) rfl) ?_
 refine Yh 1 rfl c2 (aZ rfl hh (sc rfl) rfl Ent.rfl) ?_
 refine Yg c2 (eB rfl hh (us rfl)) ?_
 refine Yg c2 (eV rfl hh hh) ?_
 refine Yy (bG rfl hh c2 hh) ?_
 revert H; refine I1 (fun c3 H => ?_) fun c3 H => ?_
 refine cL hh c3 ?_
 refine Z4 ?_
 refine bK (φs' := [fSl aC a0.AD, fSl aK a0.AB, fSl aA a0.AC, fI a0.AE, fEq (.slice none 0 0), fEq (.slice none 0 0), fEq (.slice none 0 0), aF true]) a1W rfl rfl (has rfl) (has rfl) (aG a1W) (sz rfl) rfl rfl ?_
 refine Z6 ?_
 refine bY (φ := bO tQ (⟨(⟨a0.AD, a0.AB, a0.AC, a0.AE⟩ : AM), [], [], [], true⟩ : Ah)) (v := ptr b2) [2, 10, 3, 27, 28, 30] (gS (aI.cons Ent.rfl (aI.cons Ent.rfl (aI.cons Ent.rfl (aI.cons Ent.rfl (aI.cons cH (aI.cons cH (aI.cons cH (aI.cons Ent.rfl aI.nil))))))))) fz ?_
 refine bX ?_
 cases H
 refine aH [] (by decide) ?_
 exact To
 refine cM hh c3 ?_
 revert H; refine B2 fun o1 H Hr1 => ?_
 refine aP (ι := Bool) (fun i => o1 = i) (fun i => [(1, fEq (ptr b1)), (3, fEq (ptr b2))]) (fun i => [aD b2 146 [fSl aC a0.AD, fSl aK a0.AB, fSl aA a0.AC, fI a0.AE, fEq (.slice none 0 0), fEq (.slice none 0 0), fEq (.slice none 0 0), aF i], aD b1 38 [fSl aC a0.AD, fSl aK a0.AB, fSl aA a0.AC, fI a0.AE]]) ?_ ?_
 refine Z4 ?_
 refine Tl (ι := Nat × Int × Bool) (fun i => iR AA a0 i.1 i.2.1 i.2.2 = _) (fun i => i.1) (fun i => [(1, fEq (ptr b1)), (3, fEq (ptr b2)), (4, fI i.2.1)]) (fun i => [aD b2 146 [fSl aC a0.AD, fSl aK a0.AB, fSl aA a0.AC, fI a0.AE, fEq (.slice none 0 0), fEq (.slice none 0 0), fEq (.slice none 0 0), aF i.2.2], aD b1 38 [fSl aC a0.AD, fSl aK a0.AB, fSl aA a0.AC, fI a0.AE]]) (AA, 0, false) H ?_
 clear H; rintro ⟨k1, x4, x5⟩ H
 replace H : iR AA a0 k1 x4 x5 = _ := H
 try dsimp only
 obtain _ | k1 := k1
 rw [iR] at H; cases H
 rw [iR] at H
 refine aJ ?_
 revert H; refine I7 (fun c4 H => ?_) fun c4 H => ?_
 refine cL hh c4 ?_
 revert H; refine B2 fun o2 H Hr2 => ?_
 refine aP (ι := Bool) (fun i => o2 = i) (fun i => [(1, fEq (ptr b1)), (3, fEq (ptr b2)), (4, fI x4)]) (fun i => [aD b2 146 [fSl aC a0.AD, fSl aK a0.AB, fSl aA a0.AC, fI a0.AE, fEq (.slice none 0 0), fEq (.slice none 0 0), fEq (.slice none 0 0), aF i], aD b1 38 [fSl aC a0.AD, fSl aK a0.AB, fSl aA a0.AC, fI a0.AE]]) ?_ ?_
 refine Z1 ?_
 revert H; refine cs (fun c5 H => ?_) fun c5 H => ?_
 apply bL (ods := [_, _, _, _, _, _, _, _, _, _, _, _, _, _, _, _, _, _, _, _, _, _, _, _, _, _, _, _, _, _, _, _, _, _, _]) 35 0 2 bM rfl rfl rfl
 refine ND ?_
 refine M6 ?_
 intros
 refine Mt c5 fun _ => ?_
 refine Mt c5 fun _ => ?_
 refine Mt c5 fun _ => ?_
 refine Mt c5 fun _ => ?_
 refine Mt c5 fun _ => ?_
 refine Mt c5 fun _ => ?_
 refine Mt c5 fun _ => ?_
 refine My (bZ rfl hh c5 hh) fun _ => ?_
 refine M4 ?_
 intros
 refine cT (od := odS) rfl (⟨_, _, _, _, rfl, rfl, rfl, nu⟩) rfl (fun _ => ?_)
 refine cT (od := odS) rfl (⟨_, _, _, _, rfl, rfl, rfl, nu⟩) rfl (fun _ => ?_)
 refine cT (od := odS) rfl (⟨_, _, _, _, rfl, rfl, rfl, nu⟩) rfl (fun _ => ?_)
 refine cT (od := odS) rfl (⟨_, _, _, _, rfl, rfl, rfl, nu⟩) rfl (fun _ => ?_)
 refine cT (od := odS) rfl (⟨_, _, _, _, rfl, rfl, rfl, nu⟩) rfl (fun _ => ?_)
 refine cT (od := odS) rfl (⟨_, _, _, _, rfl, rfl, rfl, nu⟩) rfl (fun _ => ?_)
 refine cT (od := odS) rfl (⟨_, _, _, _, rfl, rfl, rfl, nu⟩) rfl (fun _ => ?_)
 refine cT (od := odS) rfl (⟨_, _, _, _, rfl, rfl, rfl, nu⟩) rfl (fun _ => ?_)
 refine cT (od := odS) rfl (⟨_, _, _, _, rfl, rfl, rfl, nu⟩) rfl (fun _ => ?_)
 refine cT (od := odS) rfl (⟨_, _, _, _, rfl, rfl, rfl, nu⟩) rfl (fun _ => ?_)
 refine cT (od := odS) rfl (⟨_, _, _, _, rfl, rfl, rfl, nu⟩) rfl (fun _ => ?_)
 refine cT (od := odS) rfl (⟨_, _, _, _, rfl, rfl, rfl, nu⟩) rfl (fun _ => ?_)
 refine M4 ?_
 intros
 refine nQ (od := odC [0] true (dN) [aD b2 146 [fSl aC a0.AD, fSl aK a0.AB, fSl aA a0.AC, fI a0.AE, fEq (.slice none 0 0), fEq (.slice none 0 0), fEq (.slice none 0 0), aF true]]) (p := 0) (φs' := [fSl aC a0.AD, fSl aK a0.AB, fSl aA a0.AC, fI a0.AE, fEq (.slice none 0 0), fEq (.slice none 0 0), fEq (.slice none 0 0), aF true]) rfl (fun _ => rfl) (fun _ => rfl) a1W rfl rfl rfl (has rfl) (has rfl) (aG a1W) (sz rfl) rfl rfl (fun _ => ?_)
 refine Z4 ?_
 exact Tm (true) (ij H)
 exact fk
 kernel_rfl
 revert H; refine bs fun y1 h1 H => ?_
 revert H; refine bs fun y2 h2 H => ?_
 revert H; refine cs (fun c6 H => ?_) fun c6 H => ?_
 apply bL (ods := [_, _, _, _, _, _, _, _, _, _, _, _, _, _, _, _, _, _, _, _, _, _, _, _, _, _, _, _, _, _, _, _, _, _, _]) 35 0 2 bM rfl rfl rfl
 refine ND ?_
 refine M6 ?_
 intros
 refine Mg c5 (bE 0 rfl hh (fa rfl) rfl) fun _ => ?_
 refine dQ (od := odC [1] false (fSl aC a0.AD) [dA]) (ps := [1]) (φ := fSl aC a0.AD) rfl (fun _ => rfl) ⟨_, _, rfl, rfl, c5⟩ rfl rfl (aZ rfl hh (sc rfl) rfl Ent.rfl) (fun _ => ?_)
 refine Mg c5 (bC rfl hh) fun _ => ?_
 refine Mg c5 (cF rfl hh hh (el rfl) h1) fun _ => ?_
 refine Mg c5 (fQ rfl hh (sc rfl) rfl) fun _ => ?_
 refine Nc (aAG _ _ _ h2) fun _ => ?_
 refine Mg c5 (iJ rfl hh) fun _ => ?_
 refine My (bG rfl hh c5 hh) fun _ => ?_
 refine M1 ?_
 intros
 refine Mt c6 fun _ => ?_
 refine Mt c6 fun _ => ?_
 refine Mt c6 fun _ => ?_
 refine cT (od := odS) rfl (⟨_, _, _, _, rfl, rfl, rfl, nu⟩) rfl (fun _ => ?_)
 refine cT (od := odS) rfl (⟨_, _, _, _, rfl, rfl, rfl, nu⟩) rfl (fun _ => ?_)
 refine cT (od := odS) rfl (⟨_, _, _, _, rfl, rfl, rfl, nu⟩) rfl (fun _ => ?_)
 refine cT (od := odS) rfl (⟨_, _, _, _, rfl, rfl, rfl, nu⟩) rfl (fun _ => ?_)
 refine cT (od := odS) rfl (⟨_, _, _, _, rfl, rfl, rfl, nu⟩) rfl (fun _ => ?_)
 refine cT (od := odS) rfl (⟨_, _, _, _, rfl, rfl, rfl, nu⟩) rfl (fun _ => ?_)
 refine cT (od := odS) rfl (⟨_, _, _, _, rfl, rfl, rfl, nu⟩) rfl (fun _ => ?_)
 refine cT (od := odS) rfl (⟨_, _, _, _, rfl, rfl, rfl, nu⟩) rfl (fun _ => ?_)
 refine cT (od := odS) rfl (⟨_, _, _, _, rfl, rfl, rfl, nu⟩) rfl (fun _ => ?_)
 refine cT (od := odS) rfl (⟨_, _, _, _, rfl, rfl, rfl, nu⟩) rfl (fun _ => ?_)
 refine cT (od := odS) rfl (⟨_, _, _, _, rfl, rfl, rfl, nu⟩) rfl (fun _ => ?_)
 refine cT (od := odS) rfl (⟨_, _, _, _, rfl, rfl, rfl, nu⟩) rfl (fun _ => ?_)
 refine Mt c6 fun _ => ?_
 refine My (bZ rfl hh c6 hh) fun _ => ?_
 refine M2 ?_
 intros
 refine nQ (od := odC [0] true (dN) [aD b2 146 [fSl aC a0.AD, fSl aK a0.AB, fSl aA a0.AC, fI a0.AE, fEq (.slice none 0 0), fEq (.slice none 0 0), fEq (.slice none 0 0), aF true]]) (p := 0) (φs' := [fSl aC a0.AD, fSl aK a0.AB, fSl aA a0.AC, fI a0.AE, fEq (.slice none 0 0), fEq (.slice none 0 0), fEq (.slice none 0 0), aF true]) rfl (fun _ => rfl) (fun _ => rfl) a1W rfl rfl rfl (has rfl) (has rfl) (aG a1W) (sz rfl) rfl rfl (fun _ => ?_)
 refine Z4 ?_
 exact Tm (true) (ij H)
 exact fk
 kernel_rfl
 revert H; refine is (fun c7 H => ?_) fun c7 H => ?_
 revert H; refine bs fun y3 h3 H => ?_
 revert H; refine bs fun z1 h4 H => ?_
 revert H; refine bs fun y4 h5 H => ?_
 apply bL (ods := [_, _, _, _, _, _, _, _, _, _, _, _, _, _, _, _, _, _, _, _, _, _, _, _, _, _, _, _, _, _, _, _, _, _, _]) 35 0 2 bM rfl rfl rfl
 refine ND ?_
 refine M6 ?_
 intros
 refine Mg c5 (bE 0 rfl hh (fa rfl) rfl) fun _ => ?_
 refine dQ (od := odC [1] false (fSl aC a0.AD) [dA]) (ps := [1]) (φ := fSl aC a0.AD) rfl (fun _ => rfl) ⟨_, _, rfl, rfl, c5⟩ rfl rfl (aZ rfl hh (sc rfl) rfl Ent.rfl) (fun _ => ?_)
 refine Mg c5 (bC rfl hh) fun _ => ?_
 refine Mg c5 (cF rfl hh hh (el rfl) h1) fun _ => ?_
 refine Mg c5 (fQ rfl hh (sc rfl) rfl) fun _ => ?_
 refine Nc (aAG _ _ _ h2) fun _ => ?_
 refine Mg c5 (iJ rfl hh) fun _ => ?_
 refine My (bG rfl hh c5 hh) fun _ => ?_
 refine M1 ?_
 intros
 refine Mg c6 (bC rfl hh) fun _ => ?_
 refine Mg c6 (eV rfl hh hh) fun _ => ?_
 refine Mg c6 (bC rfl hh) fun _ => ?_
 refine Mg c7 (bE 0 rfl hh (fa rfl) rfl) fun _ => ?_
 refine dQ (od := odC [1] false (fSl aC a0.AD) [dA]) (ps := [1]) (φ := fSl aC a0.AD) rfl (fun _ => rfl) ⟨_, _, rfl, rfl, c7⟩ rfl rfl (aZ rfl hh (sc rfl) rfl Ent.rfl) (fun _ => ?_)
 refine Mg c7 (bC rfl hh) fun _ => ?_
 refine Mg c7 (cF rfl hh hh (el rfl) h3) fun _ => ?_
 refine Mg c7 (fQ rfl hh (sc rfl) rfl) fun _ => ?_
 refine Mg c7 (bE 0 rfl hh (fa rfl) rfl) fun _ => ?_
 refine dQ (od := odC [1] false (fSl aC a0.AD) [dA]) (ps := [1]) (φ := fSl aC a0.AD) rfl (fun _ => rfl) ⟨_, _, rfl, rfl, c7⟩ rfl rfl (aZ rfl hh (sc rfl) rfl Ent.rfl) (fun _ => ?_)
 refine Mg c7 (bC rfl hh) fun _ => ?_
 refine Mg c7 (o_sub rfl hh hh h4) fun _ => ?_
 refine Mg c7 (cF rfl hh hh (el rfl) h5) fun _ => ?_
 refine Mg c7 (fQ rfl hh (sc rfl) rfl) fun _ => ?_
 refine Mg c7 (o_leqS rfl hh hh) fun _ => ?_
 refine Mg c6 (bZ rfl hh c7 hh) fun _ => ?_
 refine My (bG rfl hh c6 hh) fun _ => ?_
 refine M2 ?_
 intros
 refine nQ (od := odC [0] true (dN) [aD b2 146 [fSl aC a0.AD, fSl aK a0.AB, fSl aA a0.AC, fI a0.AE, fEq (.slice none 0 0), fEq (.slice none 0 0), fEq (.slice none 0 0), aF (sle y3 y4)]]) (p := 0) (φs' := [fSl aC a0.AD, fSl aK a0.AB, fSl aA a0.AC, fI a0.AE, fEq (.slice none 0 0), fEq (.slice none 0 0), fEq (.slice none 0 0), aF (sle y3 y4)]) rfl (fun _ => rfl) (fun _ => rfl) a1W rfl rfl rfl (has rfl) (has rfl) (aG a1W) (sz rfl) rfl rfl (fun _ => ?_)
 refine Z4 ?_
 exact Tm (sle y3 y4) (ij H)
 exact fk
 kernel_rfl
 apply bL (ods := [_, _, _, _, _, _, _, _, _, _, _, _, _, _, _, _, _, _, _, _, _, _, _, _, _, _, _, _, _, _, _, _, _, _, _]) 35 0 2 bM rfl rfl rfl
 refine ND ?_
 refine M6 ?_
 intros
 refine Mg c5 (bE 0 rfl hh (fa rfl) rfl) fun _ => ?_
 refine dQ (od := odC [1] false (fSl aC a0.AD) [dA]) (ps := [1]) (φ := fSl aC a0.AD) rfl (fun _ => rfl) ⟨_, _, rfl, rfl, c5⟩ rfl rfl (aZ rfl hh (sc rfl) rfl Ent.rfl) (fun _ => ?_)
 refine Mg c5 (bC rfl hh) fun _ => ?_
 refine Mg c5 (cF rfl hh hh (el rfl) h1) fun _ => ?_
 refine Mg c5 (fQ rfl hh (sc rfl) rfl) fun _ => ?_
 refine Nc (aAG _ _ _ h2) fun _ => ?_
 refine Mg c5 (iJ rfl hh) fun _ => ?_
 refine My (bG rfl hh c5 hh) fun _ => ?_
 refine M1 ?_
 intros
 refine Mg c6 (bC rfl hh) fun _ => ?_
 refine Mg c6 (eV rfl hh hh) fun _ => ?_
 refine Mg c6 (bC rfl hh) fun _ => ?_
 refine Mz c7 fun _ => ?_
 refine Mz c7 fun _ => ?_
 refine Mz c7 fun _ => ?_
 refine Mz c7 fun _ => ?_
 refine Mz c7 fun _ => ?_
 refine Mz c7 fun _ => ?_
 refine Mz c7 fun _ => ?_
 refine Mz c7 fun _ => ?_
 refine Mz c7 fun _ => ?_
 refine Mz c7 fun _ => ?_
 refine Mz c7 fun _ => ?_
 refine Mz c7 fun _ => ?_
 refine Mg c6 (bG rfl hh c7 hh) fun _ => ?_
 refine My (bG rfl hh c6 hh) fun _ => ?_
 refine M2 ?_
 intros
 refine nQ (od := odC [0] true (dN) [aD b2 146 [fSl aC a0.AD, fSl aK a0.AB, fSl aA a0.AC, fI a0.AE, fEq (.slice none 0 0), fEq (.slice none 0 0), fEq (.slice none 0 0), aF false]]) (p := 0) (φs' := [fSl aC a0.AD, fSl aK a0.AB, fSl aA a0.AC, fI a0.AE, fEq (.slice none 0 0), fEq (.slice none 0 0), fEq (.slice none 0 0), aF false]) rfl (fun _ => rfl) (fun _ => rfl) a1W rfl rfl rfl (has rfl) (has rfl) (aG a1W) (sz rfl) rfl rfl (fun _ => ?_)
 refine Z4 ?_
 exact Tm (false) (ij H)
 exact fk
 kernel_rfl
 clear H; intro x6 hi; subst o2; have H := Hr2; clear Hr2; try dsimp only at H
 try dsimp only
 revert H; refine B2 fun z2 h6 H => ?_
 refine Yy (dT rfl hh hh h6) ?_
 refine Z2 ?_
 exact Tm ((k1, z2, x6)) ⟨H, ls⟩
 refine cM hh c4 ?_
 refine Z5 ?_
 exact Tm (x5) (ij H)
 clear H; intro x1 hi; subst o1; have H := Hr1; clear Hr1; try dsimp only at H
 try dsimp only
 revert H; refine bs fun o3 H Hr3 => ?_
 refine aP (ι := Bool) (fun i => o3 = i) (fun i => [(1, fEq (ptr b1)), (3, fEq (ptr b2))]) (fun i => [aD b2 146 [fSl aC a0.AD, fSl aK a0.AB, fSl aA a0.AC, fI a0.AE, fEq (.slice none 0 0), fEq (.slice none 0 0), fEq (.slice none 0 0), aF i], aD b1 38 [fSl aC a0.AD, fSl aK a0.AB, fSl aA a0.AC, fI a0.AE]]) ?_ ?_
 refine Z4 ?_
 refine Tl (ι := Nat × Int × Bool) (fun i => jF AA a0 i.1 i.2.1 i.2.2 = _) (fun i => i.1) (fun i => [(1, fEq (ptr b1)), (3, fEq (ptr b2)), (5, fI i.2.1)]) (fun i => [aD b2 146 [fSl aC a0.AD, fSl aK a0.AB, fSl aA a0.AC, fI a0.AE, fEq (.slice none 0 0), fEq (.slice none 0 0), fEq (.slice none 0 0), aF i.2.2], aD b1 38 [fSl aC a0.AD, fSl aK a0.AB, fSl aA a0.AC, fI a0.AE]]) (AA, 0, x1) H ?_
 clear H; rintro ⟨k2, x10, x11⟩ H
 replace H : jF AA a0 k2 x10 x11 = _ := H
 try dsimp only
 obtain _ | k2 := k2
 rw [jF] at H; cases H
 rw [jF] at H
 refine aJ ?_
 revert H; refine I7 (fun c8 H => ?_) fun c8 H => ?_
 refine cL hh c8 ?_
 revert H; refine B2 fun o4 H Hr4 => ?_
 refine aP (ι := Bool) (fun i => o4 = i) (fun i => [(1, fEq (ptr b1)), (3, fEq (ptr b2)), (5, fI x10)]) (fun i => [aD b2 146 [fSl aC a0.AD, fSl aK a0.AB, fSl aA a0.AC, fI a0.AE, fEq (.slice none 0 0), fEq (.slice none 0 0), fEq (.slice none 0 0), aF i], aD b1 38 [fSl aC a0.AD, fSl aK a0.AB, fSl aA a0.AC, fI a0.AE]]) ?_ ?_
 refine Z8 ?_
 revert H; refine cs (fun c9 H => ?_) fun c9 H => ?_
 refine Yt c9 ?_
 refine Yt c9 ?_
 refine Yt c9 ?_
 refine Yt c9 ?_
 refine Yt c9 ?_
 refine Yt c9 ?_
 refine Yt c9 ?_
 refine Yy (bZ rfl hh c9 hh) ?_
 refine Z2 ?_
 refine bK (φs' := [fSl aC a0.AD, fSl aK a0.AB, fSl aA a0.AC, fI a0.AE, fEq (.slice none 0 0), fEq (.slice none 0 0), fEq (.slice none 0 0), aF true]) a1W rfl rfl (has rfl) (has rfl) (aG a1W) (sz rfl) rfl rfl ?_
 refine Z3 ?_
 exact Tm (true) (ij H)
 refine Yg c9 (bE 2 rfl hh (fa rfl) rfl) ?_
 refine Yh 1 rfl c9 (aZ rfl hh (sc rfl) rfl Ent.rfl) ?_
 refine Yg c9 (bC rfl hh) ?_
 revert H; refine bs fun y5 h7 H => ?_
 refine Yg c9 (cF rfl hh hh (el rfl) h7) ?_
 refine Yg c9 (aAp rfl hh (ag rfl)) ?_
 revert H; refine bs fun y6 h8 H => ?_
 refine Tc (aGL _ _ _ h8) ?_
 refine Yg c9 (iJ rfl hh) ?_
 refine Yy (bG rfl hh c9 hh) ?_
 refine Z2 ?_
 refine bK (φs' := [fSl aC a0.AD, fSl aK a0.AB, fSl aA a0.AC, fI a0.AE, fEq (.slice none 0 0), fEq (.slice none 0 0), fEq (.slice none 0 0), aF (!y6)]) a1W rfl rfl (has rfl) (has rfl) (aG a1W) (sz rfl) rfl rfl ?_
 refine Z3 ?_
 exact Tm (!y6) (ij H)
 clear H; intro x12 hi; subst o4; have H := Hr4; clear Hr4; try dsimp only at H
 try dsimp only
 revert H; refine B2 fun z3 h9 H => ?_
 refine Yy (dT rfl hh hh h9) ?_
 refine Z2 ?_
 exact Tm ((k2, z3, x12)) ⟨H, ls⟩
 refine cM hh c8 ?_
 refine Z5 ?_
 exact Tm (x11) (ij H)
 clear H; intro x7 hi; subst o3; have H := Hr3; clear Hr3; try dsimp only at H
 try dsimp only
 refine aJ ?_
 revert H; refine bs fun y7 h10 H => ?_
 revert H; refine bs fun y8 h11 H => ?_
 revert H; refine bs fun y9 h12 H => ?_
 apply bL (ods := [_, _, _, _, _, _, _, _, _, _, _, _, _, _, _, _, _, _, _, _, _, _, _, _]) 24 3 5 bM rfl rfl rfl
 refine ND ?_
 refine M6 ?_
 intros
 refine Mn 2 (fun b3 => .slice (some ⟨b3, 0, none⟩) y7.length y7.length) (fun b3 => aB (.slice (some ⟨b3, 0, none⟩) y7.length y7.length) 3 tI y7) rfl (lL (t := tI) (z := 0) rfl (has rfl) (et rfl) rfl rZ rfl h10) (fun b3 u1 => ?_)
 refine M3 ?_
 intros
 refine Mn 3 (fun b4 => .slice (some ⟨b4, 0, none⟩) y8.length y8.length) (fun b4 => aB (.slice (some ⟨b4, 0, none⟩) y8.length y8.length) 3 tI y8) rfl (lL (t := tI) (z := 0) rfl (has rfl) (et rfl) rfl rZ rfl h11) (fun b4 u2 => ?_)
 refine M3 ?_
 intros
 refine Mn 4 (fun b5 => .slice (some ⟨b5, 0, none⟩) y9.length y9.length) (fun b5 => aB (.slice (some ⟨b5, 0, none⟩) y9.length y9.length) 3 tI y9) rfl (lL (t := tI) (z := 0) rfl (has rfl) (et rfl) rfl rZ rfl h12) (fun b5 u3 => ?_)
 refine M2 ?_
 intros
 refine nQ (od := od1 6 [0] true (fun b3 _ => dN) (fun b3 _ => [aD b2 146 [fSl aC a0.AD, fSl aK a0.AB, fSl aA a0.AC, fI a0.AE, fEq (.slice (some ⟨b3, 0, none⟩) y7.length y7.length), fEq (.slice none 0 0), fEq (.slice none 0 0), aF x7]])) (p := 0) (φs' := [fSl aC a0.AD, fSl aK a0.AB, fSl aA a0.AC, fI a0.AE, fEq (.slice (some ⟨b3, 0, none⟩) y7.length y7.length), fEq (.slice none 0 0), fEq (.slice none 0 0), aF x7]) rfl (fun _ => rfl) (fun _ => rfl) a1W rfl rfl rfl (has rfl) (has rfl) (aG a1W) (sz rfl) rfl rfl (fun _ => ?_)
 refine M2 ?_
 intros
 refine nQ (od := od2 6 10 [0] true (fun b3 _ b4 _ => dN) (fun b3 _ b4 _ => [aD b2 146 [fSl aC a0.AD, fSl aK a0.AB, fSl aA a0.AC, fI a0.AE, fEq (.slice (some ⟨b3, 0, none⟩) y7.length y7.length), fEq (.slice (some ⟨b4, 0, none⟩) y8.length y8.length), fEq (.slice none 0 0), aF x7]])) (p := 0) (φs' := [fSl aC a0.AD, fSl aK a0.AB, fSl aA a0.AC, fI a0.AE, fEq (.slice (some ⟨b3, 0, none⟩) y7.length y7.length), fEq (.slice (some ⟨b4, 0, none⟩) y8.length y8.length), fEq (.slice none 0 0), aF x7]) rfl (fun _ => rfl) (fun _ => rfl) a1W rfl rfl rfl (has rfl) (has rfl) (aG a1W) (sz rfl) rfl rfl (fun _ => ?_)
 refine M2 ?_
 intros
 refine nQ (od := od3 6 10 14 [0] true (fun b3 _ b4 _ b5 _ => dN) (fun b3 _ b4 _ b5 _ => [aD b2 146 [fSl aC a0.AD, fSl aK a0.AB, fSl aA a0.AC, fI a0.AE, fEq (.slice (some ⟨b3, 0, none⟩) y7.length y7.length), fEq (.slice (some ⟨b4, 0, none⟩) y8.length y8.length), fEq (.slice (some ⟨b5, 0, none⟩) y9.length y9.length), aF x7]])) (p := 0) (φs' := [fSl aC a0.AD, fSl aK a0.AB, fSl aA a0.AC, fI a0.AE, fEq (.slice (some ⟨b3, 0, none⟩) y7.length y7.length), fEq (.slice (some ⟨b4, 0, none⟩) y8.length y8.length), fEq (.slice (some ⟨b5, 0, none⟩) y9.length y9.length), aF x7]) rfl (fun _ => rfl) (fun _ => rfl) a1W rfl rfl rfl (has rfl) (has rfl) (aG a1W) (sz rfl) rfl rfl (fun _ => ?_)
 refine Z1 ?_
 generalize (Value.slice (some ⟨b3, 0, none⟩) _ _) = v1
 refine aE 2 rfl (fun hc_v1 => ?_)
 generalize (Value.slice (some ⟨b4, 0, none⟩) _ _) = v2
 refine aE 3 rfl (fun hc_v2 => ?_)
 generalize (Value.slice (some ⟨b5, 0, none⟩) _ _) = v3
 refine aE 4 rfl (fun hc_v3 => ?_)
 refine Z1 ?_
 refine aJ ?_
 refine Z6 ?_
 revert H; refine cs (fun c10 H => ?_) fun c10 H => ?_
 refine cL hh c10 ?_
 refine Z5 ?_
 refine eH ?_
 refine bY (φ := fSl tI y7) (v := v1) [101] cU fz ?_
 refine dJ (φs' := [fSl aC a0.AD, fSl aK a0.AB, fSl aA a0.AC, fI a0.AE, fSl tI y7, fEq v2, fEq v3, aF x7]) (i := 4) rfl rfl ?_
 refine bX ?_
 refine eH ?_
 refine bY (φ := fSl tI y8) (v := v2) [105] cU fz ?_
 refine dJ (φs' := [fSl aC a0.AD, fSl aK a0.AB, fSl aA a0.AC, fI a0.AE, fSl tI y7, fSl tI y8, fEq v3, aF x7]) (i := 5) rfl rfl ?_
 refine bX ?_
 refine eH ?_
 refine bY (φ := fSl tI y9) (v := v3) [109] cU fz ?_
 refine dJ (φs' := [fSl aC a0.AD, fSl aK a0.AB, fSl aA a0.AC, fI a0.AE, fSl tI y7, fSl tI y8, fSl tI y9, aF x7]) (i := 6) rfl rfl ?_
 refine bX ?_
 refine bY (φ := bO tQ (⟨(⟨a0.AD, a0.AB, a0.AC, a0.AE⟩ : AM), y7, y8, y9, x7⟩ : Ah)) (v := ptr b2) [3, 95, 96, 97, 110, 112, 114, 116, 117, 120, 2] (gS aI.rfl) fz ?_
 refine bX ?_
 cases H
 refine aH [] (by decide) ?_
 exact To
 refine cM hh c10 ?_
 refine Z9 ?_
 refine bH ?_
 refine bH ?_
 refine bH ?_
 refine dM ?_
 refine fP (x := (⟨(⟨a0.AD, a0.AB, a0.AC, a0.AE⟩ : AM), y7, y8, y9, x7⟩ : Ah)) ?_
 revert H; refine bs fun y10 h13 H => ?_
 refine Tc (aGp _ _ _ _ _ _ h13) ?_
 refine rB (fun v4 v5 v6 => ?_)
 refine aE 1 rfl (fun hc_v4 => ?_)
 refine aE 2 rfl (fun hc_v5 => ?_)
 refine aE 3 rfl (fun hc_v6 => ?_)
 revert H; refine B1 fun o5 H Hr5 => ?_
 refine aP (ι := Bool) (fun i => o5 = i) (fun i => [(3, fEq (ptr b2))]) (fun i => [aD b2 146 [fSl aC y10.p.AD, fSl aK y10.p.AB, fSl aA y10.p.AC, fI y10.p.AE, fEq v4, fEq v5, fEq v6, aF i], aD b1 38 [fSl aC a0.AD, fSl aK a0.AB, fSl aA a0.AC, fI a0.AE], aB v4 3 tI y10.AV, aB v5 3 tI y10.Ak, aB v6 3 tI y10.Aj]) ?_ ?_
 refine Z4 ?_
 refine aH [0, 4, 1, 2, 3] (by decide) ?_
 refine Tl (ι := Nat × Int × Bool) (fun i => jS y10 i.1 i.2.1 i.2.2 = _) (fun i => i.1) (fun i => [(3, fEq (ptr b2)), (6, fI i.2.1)]) (fun i => [aD b2 146 [fSl aC y10.p.AD, fSl aK y10.p.AB, fSl aA y10.p.AC, fI y10.p.AE, fEq v4, fEq v5, fEq v6, aF i.2.2], aD b1 38 [fSl aC a0.AD, fSl aK a0.AB, fSl aA a0.AC, fI a0.AE], aB v4 3 tI y10.AV, aB v5 3 tI y10.Ak, aB v6 3 tI y10.Aj]) (AA, 0, y10.bad) H ?_
 clear H; rintro ⟨k3, x16, x17⟩ H
 replace H : jS y10 k3 x16 x17 = _ := H
 try dsimp only
 obtain _ | k3 := k3
 rw [jS] at H; cases H
 rw [jS] at H
 refine aJ ?_
 revert H; refine I9 (fun c11 H => ?_) fun c11 H => ?_
 refine cL hh c11 ?_
 revert H; refine B2 fun o6 H Hr6 => ?_
 refine aP (ι := Bool) (fun i => o6 = i) (fun i => [(3, fEq (ptr b2)), (6, fI x16)]) (fun i => [aD b2 146 [fSl aC y10.p.AD, fSl aK y10.p.AB, fSl aA y10.p.AC, fI y10.p.AE, fEq v4, fEq v5, fEq v6, aF i], aD b1 38 [fSl aC a0.AD, fSl aK a0.AB, fSl aA a0.AC, fI a0.AE], aB v4 3 tI y10.AV, aB v5 3 tI y10.Ak, aB v6 3 tI y10.Aj]) ?_ ?_
 refine Z8 ?_
 revert H; refine cs (fun c12 H => ?_) fun c12 H => ?_
 refine Yt c12 ?_
 refine Yt c12 ?_
 refine Yt c12 ?_
 refine Yt c12 ?_
 refine Yt c12 ?_
 refine Yt c12 ?_
 refine Yt c12 ?_
 refine Yt c12 ?_
 refine Yy (bZ rfl hh c12 hh) ?_
 refine Z2 ?_
 refine bK (φs' := [fSl aC y10.p.AD, fSl aK y10.p.AB, fSl aA y10.p.AC, fI y10.p.AE, fEq v4, fEq v5, fEq v6, aF true]) a1W rfl rfl (has rfl) (has rfl) (aG a1W) (sz rfl) rfl rfl ?_
 refine Z3 ?_
 exact Tm (true) (ij H)
 refine Yg c12 (bC rfl hh) ?_
 refine Yg c12 (fY rfl (has rfl) (fun m v h => ⟨_, h⟩)) ?_
 refine Yg c12 (bE 5 rfl hh (fa rfl) rfl) ?_
 refine Yh 0 rfl c12 (aZ rfl hh (sc rfl) rfl Ent.rfl) ?_
 refine Yg c12 (bC rfl hh) ?_
 revert H; refine bs fun y11 h14 H => ?_
 refine Yh 3 rfl c12 (fZ rfl hh hh (el rfl) h14) ?_
 refine Yh 3 rfl c12 (iV rfl rfl hh (sc rfl) (eD h14) rfl) ?_
 refine Yg c12 (sH rfl hh hh) ?_
 refine Yy (bG rfl hh c12 hh) ?_
 refine Z2 ?_
 refine bK (φs' := [fSl aC y10.p.AD, fSl aK y10.p.AB, fSl aA y10.p.AC, fI y10.p.AE, fEq v4, fEq v5, fEq v6, aF (decide (y11 = 0))]) a1W rfl rfl (has rfl) (has rfl) (aG a1W) (sz rfl) rfl rfl ?_
 refine Z3 ?_
 exact Tm (decide (y11 = 0)) (ij H)
 clear H; intro x18 hi; subst o6; have H := Hr6; clear Hr6; try dsimp only at H
 try dsimp only
 revert H; refine B2 fun z4 h15 H => ?_
 refine Yy (dT rfl hh hh h15) ?_
 refine Z2 ?_
 exact Tm ((k3, z4, x18)) ⟨H, ls⟩
 refine cM hh c11 ?_
 refine Z5 ?_
 exact Tm (x17) (ij H)
 clear H; intro x13 hi; subst o5; have H := Hr5; clear Hr5; try dsimp only at H
 try dsimp only
 revert H; refine bs fun o7 H Hr7 => ?_
 refine aP (ι := Bool) (fun i => o7 = i) (fun i => [(3, fEq (ptr b2))]) (fun i => [aD b2 146 [fSl aC y10.p.AD, fSl aK y10.p.AB, fSl aA y10.p.AC, fI y10.p.AE, fEq v4, fEq v5, fEq v6, aF i], aD b1 38 [fSl aC a0.AD, fSl aK a0.AB, fSl aA a0.AC, fI a0.AE], aB v4 3 tI y10.AV, aB v5 3 tI y10.Ak, aB v6 3 tI y10.Aj]) ?_ ?_
 refine Z4 ?_
 refine Tl (ι := Nat × Int × Bool) (fun i => jE y10 i.1 i.2.1 i.2.2 = _) (fun i => i.1) (fun i => [(3, fEq (ptr b2)), (7, fI i.2.1)]) (fun i => [aD b2 146 [fSl aC y10.p.AD, fSl aK y10.p.AB, fSl aA y10.p.AC, fI y10.p.AE, fEq v4, fEq v5, fEq v6, aF i.2.2], aD b1 38 [fSl aC a0.AD, fSl aK a0.AB, fSl aA a0.AC, fI a0.AE], aB v4 3 tI y10.AV, aB v5 3 tI y10.Ak, aB v6 3 tI y10.Aj]) (AA, 0, x13) H ?_
 clear H; rintro ⟨k4, x22, x23⟩ H
 replace H : jE y10 k4 x22 x23 = _ := H
 try dsimp only
 obtain _ | k4 := k4
 rw [jE] at H; cases H
 rw [jE] at H
 refine aJ ?_
 revert H; refine I9 (fun c13 H => ?_) fun c13 H => ?_
 refine cL hh c13 ?_
 revert H; refine B2 fun o8 H Hr8 => ?_
 refine aP (ι := Bool) (fun i => o8 = i) (fun i => [(3, fEq (ptr b2)), (7, fI x22)]) (fun i => [aD b2 146 [fSl aC y10.p.AD, fSl aK y10.p.AB, fSl aA y10.p.AC, fI y10.p.AE, fEq v4, fEq v5, fEq v6, aF i], aD b1 38 [fSl aC a0.AD, fSl aK a0.AB, fSl aA a0.AC, fI a0.AE], aB v4 3 tI y10.AV, aB v5 3 tI y10.Ak, aB v6 3 tI y10.Aj]) ?_ ?_
 refine Z8 ?_
 revert H; refine cs (fun c14 H => ?_) fun c14 H => ?_
 refine Yt c14 ?_
 refine Yt c14 ?_
 refine Yt c14 ?_
 refine Yt c14 ?_
 refine Yt c14 ?_
 refine Yt c14 ?_
 refine Yt c14 ?_
 refine Yt c14 ?_
 refine Yy (bZ rfl hh c14 hh) ?_
 refine Z2 ?_
 refine bK (φs' := [fSl aC y10.p.AD, fSl aK y10.p.AB, fSl aA y10.p.AC, fI y10.p.AE, fEq v4, fEq v5, fEq v6, aF true]) a1W rfl rfl (has rfl) (has rfl) (aG a1W) (sz rfl) rfl rfl ?_
 refine Z3 ?_
 exact Tm (true) (ij H)
 refine Yg c14 (bC rfl hh) ?_
 refine Yg c14 (fY rfl (has rfl) (fun m v h => ⟨_, h⟩)) ?_
 refine Yg c14 (bE 6 rfl hh (fa rfl) rfl) ?_
 refine Yh 0 rfl c14 (aZ rfl hh (sc rfl) rfl Ent.rfl) ?_
 refine Yg c14 (bC rfl hh) ?_
 revert H; refine bs fun y12 h16 H => ?_
 refine Yh 4 rfl c14 (fZ rfl hh hh (el rfl) h16) ?_
 refine Yh 4 rfl c14 (iV rfl rfl hh (sc rfl) (eD h16) rfl) ?_
 refine Yg c14 (sH rfl hh hh) ?_
 refine Yy (bG rfl hh c14 hh) ?_
 refine Z2 ?_
 refine bK (φs' := [fSl aC y10.p.AD, fSl aK y10.p.AB, fSl aA y10.p.AC, fI y10.p.AE, fEq v4, fEq v5, fEq v6, aF (decide (y12 = 0))]) a1W rfl rfl (has rfl) (has rfl) (aG a1W) (sz rfl) rfl rfl ?_
 refine Z3 ?_
 exact Tm (decide (y12 = 0)) (ij H)
 clear H; intro x24 hi; subst o8; have H := Hr8; clear Hr8; try dsimp only at H
 try dsimp only
 revert H; refine B2 fun z5 h17 H => ?_
 refine Yy (dT rfl hh hh h17) ?_
 refine Z2 ?_
 exact Tm ((k4, z5, x24)) ⟨H, ls⟩
 refine cM hh c13 ?_
 refine Z5 ?_
 exact Tm (x23) (ij H)
 clear H; intro x19 hi; subst o7; have H := Hr7; clear Hr7; try dsimp only at H
 try dsimp only
 refine Z5 ?_
 refine eH ?_
 refine bY (φ := fSl tI y10.AV) (v := v4) [] cU (fun _ h => nomatch h) ?_
 refine dJ (φs' := [fSl aC y10.p.AD, fSl aK y10.p.AB, fSl aA y10.p.AC, fI y10.p.AE, fSl tI y10.AV, fEq v5, fEq v6, aF x19]) (i := 4) rfl rfl ?_
 refine bX ?_
 refine eH ?_
 refine bY (φ := fSl tI y10.Ak) (v := v5) [] cU (fun _ h => nomatch h) ?_
 refine dJ (φs' := [fSl aC y10.p.AD, fSl aK y10.p.AB, fSl aA y10.p.AC, fI y10.p.AE, fSl tI y10.AV, fSl tI y10.Ak, fEq v6, aF x19]) (i := 5) rfl rfl ?_
 refine bX ?_
 refine eH ?_
 refine bY (φ := fSl tI y10.Aj) (v := v6) [] cU (fun _ h => nomatch h) ?_
 refine dJ (φs' := [fSl aC y10.p.AD, fSl aK y10.p.AB, fSl aA y10.p.AC, fI y10.p.AE, fSl tI y10.AV, fSl tI y10.Ak, fSl tI y10.Aj, aF x19]) (i := 6) rfl rfl ?_
 refine bX ?_
 refine bY (φ := bO tQ (⟨(⟨y10.p.AD, y10.p.AB, y10.p.AC, y10.p.AE⟩ : AM), y10.AV, y10.Ak, y10.Aj, x19⟩ : Ah)) (v := ptr b2) [3, 180, 2] (gS aI.rfl) fz ?_
 refine bX ?_
 cases H
 refine aH [] (by decide) ?_
 exact To
 exact fk
 kernel_rfl
def tN (AA : Nat) (a0 : AM) : Option (Int) :=
 (uT AA (⟨a0.AD, a0.AB, a0.AC, a0.AE⟩ : AM)).bind fun y1 =>
 bif y1.bad then
  some 2
 else
  some 0
theorem aFT (AA : Nat)  (a0 : AM) (r : Int) (H : tN AA a0 = some r) : FnS Tryz.prog 26 [fSt iS a0] [] (fI r) (fun _ => []) := by
 unfold tN at H
 refine bS Tryz.func26 rfl Tryz.ntmps26 rfl (fun β => ?_)
 refine Z1 ?_
 refine Tn (cV rfl hh cJ) fun b1 => ?_
 refine Z2 ?_
 refine aJ ?_
 revert H; refine B2 fun y1 h1 H => ?_
 refine Tc (aHL _ _ _ h1) ?_
 refine Z4 ?_
 revert H; refine cs (fun c1 H => ?_) fun c1 H => ?_
 refine Z5 ?_
 cases H
 refine aH [] (by decide) ?_
 exact To
 refine Z7 ?_
 cases H
 refine aH [] (by decide) ?_
 exact To
def nA (a0 : List AN) (x5 : Int) : Nat -> Int -> (List Al) -> Option (List Al)
| 0, _, _ => none
| k + 1, x10, x11 =>
 (idx a0 x5).bind fun y3 =>
 if x10 < (y3.AS.length : Int) then
  (idx a0 x5).bind fun y4 =>
  (idx y4.AS x10).bind fun y5 =>
  (dR ([] ++ y5.Af)).bind fun z3 =>
  (dR (x11 ++ [(⟨y5.At, z3, y5.Ab⟩ : Al)])).bind fun z4 =>
  (chk (x10 + 1)).bind fun z5 =>
  nA a0 x5 k z5 z4
 else
  some x11
def mO (AA : Nat) (a0 : List AN) : Nat -> (List AN) -> Int -> Option (List AN)
| 0, _, _ => none
| k + 1, x4, x5 =>
 if x5 < (a0.length : Int) then
  ((idx a0 x5).bind fun y1 =>
  (dR ([] ++ y1.AP)).bind fun z1 =>
  (idx a0 x5).bind fun y2 =>
  (dR ([] ++ y2.AT)).bind fun z2 =>
  (nA a0 x5 AA 0 []).bind fun x7 =>
  (dR (x4 ++ [(⟨z1, z2, x7⟩ : AN)])).bind fun z6 =>
  some z6).bind fun x6 =>
  (chk (x5 + 1)).bind fun z7 =>
  mO AA a0 k x6 z7
 else
  some x4
def vP (AA : Nat) (a0 : List AN) : Option (List AN) :=
 (mO AA a0 AA [] 0).bind fun x1 =>
 some x1
theorem aGq (AA : Nat)  (a0 : List AN) (r : List AN) (H : vP AA a0 = some r) : FnS Tryz.prog 72 [fSl aA a0] [] (fSl aA r) (fun _ => []) := by
 unfold vP at H
 refine bS Tryz.func72 rfl Tryz.ntmps72 rfl (fun β => ?_)
 refine Z6 ?_
 revert H; refine bs fun o1 H Hr1 => ?_
 refine aP (ι := List AN × Value) (fun i => o1 = i.1) (fun i => [(3, fEq i.2)]) (fun i => [aB i.2 130 aA i.1]) ?_ ?_
 refine Z4 ?_
 refine gR aA 130 ?_
 refine pD (ι := Nat × List AN × Int × Value) (fun i => mO AA a0 i.1 i.2.1 i.2.2.1 = _) (fun i => i.1) (fun i => [(0, fSl aA a0), (3, fEq i.2.2.2), (4, fI i.2.2.1)]) (fun i => [aB i.2.2.2 130 aA i.2.1]) (AA, [], 0, (.slice none 0 0)) H (Sc (Sc (Sc bQ.nil))) rfl ?_
 clear H; rintro ⟨k1, x4, x5, v3⟩ H
 replace H : mO AA a0 k1 x4 x5 = _ := H
 try dsimp only
 obtain _ | k1 := k1
 rw [mO] at H; cases H
 rw [mO] at H
 refine aE 0 rfl (fun hc_v3 => ?_)
 refine aJ ?_
 refine Z6 ?_
 revert H; refine is (fun c1 H => ?_) fun c1 H => ?_
 refine cL hh c1 ?_
 refine Z2 ?_
 revert H; refine bs fun o2 H Hr2 => ?_
 refine aP (ι := List AN × Value) (fun i => o2 = i.1) (fun i => [(0, fSl aA a0), (4, fI x5), (3, fEq i.2)]) (fun i => [aB i.2 130 aA i.1]) ?_ ?_
 refine Z1 ?_
 refine aJ ?_
 revert H; refine bs fun y1 h1 H => ?_
 revert H; refine bs fun z1 h2 H => ?_
 revert H; refine bs fun y2 h3 H => ?_
 revert H; refine bs fun z2 h4 H => ?_
 apply bL (ods := [_, _, _, _, _, _, _, _, _, _, _, _, _, _, _]) 15 1 2 bM rfl rfl rfl
 refine ND ?_
 refine M2 ?_
 intros
 refine My (cF rfl hh hh (el rfl) h1) fun _ => ?_
 refine M2 ?_
 intros
 refine wJ (od := odC [] true (fSl aW z1) []) rfl (fun _ => rfl) a1W rfl rfl (has rfl) (has rfl) (et rfl) rfl h2 (fun _ => ?_)
 refine M2 ?_
 intros
 refine My (cF rfl hh hh (el rfl) h3) fun _ => ?_
 refine M2 ?_
 intros
 refine wJ (od := odC [] true (fSl bB z2) []) rfl (fun _ => rfl) a1W rfl rfl (has rfl) (has rfl) (et rfl) rfl h4 (fun _ => ?_)
 refine My (gL (ψs := [fSl aW z1, fSl bB z2, fEq (.slice none 0 0)]) rfl aCW rfl (bP.cons (has rfl) (cY (aY)) (bP.cons (has rfl) (cY (aY)) bP.nil)) rfl) fun _ => ?_
 refine Mn 1 (fun b1 => ptr b1) (fun b1 => aD b1 130 [fEq (.slice none 0 0), fEq (.slice none 0 0), fEq (.slice none 0 0)]) rfl (dG rfl rT rfl) (fun b1 u1 => ?_)
 refine oX (od := od1 13 [1] true (fun b1 _ => dN) (fun b1 _ => [aD b1 130 [fSl aW z1, fSl bB z2, fEq (.slice none 0 0)]])) (p := 1) (φs' := [fSl aW z1, fSl bB z2, fEq (.slice none 0 0)]) rfl (fun _ => rfl) (fun _ => rfl) a1W rfl rfl rfl (has rfl) (has rfl) (aL (aY) (aL (aY) (aL (aG a1W) cE))) (sz rfl) rfl rfl rfl (fun _ => ?_)
 refine Z2 ?_
 revert H; refine bs fun o3 H Hr3 => ?_
 refine aP (ι := List Al × Value) (fun i => o3 = i.1) (fun i => [(0, fSl aA a0), (3, fEq v3), (4, fI x5), (5, fEq (ptr b1))]) (fun i => [aD b1 130 [fSl aW z1, fSl bB z2, fEq i.2], aB v3 130 aA x4, aB i.2 134 bF i.1]) ?_ ?_
 refine Z4 ?_
 refine gR bF 134 ?_
 refine aH [2, 1, 0] (by decide) ?_
 refine pD (ι := Nat × Int × List Al × Value) (fun i => nA a0 x5 i.1 i.2.1 i.2.2.1 = _) (fun i => i.1) (fun i => [(0, fSl aA a0), (3, fEq v3), (4, fI x5), (5, fEq (ptr b1)), (6, fI i.2.1)]) (fun i => [aD b1 130 [fSl aW z1, fSl bB z2, fEq i.2.2.2], aB v3 130 aA x4, aB i.2.2.2 134 bF i.2.2.1]) (AA, 0, [], (.slice none 0 0)) H (Sc (Sc (Sc (Sc (Sc bQ.nil))))) rfl ?_
 clear H; rintro ⟨k2, x10, x11, v7⟩ H
 replace H : nA a0 x5 k2 x10 x11 = _ := H
 try dsimp only
 obtain _ | k2 := k2
 rw [nA] at H; cases H
 rw [nA] at H
 refine aE 2 rfl (fun hc_v7 => ?_)
 refine aJ ?_
 refine Z4 ?_
 revert H; refine bs fun y3 h5 H => ?_
 refine Yy (cF rfl hh hh (el rfl) h5) ?_
 refine Z5 ?_
 revert H; refine is (fun c2 H => ?_) fun c2 H => ?_
 refine cL hh c2 ?_
 refine Z2 ?_
 refine aJ ?_
 refine Z4 ?_
 revert H; refine bs fun y4 h6 H => ?_
 refine Yy (cF rfl hh hh (el rfl) h6) ?_
 refine Z3 ?_
 revert H; refine bs fun y5 h7 H => ?_
 refine Yy (cF rfl hh hh (el rfl) h7) ?_
 refine Z1 ?_
 refine sU a1W rfl rfl (dG rfl sT rfl) (fun b2 => ?_)
 refine dV (φs' := [fI y5.At, fSl tI y5.Af, fI y5.Ab]) a1W rfl rfl (has rfl) (has rfl) (aL (aG a1W) (aL (aY) (aL (aG a1W) cE))) (sz rfl) rfl rfl rfl ?_
 refine Z4 ?_
 refine gR tI 3 ?_
 revert H; refine bs fun z3 h8 H => ?_
 refine pE (ys := y5.Af) a1W rfl rfl rfl (has rfl) (has rfl) (et rfl) rfl h8 (fun v8 => ?_)
 refine aE 0 rfl (fun hc_v8 => ?_)
 refine Z1 ?_
 refine bI ?_
 refine bK (φs' := [fI y5.At, fEq v8, fI y5.Ab]) a1W rfl rfl (has rfl) (has rfl) (aG hc_v8) (sz rfl) rfl rfl ?_
 refine Z5 ?_
 refine bI ?_
 refine bY (φ := fSl tI z3) (v := v8) [47] cU fz ?_
 refine dJ (φs' := [fI y5.At, fSl tI z3, fI y5.Ab]) (i := 1) rfl rfl ?_
 refine lP 51 (ψ := eG [fI y5.At, fEq v8, fI y5.Ab]) rfl (mN (i := 1) (φs := [fI y5.At, fEq v8, fI y5.Ab]) (φs' := [fI y5.At, fSl tI z3, fI y5.Ab]) rfl rfl) ?_
 refine bX ?_
 refine sU a1W rfl rfl (fV (t := bF) (xs := [(⟨y5.At, z3, y5.Ab⟩ : Al)]) rfl (et rfl) (cP.cons rfl (has rfl) cJ cP.nil) rfl rfl rfl) (fun b3 => ?_)
 generalize (Value.slice (some ⟨b3, 0, none⟩) _ _) = v9
 refine aE 0 rfl (fun hc_v9 => ?_)
 revert H; refine bs fun z4 h9 H => ?_
 refine bH ?_
 refine bI ?_
 refine jT a1W rfl rfl rfl (has rfl) (has rfl) (et rfl) rfl h9 (fun v10 => ?_)
 refine aE 0 rfl (fun hc_v10 => ?_)
 refine Z1 ?_
 refine eH ?_
 refine bK (φs' := [fSl aW z1, fSl bB z2, fEq v10]) a1W rfl rfl (has rfl) (has rfl) (aG hc_v10) (sz rfl) rfl rfl ?_
 refine Z5 ?_
 revert H; refine bs fun z5 h10 H => ?_
 refine Yy (dT rfl hh hh h10) ?_
 refine Z2 ?_
 refine aH [0, 3, 1] (by decide) ?_
 exact cZ ((k2, z5, z4, v10)) ⟨H, a1C _⟩ (Sc (Sc (Sc (Sc (Sc bQ.nil))))) rfl
 refine cM hh c2 ?_
 refine Z5 ?_
 exact cZ ((x11, v7)) (a1L H).symm (Sc (Sc (Sc (Sc bQ.nil)))) rfl
 clear H; intro i hi; obtain ⟨x7, v5⟩ := i; subst o3; have H := Hr3; clear Hr3; try dsimp only at H
 try dsimp only
 refine aE 2 rfl (fun hc_v5 => ?_)
 refine Z3 ?_
 refine eH ?_
 refine bY (φ := fSl bF x7) (v := v5) [] cU (fun _ h => nomatch h) ?_
 refine dJ (φs' := [fSl aW z1, fSl bB z2, fSl bF x7]) (i := 2) rfl rfl ?_
 refine lP 56 (ψ := eG [fSl aW z1, fSl bB z2, fEq v5]) rfl (mN (i := 2) (φs := [fSl aW z1, fSl bB z2, fEq v5]) (φs' := [fSl aW z1, fSl bB z2, fSl bF x7]) rfl rfl) ?_
 refine bX ?_
 refine sU a1W rfl rfl (fV (t := aA) (xs := [(⟨z1, z2, x7⟩ : AN)]) rfl (et rfl) (cP.cons rfl (has rfl) cJ cP.nil) rfl rfl rfl) (fun b4 => ?_)
 generalize (Value.slice (some ⟨b4, 0, none⟩) _ _) = v11
 refine aE 0 rfl (fun hc_v11 => ?_)
 revert H; refine bs fun z6 h11 H => ?_
 refine eH ?_
 refine bI ?_
 refine jT a1W rfl rfl rfl (has rfl) (has rfl) (et rfl) rfl h11 (fun v12 => ?_)
 refine aE 0 rfl (fun hc_v12 => ?_)
 refine Z4 ?_
 refine aH [0] (by decide) ?_
 exact cZ ((z6, v12)) (a1L H).symm (Sc (Sc (Sc bQ.nil))) rfl
 exact fk
 kernel_rfl
 clear H; intro i hi; obtain ⟨x6, v4⟩ := i; subst o2; have H := Hr2; clear Hr2; try dsimp only at H
 try dsimp only
 refine aE 0 rfl (fun hc_v4 => ?_)
 refine Z2 ?_
 revert H; refine bs fun z7 h12 H => ?_
 refine Yy (dT rfl hh hh h12) ?_
 refine Z2 ?_
 exact cZ ((k1, x6, z7, v4)) ⟨H, a1C _⟩ (Sc (Sc (Sc bQ.nil))) rfl
 refine cM hh c1 ?_
 refine Z5 ?_
 exact cZ ((x4, v3)) (a1L H).symm (Sc bQ.nil) rfl
 clear H; intro i hi; obtain ⟨x1, v1⟩ := i; subst o1; have H := Hr1; clear Hr1; try dsimp only at H
 try dsimp only
 refine aE 0 rfl (fun hc_v1 => ?_)
 refine Z5 ?_
 refine bY (φ := fSl aA x1) (v := v1) [3, 59, 2] cU fz ?_
 refine bX ?_
 cases H
 exact eE rfl (bU rfl) rfl
open Go.SX Go.SW Go.Dt
def oM (a0 : List Int) (a1 : Int) : Nat -> Int -> Option ((Unit) ⊕ (Bool))
| 0, _ => none
| k + 1, x2 =>
 if x2 < (a0.length : Int) then
  ((idx a0 x2).bind fun y1 =>
  if y1 < 0 then
   ((some false).bind fun r => some (Sum.inr r)).bind fun r => some (Sum.inr r)
  else
   (idx a0 x2).bind fun y2 =>
   if a1 <= y2 then
    ((some false).bind fun r => some (Sum.inr r)).bind fun r => some (Sum.inr r)
   else
    if 0 < x2 then
     (idx a0 x2).bind fun y3 =>
     (chk (x2 - 1)).bind fun z1 =>
     (idx a0 z1).bind fun y4 =>
     if y3 <= y4 then
      ((some false).bind fun r => some (Sum.inr r)).bind fun r => some (Sum.inr r)
     else
      some (Sum.inl ())
    else
     some (Sum.inl ())).bind fun o => match o with
  | Sum.inr r => some r
  | Sum.inl _ =>
  (chk (x2 + 1)).bind fun z2 =>
  oM a0 a1 k z2
 else
  some (Sum.inl ())
def rM (AA : Nat) (a0 : List Int) (a1 : Int) : Option (Bool) :=
 (oM a0 a1 AA 0).bind fun o => match o with
 | Sum.inr r => some r
 | Sum.inl _ =>
 some true
theorem aCY (AA : Nat)  (a0 : List Int) (a1 : Int) (r : Bool) (H : rM AA a0 a1 = some r) : FnS Tryz.prog 116 [fSl tI a0, fI a1] [] (aF r) (fun _ => []) := by
 unfold rM at H
 refine bS Tryz.func116 rfl Tryz.ntmps116 rfl (fun β => ?_)
 refine Z3 ?_
 revert H; refine bs fun o1 H Hr1 => ?_
 refine aP (ι := Unit) (fun i => o1 = Sum.inl ()) (fun i => []) (fun i => []) ?_ ?_
 refine Z4 ?_
 refine pD (ι := Nat × Int) (fun i => oM a0 a1 i.1 i.2 = _) (fun i => i.1) (fun i => [(0, fSl tI a0), (1, fI a1), (5, fI i.2)]) (fun i => []) (AA, 0) H (Sc (Sc (Sc bQ.nil))) rfl ?_
 clear H; rintro ⟨k1, x2⟩ H
 replace H : oM a0 a1 k1 x2 = _ := H
 try dsimp only
 obtain _ | k1 := k1
 rw [oM] at H; cases H
 rw [oM] at H
 refine aJ ?_
 refine Z6 ?_
 revert H; refine is (fun c1 H => ?_) fun c1 H => ?_
 refine cL hh c1 ?_
 refine Z2 ?_
 revert H; refine bs fun o2 H Hr2 => ?_
 refine aP (ι := Unit) (fun i => o2 = Sum.inl ()) (fun i => [(0, fSl tI a0), (1, fI a1), (5, fI x2)]) (fun i => []) ?_ ?_
 refine Z1 ?_
 refine aJ ?_
 revert H; refine bs fun y1 h1 H => ?_
 revert H; refine is (fun c2 H => ?_) fun c2 H => ?_
 apply bL (ods := [_, _, _, _, _, _, _, _, _, _, _, _, _, _, _, _, _, _, _, _, _, _, _, _, _, _, _, _, _]) 29 0 0 bM rfl rfl rfl
 refine ND ?_
 refine M2 ?_
 intros
 refine My (cF rfl hh hh (el rfl) h1) fun _ => ?_
 refine M3 ?_
 intros
 refine Mt c2 fun _ => ?_
 refine Mt c2 fun _ => ?_
 refine Mt c2 fun _ => ?_
 refine Mt c2 fun _ => ?_
 refine Mt c2 fun _ => ?_
 refine Mt c2 fun _ => ?_
 refine My (bZ rfl hh c2 hh) fun _ => ?_
 refine M4 ?_
 intros
 refine cT (od := odS) rfl (⟨_, _, _, _, rfl, rfl, rfl, nu⟩) rfl (fun _ => ?_)
 refine cT (od := odS) rfl (⟨_, _, _, _, rfl, rfl, rfl, nu⟩) rfl (fun _ => ?_)
 refine cT (od := odS) rfl (⟨_, _, _, _, rfl, rfl, rfl, nu⟩) rfl (fun _ => ?_)
 refine cT (od := odS) rfl (⟨_, _, _, _, rfl, rfl, rfl, nu⟩) rfl (fun _ => ?_)
 refine cT (od := odS) rfl (⟨_, _, _, _, rfl, rfl, rfl, nu⟩) rfl (fun _ => ?_)
 refine cT (od := odS) rfl (⟨_, _, _, _, rfl, rfl, rfl, nu⟩) rfl (fun _ => ?_)
 refine cT (od := odS) rfl (⟨_, _, _, _, rfl, rfl, rfl, nu⟩) rfl (fun _ => ?_)
 refine cT (od := odS) rfl (⟨_, _, _, _, rfl, rfl, rfl, nu⟩) rfl (fun _ => ?_)
 refine cT (od := odS) rfl (⟨_, _, _, _, rfl, rfl, rfl, nu⟩) rfl (fun _ => ?_)
 refine cT (od := odS) rfl (⟨_, _, _, _, rfl, rfl, rfl, nu⟩) rfl (fun _ => ?_)
 refine M2 ?_
 intros
 refine Z9 ?_
 revert H; refine bs fun r1 H e1 => ?_
 have e1 := a1L e1; subst e1; have Hr2 := a1L Hr2; subst Hr2
 refine Z3 ?_
 revert H; refine bs fun r2 H e2 => ?_
 have e2 := a1L e2; subst e2; have Hr1 := a1L Hr1; subst Hr1
 cases H
 exact eE rfl (bU rfl) rfl
 exact fk
 kernel_rfl
 revert H; refine bs fun y2 h2 H => ?_
 revert H; refine is (fun c3 H => ?_) fun c3 H => ?_
 apply bL (ods := [_, _, _, _, _, _, _, _, _, _, _, _, _, _, _, _, _, _, _, _, _, _, _, _, _, _, _, _, _]) 29 0 0 bM rfl rfl rfl
 refine ND ?_
 refine M2 ?_
 intros
 refine My (cF rfl hh hh (el rfl) h1) fun _ => ?_
 refine M3 ?_
 intros
 refine Mg c2 (bC rfl hh) fun _ => ?_
 refine Mg c2 (bC rfl hh) fun _ => ?_
 refine Mg c2 (cF rfl hh hh (el rfl) h2) fun _ => ?_
 refine Mg c2 (fQ rfl hh (sc rfl) rfl) fun _ => ?_
 refine Mg c2 (bC rfl hh) fun _ => ?_
 refine Mg c2 (gZ rfl hh hh) fun _ => ?_
 refine My (bG rfl hh c2 hh) fun _ => ?_
 refine M1 ?_
 intros
 refine Mt c3 fun _ => ?_
 refine Mt c3 fun _ => ?_
 refine Mt c3 fun _ => ?_
 refine cT (od := odS) rfl (⟨_, _, _, _, rfl, rfl, rfl, nu⟩) rfl (fun _ => ?_)
 refine cT (od := odS) rfl (⟨_, _, _, _, rfl, rfl, rfl, nu⟩) rfl (fun _ => ?_)
 refine cT (od := odS) rfl (⟨_, _, _, _, rfl, rfl, rfl, nu⟩) rfl (fun _ => ?_)
 refine cT (od := odS) rfl (⟨_, _, _, _, rfl, rfl, rfl, nu⟩) rfl (fun _ => ?_)
 refine cT (od := odS) rfl (⟨_, _, _, _, rfl, rfl, rfl, nu⟩) rfl (fun _ => ?_)
 refine cT (od := odS) rfl (⟨_, _, _, _, rfl, rfl, rfl, nu⟩) rfl (fun _ => ?_)
 refine cT (od := odS) rfl (⟨_, _, _, _, rfl, rfl, rfl, nu⟩) rfl (fun _ => ?_)
 refine cT (od := odS) rfl (⟨_, _, _, _, rfl, rfl, rfl, nu⟩) rfl (fun _ => ?_)
 refine cT (od := odS) rfl (⟨_, _, _, _, rfl, rfl, rfl, nu⟩) rfl (fun _ => ?_)
 refine cT (od := odS) rfl (⟨_, _, _, _, rfl, rfl, rfl, nu⟩) rfl (fun _ => ?_)
 refine Mt c3 fun _ => ?_
 refine My (bZ rfl hh c3 hh) fun _ => ?_
 refine Z9 ?_
 revert H; refine bs fun r3 H e3 => ?_
 have e3 := a1L e3; subst e3; have Hr2 := a1L Hr2; subst Hr2
 refine Z3 ?_
 revert H; refine bs fun r4 H e4 => ?_
 have e4 := a1L e4; subst e4; have Hr1 := a1L Hr1; subst Hr1
 cases H
 exact eE rfl (bU rfl) rfl
 exact fk
 kernel_rfl
 revert H; refine is (fun c4 H => ?_) fun c4 H => ?_
 revert H; refine bs fun y3 h3 H => ?_
 revert H; refine bs fun z1 h4 H => ?_
 revert H; refine bs fun y4 h5 H => ?_
 apply bL (ods := [_, _, _, _, _, _, _, _, _, _, _, _, _, _, _, _, _, _, _, _, _, _, _, _, _, _, _, _, _]) 29 0 0 bM rfl rfl rfl
 refine ND ?_
 refine M2 ?_
 intros
 refine My (cF rfl hh hh (el rfl) h1) fun _ => ?_
 refine M3 ?_
 intros
 refine Mg c2 (bC rfl hh) fun _ => ?_
 refine Mg c2 (bC rfl hh) fun _ => ?_
 refine Mg c2 (cF rfl hh hh (el rfl) h2) fun _ => ?_
 refine Mg c2 (fQ rfl hh (sc rfl) rfl) fun _ => ?_
 refine Mg c2 (bC rfl hh) fun _ => ?_
 refine Mg c2 (gZ rfl hh hh) fun _ => ?_
 refine My (bG rfl hh c2 hh) fun _ => ?_
 refine M1 ?_
 intros
 refine Mg c3 (bC rfl hh) fun _ => ?_
 refine Mg c3 (eV rfl hh hh) fun _ => ?_
 refine Mg c3 (bC rfl hh) fun _ => ?_
 refine Mg c4 (bC rfl hh) fun _ => ?_
 refine Mg c4 (bC rfl hh) fun _ => ?_
 refine Mg c4 (cF rfl hh hh (el rfl) h3) fun _ => ?_
 refine Mg c4 (fQ rfl hh (sc rfl) rfl) fun _ => ?_
 refine Mg c4 (bC rfl hh) fun _ => ?_
 refine Mg c4 (bC rfl hh) fun _ => ?_
 refine Mg c4 (o_sub rfl hh hh h4) fun _ => ?_
 refine Mg c4 (cF rfl hh hh (el rfl) h5) fun _ => ?_
 refine Mg c4 (fQ rfl hh (sc rfl) rfl) fun _ => ?_
 refine Mg c4 (o_leq rfl hh hh) fun _ => ?_
 refine Mg c3 (bZ rfl hh c4 hh) fun _ => ?_
 refine My (bG rfl hh c3 hh) fun _ => ?_
 refine Z2 ?_
 revert H; refine is (fun c5 H => ?_) fun c5 H => ?_
 refine cL hh c5 ?_
 refine Z6 ?_
 revert H; refine bs fun r5 H e5 => ?_
 have e5 := a1L e5; subst e5; have Hr2 := a1L Hr2; subst Hr2
 refine Z3 ?_
 revert H; refine bs fun r6 H e6 => ?_
 have e6 := a1L e6; subst e6; have Hr1 := a1L Hr1; subst Hr1
 cases H
 exact eE rfl (bU rfl) rfl
 refine cM hh c5 ?_
 refine Z3 ?_
 exact cZ (()) (a1L H).symm (Sc (Sc (Sc bQ.nil))) rfl
 exact fk
 kernel_rfl
 apply bL (ods := [_, _, _, _, _, _, _, _, _, _, _, _, _, _, _, _, _, _, _, _, _, _, _, _, _, _, _, _, _]) 29 0 0 bM rfl rfl rfl
 refine ND ?_
 refine M2 ?_
 intros
 refine My (cF rfl hh hh (el rfl) h1) fun _ => ?_
 refine M3 ?_
 intros
 refine Mg c2 (bC rfl hh) fun _ => ?_
 refine Mg c2 (bC rfl hh) fun _ => ?_
 refine Mg c2 (cF rfl hh hh (el rfl) h2) fun _ => ?_
 refine Mg c2 (fQ rfl hh (sc rfl) rfl) fun _ => ?_
 refine Mg c2 (bC rfl hh) fun _ => ?_
 refine Mg c2 (gZ rfl hh hh) fun _ => ?_
 refine My (bG rfl hh c2 hh) fun _ => ?_
 refine M1 ?_
 intros
 refine Mg c3 (bC rfl hh) fun _ => ?_
 refine Mg c3 (eV rfl hh hh) fun _ => ?_
 refine Mg c3 (bC rfl hh) fun _ => ?_
 refine Mz c4 fun _ => ?_
 refine Mz c4 fun _ => ?_
 refine Mz c4 fun _ => ?_
 refine Mz c4 fun _ => ?_
 refine Mz c4 fun _ => ?_
 refine Mz c4 fun _ => ?_
 refine Mz c4 fun _ => ?_
 refine Mz c4 fun _ => ?_
 refine Mz c4 fun _ => ?_
 refine Mz c4 fun _ => ?_
 refine Mg c3 (bG rfl hh c4 hh) fun _ => ?_
 refine My (bG rfl hh c3 hh) fun _ => ?_
 refine Z6 ?_
 exact cZ (()) (a1L H).symm (Sc (Sc (Sc bQ.nil))) rfl
 exact fk
 kernel_rfl
 clear H; intro i hi; subst o2; have H := Hr2; clear Hr2; try dsimp only at H
 try dsimp only
 refine Z2 ?_
 revert H; refine bs fun z2 h6 H => ?_
 refine Yy (dT rfl hh hh h6) ?_
 refine Z2 ?_
 exact cZ ((k1, z2)) ⟨H, a1C _⟩ (Sc (Sc (Sc bQ.nil))) rfl
 refine cM hh c1 ?_
 refine Z5 ?_
 exact cZ (()) (a1L H).symm bQ.nil rfl
 clear H; intro i hi; subst o1; have H := Hr1; clear Hr1; try dsimp only at H
 try dsimp only
 refine Z4 ?_
 cases H
 exact eE rfl (bU rfl) rfl
def mC (a1 : Int) (a2 : Int) : Nat -> (List Int) -> Int -> Option (List Int)
| 0, _, _ => none
| k + 1, x4, x5 =>
 if x5 < a2 then
  (chk (a1 + x5)).bind fun z2 =>
  (dR (x4 ++ [z2])).bind fun z3 =>
  (chk (x5 + 1)).bind fun z4 =>
  mC a1 a2 k z3 z4
 else
  some x4
def oS (AA : Nat) (a0 : List Int) (a1 : Int) (a2 : Int) : Option (List Int) :=
 (dR ([] ++ a0)).bind fun z1 =>
 (mC a1 a2 AA z1 0).bind fun x1 =>
 some x1
theorem aBA (AA : Nat)  (a0 : List Int) (a1 : Int) (a2 : Int) (r : List Int) (H : oS AA a0 a1 a2 = some r) : FnS Tryz.prog 135 [fSl tI a0, fI a1, fI a2] [] (fSl tI r) (fun _ => []) := by
 unfold oS at H
 refine bS Tryz.func135 rfl Tryz.ntmps135 rfl (fun β => ?_)
 refine Z5 ?_
 refine gR tI 3 ?_
 revert H; refine bs fun z1 h1 H => ?_
 refine pE (ys := a0) a1W rfl rfl rfl (has rfl) (has rfl) (et rfl) rfl h1 (fun v1 => ?_)
 refine aE 0 rfl (fun hc_v1 => ?_)
 revert H; refine B2 fun o1 H Hr1 => ?_
 refine aP (ι := List Int × Value) (fun i => o1 = i.1) (fun i => [(7, fEq i.2)]) (fun i => [aB i.2 3 tI i.1]) ?_ ?_
 refine Z4 ?_
 refine Tl (ι := Nat × List Int × Int × Value) (fun i => mC a1 a2 i.1 i.2.1 i.2.2.1 = _) (fun i => i.1) (fun i => [(1, fI a1), (2, fI a2), (7, fEq i.2.2.2), (8, fI i.2.2.1)]) (fun i => [aB i.2.2.2 3 tI i.2.1]) (AA, z1, 0, v1) H ?_
 clear H; rintro ⟨k1, x4, x5, v4⟩ H
 replace H : mC a1 a2 k1 x4 x5 = _ := H
 try dsimp only
 obtain _ | k1 := k1
 rw [mC] at H; cases H
 rw [mC] at H
 refine aE 0 rfl (fun hc_v4 => ?_)
 refine aJ ?_
 revert H; refine I5 (fun c1 H => ?_) fun c1 H => ?_
 refine Z3 ?_
 refine aJ ?_
 revert H; refine B5 fun z2 h2 H => ?_
 refine Z1 ?_
 refine Tn (fV (t := tI) (xs := [z2]) rfl (et rfl) (cP.cons rfl (has rfl) (cY (aG a1W)) cP.nil) rfl rfl rfl) fun b1 => ?_
 generalize (Value.slice (some ⟨b1, 0, none⟩) _ _) = v5
 refine aE 0 rfl (fun hc_v5 => ?_)
 revert H; refine bs fun z3 h3 H => ?_
 refine jT a1W rfl rfl rfl (has rfl) (has rfl) (et rfl) rfl h3 (fun v6 => ?_)
 refine aE 0 rfl (fun hc_v6 => ?_)
 revert H; refine B6 fun z4 h4 H => ?_
 refine Z3 ?_
 exact Tm ((k1, z3, z4, v6)) ⟨H, ls⟩
 refine Z6 ?_
 exact Tm ((x4, v4)) (ij H)
 clear H; intro i hi; obtain ⟨x1, v2⟩ := i; subst o1; have H := Hr1; clear Hr1; try dsimp only at H
 try dsimp only
 refine aE 0 rfl (fun hc_v2 => ?_)
 refine Z5 ?_
 refine bY (φ := fSl tI x1) (v := v2) [7, 22, 6] cU fz ?_
 refine bX ?_
 cases H
 exact To
def oK (a0 : List Int) (a1 : List Int) : Nat -> (List Int) -> Int -> Option (List Int)
| 0, _, _ => none
| k + 1, x4, x5 =>
 if x5 < (a1.length : Int) then
  (idx a1 x5).bind fun y1 =>
  (idx a0 y1).bind fun y2 =>
  (dR (x4 ++ [y2])).bind fun z1 =>
  (chk (x5 + 1)).bind fun z2 =>
  oK a0 a1 k z1 z2
 else
  some x4
def sC (AA : Nat) (a0 : List Int) (a1 : List Int) : Option (List Int) :=
 (oK a0 a1 AA [] 0).bind fun x1 =>
 some x1
theorem r07_at_w (AA : Nat)  (a0 : List Int) (a1 : List Int) (r : List Int) (H : sC AA a0 a1 = some r) : FnS Tryz.prog 188 [fSl tI a0, fSl tI a1] [] (fSl tI r) (fun _ => []) := by
 unfold sC at H
 refine bS Tryz.func188 rfl Tryz.ntmps188 rfl (fun β => ?_)
 revert H; refine B6 fun o1 H Hr1 => ?_
 refine aP (ι := List Int × Value) (fun i => o1 = i.1) (fun i => [(5, fEq i.2)]) (fun i => [aB i.2 3 tI i.1]) ?_ ?_
 refine Z4 ?_
 refine gR tI 3 ?_
 refine Tl (ι := Nat × List Int × Int × Value) (fun i => oK a0 a1 i.1 i.2.1 i.2.2.1 = _) (fun i => i.1) (fun i => [(0, fSl tI a0), (1, fSl tI a1), (5, fEq i.2.2.2), (6, fI i.2.2.1)]) (fun i => [aB i.2.2.2 3 tI i.2.1]) (AA, [], 0, (.slice none 0 0)) H ?_
 clear H; rintro ⟨k1, x4, x5, v3⟩ H
 replace H : oK a0 a1 k1 x4 x5 = _ := H
 try dsimp only
 obtain _ | k1 := k1
 rw [oK] at H; cases H
 rw [oK] at H
 refine aE 0 rfl (fun hc_v3 => ?_)
 refine aJ ?_
 revert H; refine I6 (fun c1 H => ?_) fun c1 H => ?_
 refine Z3 ?_
 refine aJ ?_
 revert H; refine B6 fun y1 h1 H => ?_
 revert H; refine B2 fun y2 h2 H => ?_
 refine Z2 ?_
 refine Tn (fV (t := tI) (xs := [y2]) rfl (et rfl) (cP.cons rfl (has rfl) (cY (aG a1W)) cP.nil) rfl rfl rfl) fun b1 => ?_
 generalize (Value.slice (some ⟨b1, 0, none⟩) _ _) = v4
 refine aE 0 rfl (fun hc_v4 => ?_)
 revert H; refine bs fun z1 h3 H => ?_
 refine jT a1W rfl rfl rfl (has rfl) (has rfl) (et rfl) rfl h3 (fun v5 => ?_)
 refine aE 0 rfl (fun hc_v5 => ?_)
 revert H; refine B6 fun z2 h4 H => ?_
 refine Z3 ?_
 exact Tm ((k1, z1, z2, v5)) ⟨H, ls⟩
 refine Z6 ?_
 exact Tm ((x4, v3)) (ij H)
 clear H; intro i hi; obtain ⟨x1, v1⟩ := i; subst o1; have H := Hr1; clear Hr1; try dsimp only at H
 try dsimp only
 refine aE 0 rfl (fun hc_v1 => ?_)
 refine Z5 ?_
 refine bY (φ := fSl tI x1) (v := v1) [5, 23, 4] cU fz ?_
 refine bX ?_
 cases H
 exact To
def mX (rec_r07_exp : AW -> (List Int) -> Option (AW)) (a0 : AW) (a1 : List Int) : Nat -> (List AW) -> Int -> Option (List AW)
| 0, _, _ => none
| k + 1, x5, x6 =>
 if x6 < (a0.AU.length : Int) then
  (idx a0.AU x6).bind fun y2 =>
  (rec_r07_exp y2 a1).bind fun y3 =>
  (dR (x5 ++ [y3])).bind fun z1 =>
  (chk (x6 + 1)).bind fun z2 =>
  mX rec_r07_exp a0 a1 k z1 z2
 else
  some x5
def lE : Nat -> AW -> (List Int) -> Option (AW)
| 0, _, _ => none
| AA + 1, a0, a1 =>
 (if a0.Op = 2 then
  (idx a1 a0.N).bind fun y1 =>
  some y1
 else
  some a0.N).bind fun x1 =>
 (mX (lE AA) a0 a1 AA [] 0).bind fun x2 =>
 some (⟨a0.Op, x1, x2⟩ : AW)
theorem aGC : ∀ (AA : Nat), (∀  (a0 : AW) (a1 : List Int) (r : AW) (H : lE AA a0 a1 = some r), FnS Tryz.prog 190 [fSt aO a0, fSl tI a1] [] (fSt aO r) (fun _ => [])) := by
 intro AA
 induction AA with
 | zero => exact fun a0 a1 r H => (by rw [lE] at H; cases H)
 | succ AA ih =>
 have ih_r07_exp := ih
 refine ?_
 intro a0 a1 r H
 rw [lE] at H
 refine bS Tryz.func190 rfl Tryz.ntmps190 rfl (fun β => ?_)
 refine Z1 ?_
 refine Tn (cV rfl hh cJ) fun b1 => ?_
 refine Tn (dG rfl oC rfl) fun b2 => ?_
 revert H; refine B1 fun o1 H Hr1 => ?_
 refine aP (ι := Int) (fun i => o1 = i) (fun i => [(1, fSl tI a1), (2, fEq (ptr b1)), (4, fEq (ptr b2))]) (fun i => [aD b1 124 [fI a0.Op, fI i, eF a0.AU], aD b2 124 [fI 0, fI 0, fEq (.slice none 0 0)]]) ?_ ?_
 revert H; refine I5 (fun c1 H => ?_) fun c1 H => ?_
 revert H; refine B5 fun y1 h1 H => ?_
 refine Z3 ?_
 refine bI ?_
 refine bK (φs' := [fI a0.Op, fI y1, eF a0.AU]) a1W rfl rfl (has rfl) (has rfl) (aG a1W) (sz rfl) rfl rfl ?_
 refine Z1 ?_
 exact Tm (y1) (ij H)
 refine Z3 ?_
 refine aH [1, 0] (by decide) ?_
 exact Tm (a0.N) (ij H)
 clear H; intro x1 hi; subst o1; have H := Hr1; clear Hr1; try dsimp only at H
 try dsimp only
 revert H; refine B3 fun o2 H Hr2 => ?_
 refine aP (ι := List AW × Value) (fun i => o2 = i.1) (fun i => [(2, fEq (ptr b1)), (4, fEq (ptr b2)), (5, fEq i.2)]) (fun i => [aD b1 124 [fI a0.Op, fI x1, eF a0.AU], aD b2 124 [fI 0, fI 0, fEq (.slice none 0 0)], aB i.2 124 aO i.1]) ?_ ?_
 refine Z4 ?_
 refine gR aO 124 ?_
 refine aH [1, 2, 0] (by decide) ?_
 refine Tl (ι := Nat × List AW × Int × Value) (fun i => mX (lE AA) a0 a1 i.1 i.2.1 i.2.2.1 = _) (fun i => i.1) (fun i => [(1, fSl tI a1), (2, fEq (ptr b1)), (4, fEq (ptr b2)), (5, fEq i.2.2.2), (6, fI i.2.2.1)]) (fun i => [aD b1 124 [fI a0.Op, fI x1, eF a0.AU], aD b2 124 [fI 0, fI 0, fEq (.slice none 0 0)], aB i.2.2.2 124 aO i.2.1]) (AA, [], 0, (.slice none 0 0)) H ?_
 clear H; rintro ⟨k1, x5, x6, v3⟩ H
 replace H : mX (lE AA) a0 a1 k1 x5 x6 = _ := H
 try dsimp only
 obtain _ | k1 := k1
 rw [mX] at H; cases H
 rw [mX] at H
 refine aE 2 rfl (fun hc_v3 => ?_)
 refine aJ ?_
 refine Z3 ?_
 refine Yo 0 rfl (aZ rfl hh (sc rfl) rfl (gI fX)) ?_
 revert H; refine I3 (fun c2 H => ?_) fun c2 H => ?_
 refine Z3 ?_
 refine aJ ?_
 refine Z4 ?_
 refine Yo 0 rfl (aZ rfl hh (sc rfl) rfl (gI fX)) ?_
 revert H; refine B1 fun y2 h2 H => ?_
 revert H; refine B3 fun y3 h3 H => ?_
 refine Tc (ih_r07_exp _ _ _ h3) ?_
 refine Tn (fV (t := aO) (xs := [y3]) rfl (et rfl) (cP.cons rfl hh cJ cP.nil) rfl rfl rfl) fun b3 => ?_
 generalize (Value.slice (some ⟨b3, 0, none⟩) _ _) = v4
 refine aE 0 rfl (fun hc_v4 => ?_)
 revert H; refine bs fun z1 h4 H => ?_
 refine dM ?_
 refine bI ?_
 refine jT a1W rfl rfl rfl (has rfl) (has rfl) (et rfl) rfl h4 (fun v5 => ?_)
 refine aE 0 rfl (fun hc_v5 => ?_)
 revert H; refine B6 fun z2 h5 H => ?_
 refine Z3 ?_
 refine aH [1, 2, 0] (by decide) ?_
 exact Tm ((k1, z1, z2, v5)) ⟨H, ls⟩
 refine Z6 ?_
 exact Tm ((x5, v3)) (ij H)
 clear H; intro i hi; obtain ⟨x2, v1⟩ := i; subst o2; have H := Hr2; clear Hr2; try dsimp only at H
 try dsimp only
 refine aE 2 rfl (fun hc_v1 => ?_)
 refine Z3 ?_
 refine bK (φs' := [fI a0.Op, fI x1, fEq v1]) a1W rfl rfl (has rfl) (has rfl) (aG hc_v1) (sz rfl) rfl rfl ?_
 refine Z3 ?_
 refine bI ?_
 refine dV (φs' := [fI a0.Op, fI x1, fEq v1]) a1W rfl rfl (has rfl) (has rfl) (aL (aG a1W) (aL (aG a1W) (aL (aG hc_v1) cE))) (sz rfl) rfl rfl rfl ?_
 refine Z2 ?_
 refine eH ?_
 refine bY (φ := fSl aO x2) (v := v1) [5, 33] cU fz ?_
 refine eH ?_
 refine bI ?_
 refine dJ (φs' := [fI a0.Op, fI x1, fSl aO x2]) (i := 2) rfl rfl ?_
 refine eH ?_
 refine bI ?_
 refine dJ (φs' := [fI a0.Op, fI x1, fSl aO x2]) (i := 2) rfl rfl ?_
 refine lP 35 (ψ := eG [fI a0.Op, fI x1, fEq v1]) rfl (mN (i := 2) (φs := [fI a0.Op, fI x1, fEq v1]) (φs' := [fI a0.Op, fI x1, fSl aO x2]) rfl rfl) ?_
 refine bX ?_
 cases H
 refine aH [0] (by decide) ?_
 exact T_outCS rfl (ag rfl) rfl (bU rfl) (xK (aI.cons Ent.rfl (aI.cons Ent.rfl (aI.cons (wP .rfl) aI.nil)))) rfl
def pG (a0 : AN) (a1 : Al) : Nat -> Int -> Int -> Option ((Int) ⊕ (Int))
| 0, _, _ => none
| k + 1, x4, x5 =>
 if x5 < (a1.Af.length : Int) then
  (idx a1.Af x5).bind fun y1 =>
  if y1 < 0 then
   (some (-1)).bind fun r => some (Sum.inr r)
  else
   if (a0.AP.length : Int) <= y1 then
    (some (-1)).bind fun r => some (Sum.inr r)
   else
    (idx a0.AP y1).bind fun y2 =>
    if y2.Ap < 0 then
     (some (-1)).bind fun r => some (Sum.inr r)
    else
     (idx a0.AP y1).bind fun y3 =>
     if 3 < y3.Ap then
      (some (-1)).bind fun r => some (Sum.inr r)
     else
      (idx a0.AP y1).bind fun y4 =>
      (chk (x4 + y4.Ap)).bind fun z1 =>
      (chk (x5 + 1)).bind fun z2 =>
      pG a0 a1 k z1 z2
 else
  some (Sum.inl x4)
def sY (AA : Nat) (a0 : AN) (a1 : Al) : Option (Int) :=
 if 3 < (a1.Af.length : Int) then
  some (-1)
 else
  (pG a0 a1 AA 0 0).bind fun o => match o with
  | Sum.inr r => some r
  | Sum.inl x1 =>
  some x1
theorem aFL (AA : Nat)  (a0 : AN) (a1 : Al) (r : Int) (H : sY AA a0 a1 = some r) : FnS Tryz.prog 134 [fSt aA a0, fSt bF a1] [] (fI r) (fun _ => []) := by
 unfold sY at H
 refine bS Tryz.func134 rfl Tryz.ntmps134 rfl (fun β => ?_)
 refine Z1 ?_
 refine Tn (cV rfl hh cJ) fun b1 => ?_
 refine Tn (cV rfl hh cJ) fun b2 => ?_
 refine Z2 ?_
 refine aJ ?_
 revert H; refine I6 (fun c1 H => ?_) fun c1 H => ?_
 refine Z5 ?_
 cases H
 refine aH [] (by decide) ?_
 exact To
 revert H; refine B6 fun o1 H Hr1 => ?_
 refine aP (ι := Int) (fun i => o1 = Sum.inl i) (fun i => [(5, fI i)]) (fun i => [aD b2 134 [fI a1.At, fSl tI a1.Af, fI a1.Ab], aD b1 130 [fSl aW a0.AP, fSl bB a0.AT, fSl bF a0.AS]]) ?_ ?_
 refine Z4 ?_
 refine Tl (ι := Nat × Int × Int) (fun i => pG a0 a1 i.1 i.2.1 i.2.2 = _) (fun i => i.1) (fun i => [(2, fEq (ptr b1)), (3, fEq (ptr b2)), (5, fI i.2.1), (6, fI i.2.2)]) (fun i => [aD b2 134 [fI a1.At, fSl tI a1.Af, fI a1.Ab], aD b1 130 [fSl aW a0.AP, fSl bB a0.AT, fSl bF a0.AS]]) (AA, 0, 0) H ?_
 clear H; rintro ⟨k1, x4, x5⟩ H
 replace H : pG a0 a1 k1 x4 x5 = _ := H
 try dsimp only
 obtain _ | k1 := k1
 rw [pG] at H; cases H
 rw [pG] at H
 refine aJ ?_
 revert H; refine I7 (fun c2 H => ?_) fun c2 H => ?_
 refine Z3 ?_
 refine aJ ?_
 revert H; refine B5 fun y1 h1 H => ?_
 refine Z4 ?_
 refine aJ ?_
 revert H; refine I4 (fun c3 H => ?_) fun c3 H => ?_
 refine Z12 ?_
 refine Z12 ?_
 revert H; refine B11 fun r1 H e1 => ?_
 cases e1; cases Hr1
 cases H
 refine aH [] (by decide) ?_
 exact To
 revert H; refine I7 (fun c4 H => ?_) fun c4 H => ?_
 refine Z12 ?_
 refine Z12 ?_
 revert H; refine B4 fun r2 H e2 => ?_
 cases e2; cases Hr1
 cases H
 refine aH [] (by decide) ?_
 exact To
 revert H; refine B3 fun y2 h2 H => ?_
 revert H; refine I6 (fun c5 H => ?_) fun c5 H => ?_
 refine Z12 ?_
 revert H; refine B7 fun r3 H e3 => ?_
 cases e3; cases Hr1
 cases H
 refine aH [] (by decide) ?_
 exact To
 revert H; refine B3 fun y3 h3 H => ?_
 revert H; refine I6 (fun c6 H => ?_) fun c6 H => ?_
 revert H; refine B10 fun r4 H e4 => ?_
 cases e4; cases Hr1
 cases H
 refine aH [] (by decide) ?_
 exact To
 revert H; refine B8 fun y4 h4 H => ?_
 revert H; refine B3 fun z1 h5 H => ?_
 revert H; refine B7 fun z2 h6 H => ?_
 refine Z3 ?_
 exact Tm ((k1, z1, z2)) ⟨H, ls⟩
 refine Z6 ?_
 exact Tm (x4) (ij H)
 clear H; intro x1 hi; subst o1; have H := Hr1; clear Hr1; try dsimp only at H
 try dsimp only
 refine Z5 ?_
 cases H
 refine aH [] (by decide) ?_
 exact To
end Go.Proofs.YtpgkejpnhnoipaaGreat
