/- Parts of the proof: lemmas, and the steps through the program. -/
import Derived.Test.YtjahnkcjbglnoaaGreatDoorCc2
import Derived.Test.YtjahnkcjbglnoaaGreatDoorProg
import Derived.Shelf.Sort.Plain
import Derived.Shelf.Slices.CompactI
import Derived.Shelf.Slices.In.SortNone
set_option linter.unusedVariables false
set_option linter.unusedSimpArgs false
set_option maxRecDepth 100000
set_option maxHeartbeats 2000000
namespace Go.Proofs.YtjahnkcjbglnoaaGreatDoor
open Go.SX Go.SW Go.Dt
attribute [local irreducible] Code.wpIn wpListIn Exit.then Exit.inBlock
def qF (a0 : Code_checker) (a1 : CodeIns) : Option (Code_checker × Bool) :=
 (if (-1000000000) ≤ a1.A then
  some (decide (a1.A ≤ 1000000000))
 else
  some false).bind fun x1 =>
 some ((⟨(⟨a0.CodeProg.Free, a0.CodeProg.Defs, a0.CodeProg.Code, a0.CodeProg.Main⟩ : CodeProg), a0.begins, a0.last, a0.levels, a0.todo⟩ : Code_checker), x1)
theorem aFl (p0 : Nat) (a0 : Code_checker) (a1 : CodeIns) (r : Code_checker × Bool) (H : qF a0 a1 = some r) : FnS Tryz.prog 105 [fEq (.pointer (some ⟨p0, 0, none⟩)), fSt aG a1] [cR p0 a0] (aH r.2) (fun _ => [cR p0 r.1]) := by
 unfold qF at H
 refine cF Tryz.func105 rfl Tryz.ntmps105 rfl (fun β => ?_)
 refine cS (fun v1 v2 v3 => ?_)
 refine aU ?_
 refine cQ (fun b1 h1 => ?_); subst h1
 refine aB 2 rfl (fun hc_v1 => ?_)
 refine aB 3 rfl (fun hc_v3 => ?_)
 refine Z1 ?_
 refine Tn (dD rfl hh cV) fun b2 => ?_
 revert H; refine B2 fun o1 H Hr1 => ?_
 refine aQ (ι := Bool) (fun i => o1 = i) (fun i => [(0, fEq (ptr p0)), (4, aH i)]) (fun i => [aA b2 73 [fI a1.Op, fI a1.A, fI a1.B], aA p0 90 [fI a0.CodeProg.Free, fSl aF a0.CodeProg.Defs, fSl aG a0.CodeProg.Code, fI a0.CodeProg.Main, fSl tI a0.begins, fEq v1, fEq (.map (some b1)), fEq v3], bB aX (fun y => fSt aO y) b1 a0.levels, aC v1 3 tI a0.last, aC v3 3 tI a0.todo]) ?_ ?_
 revert H; refine I5 (fun c1 H => ?_) fun c1 H => ?_
 refine Z6 ?_
 refine aD [0, 2, 1, 3, 4] (by decide) ?_
 exact Tm (decide (a1.A ≤ 1000000000)) (ij H)
 refine Z6 ?_
 refine aD [0, 2, 1, 3, 4] (by decide) ?_
 exact Tm (false) (ij H)
 clear H; intro x1 hi; subst o1; have H := Hr1; clear Hr1; try dsimp only at H
 try dsimp only
 refine Z1 ?_
 refine aU ?_
 refine cG ?_
 refine aL ?_
 refine aV ?_
 refine aL ?_
 refine aL ?_
 refine cD (x := (⟨(⟨a0.CodeProg.Free, a0.CodeProg.Defs, a0.CodeProg.Code, a0.CodeProg.Main⟩ : CodeProg), a0.begins, a0.last, a0.levels, a0.todo⟩ : Code_checker)) ?_
 cases H
 refine aD [0] (by decide) ?_
 exact To
def sD (a0 : Code_checker) (a1 : CodeIns) : Option (Code_checker × Bool) :=
 some ((⟨(⟨a0.CodeProg.Free, a0.CodeProg.Defs, a0.CodeProg.Code, a0.CodeProg.Main⟩ : CodeProg), a0.begins, a0.last, a0.levels, a0.todo⟩ : Code_checker), decide (0 ≤ a1.A))
theorem aDL (p0 : Nat) (a0 : Code_checker) (a1 : CodeIns) (r : Code_checker × Bool) (H : sD a0 a1 = some r) : FnS Tryz.prog 106 [fEq (.pointer (some ⟨p0, 0, none⟩)), fSt aG a1] [cR p0 a0] (aH r.2) (fun _ => [cR p0 r.1]) := by
 unfold sD at H
 refine cF Tryz.func106 rfl Tryz.ntmps106 rfl (fun β => ?_)
 refine cS (fun v1 v2 v3 => ?_)
 refine aU ?_
 refine cQ (fun b1 h1 => ?_); subst h1
 refine aB 2 rfl (fun hc_v1 => ?_)
 refine aB 3 rfl (fun hc_v3 => ?_)
 refine Z1 ?_
 refine Tn (dD rfl hh cV) fun b2 => ?_
 refine Z9 ?_
 refine aV ?_
 refine cG ?_
 refine aL ?_
 refine aV ?_
 refine aL ?_
 refine aL ?_
 refine cD (x := (⟨(⟨a0.CodeProg.Free, a0.CodeProg.Defs, a0.CodeProg.Code, a0.CodeProg.Main⟩ : CodeProg), a0.begins, a0.last, a0.levels, a0.todo⟩ : Code_checker)) ?_
 cases H
 refine aD [0] (by decide) ?_
 exact To
def pX (a0 : Code_checker) (a1 : CodeIns) : Option (Code_checker × Bool) :=
 some ((⟨(⟨a0.CodeProg.Free, a0.CodeProg.Defs, a0.CodeProg.Code, a0.CodeProg.Main⟩ : CodeProg), a0.begins, a0.last, a0.levels, a0.todo⟩ : Code_checker), true)
theorem aEm (p0 : Nat) (a0 : Code_checker) (a1 : CodeIns) (r : Code_checker × Bool) (H : pX a0 a1 = some r) : FnS Tryz.prog 107 [fEq (.pointer (some ⟨p0, 0, none⟩)), fSt aG a1] [cR p0 a0] (aH r.2) (fun _ => [cR p0 r.1]) := by
 unfold pX at H
 refine cF Tryz.func107 rfl Tryz.ntmps107 rfl (fun β => ?_)
 refine cS (fun v1 v2 v3 => ?_)
 refine aU ?_
 refine cQ (fun b1 h1 => ?_); subst h1
 refine aB 2 rfl (fun hc_v1 => ?_)
 refine aB 3 rfl (fun hc_v3 => ?_)
 refine Z1 ?_
 refine Tn (dD rfl hh cV) fun b2 => ?_
 refine Z6 ?_
 refine aV ?_
 refine cG ?_
 refine aL ?_
 refine aV ?_
 refine aL ?_
 refine aL ?_
 refine cD (x := (⟨(⟨a0.CodeProg.Free, a0.CodeProg.Defs, a0.CodeProg.Code, a0.CodeProg.Main⟩ : CodeProg), a0.begins, a0.last, a0.levels, a0.todo⟩ : Code_checker)) ?_
 cases H
 refine aD [0] (by decide) ?_
 exact To
def qK (a0 : Code_checker) (a1 : CodeIns) : Option (Code_checker × Bool) :=
 (if 0 ≤ a1.A then
  if 0 ≤ a1.B then
   some (decide (a1.B ≤ 3))
  else
   some false
 else
  some false).bind fun x1 =>
 some ((⟨(⟨a0.CodeProg.Free, a0.CodeProg.Defs, a0.CodeProg.Code, a0.CodeProg.Main⟩ : CodeProg), a0.begins, a0.last, a0.levels, a0.todo⟩ : Code_checker), x1)
theorem aET (p0 : Nat) (a0 : Code_checker) (a1 : CodeIns) (r : Code_checker × Bool) (H : qK a0 a1 = some r) : FnS Tryz.prog 108 [fEq (.pointer (some ⟨p0, 0, none⟩)), fSt aG a1] [cR p0 a0] (aH r.2) (fun _ => [cR p0 r.1]) := by
 unfold qK at H
 refine cF Tryz.func108 rfl Tryz.ntmps108 rfl (fun β => ?_)
 refine cS (fun v1 v2 v3 => ?_)
 refine aU ?_
 refine cQ (fun b1 h1 => ?_); subst h1
 refine aB 2 rfl (fun hc_v1 => ?_)
 refine aB 3 rfl (fun hc_v3 => ?_)
 refine Z1 ?_
 refine Tn (dD rfl hh cV) fun b2 => ?_
 revert H; refine B2 fun o1 H Hr1 => ?_
 refine aQ (ι := Bool) (fun i => o1 = i) (fun i => [(0, fEq (ptr p0)), (4, aH i)]) (fun i => [aA b2 73 [fI a1.Op, fI a1.A, fI a1.B], aA p0 90 [fI a0.CodeProg.Free, fSl aF a0.CodeProg.Defs, fSl aG a0.CodeProg.Code, fI a0.CodeProg.Main, fSl tI a0.begins, fEq v1, fEq (.map (some b1)), fEq v3], bB aX (fun y => fSt aO y) b1 a0.levels, aC v1 3 tI a0.last, aC v3 3 tI a0.todo]) ?_ ?_
 revert H; refine I5 (fun c1 H => ?_) fun c1 H => ?_
 revert H; refine I5 (fun c2 H => ?_) fun c2 H => ?_
 refine Z6 ?_
 refine aD [0, 2, 1, 3, 4] (by decide) ?_
 exact Tm (decide (a1.B ≤ 3)) (ij H)
 refine Z6 ?_
 refine aD [0, 2, 1, 3, 4] (by decide) ?_
 exact Tm (false) (ij H)
 refine Z11 ?_
 refine aD [0, 2, 1, 3, 4] (by decide) ?_
 exact Tm (false) (ij H)
 clear H; intro x1 hi; subst o1; have H := Hr1; clear Hr1; try dsimp only at H
 try dsimp only
 refine Z1 ?_
 refine aU ?_
 refine cG ?_
 refine aL ?_
 refine aV ?_
 refine aL ?_
 refine aL ?_
 refine cD (x := (⟨(⟨a0.CodeProg.Free, a0.CodeProg.Defs, a0.CodeProg.Code, a0.CodeProg.Main⟩ : CodeProg), a0.begins, a0.last, a0.levels, a0.todo⟩ : Code_checker)) ?_
 cases H
 refine aD [0] (by decide) ?_
 exact To
def tT (a0 : Code_checker) (a1 : CodeIns) : Option (Code_checker × Bool) :=
 (if 0 ≤ a1.A then
  some (decide (a1.A < (a0.CodeProg.Defs.length : Int)))
 else
  some false).bind fun x1 =>
 some ((⟨(⟨a0.CodeProg.Free, a0.CodeProg.Defs, a0.CodeProg.Code, a0.CodeProg.Main⟩ : CodeProg), a0.begins, a0.last, a0.levels, a0.todo⟩ : Code_checker), x1)
theorem aDN (p0 : Nat) (a0 : Code_checker) (a1 : CodeIns) (r : Code_checker × Bool) (H : tT a0 a1 = some r) : FnS Tryz.prog 109 [fEq (.pointer (some ⟨p0, 0, none⟩)), fSt aG a1] [cR p0 a0] (aH r.2) (fun _ => [cR p0 r.1]) := by
 unfold tT at H
 refine cF Tryz.func109 rfl Tryz.ntmps109 rfl (fun β => ?_)
 refine cS (fun v1 v2 v3 => ?_)
 refine aU ?_
 refine cQ (fun b1 h1 => ?_); subst h1
 refine aB 2 rfl (fun hc_v1 => ?_)
 refine aB 3 rfl (fun hc_v3 => ?_)
 refine Z1 ?_
 refine Tn (dD rfl hh cV) fun b2 => ?_
 revert H; refine B2 fun o1 H Hr1 => ?_
 refine aQ (ι := Bool) (fun i => o1 = i) (fun i => [(0, fEq (ptr p0)), (4, aH i)]) (fun i => [aA b2 73 [fI a1.Op, fI a1.A, fI a1.B], aA p0 90 [fI a0.CodeProg.Free, fSl aF a0.CodeProg.Defs, fSl aG a0.CodeProg.Code, fI a0.CodeProg.Main, fSl tI a0.begins, fEq v1, fEq (.map (some b1)), fEq v3], bB aX (fun y => fSt aO y) b1 a0.levels, aC v1 3 tI a0.last, aC v3 3 tI a0.todo]) ?_ ?_
 revert H; refine is (fun c1 H => ?_) fun c1 H => ?_
 apply cL (ods := [_, _, _, _, _, _, _, _, _, _, _, _, _, _, _]) 15 0 5 cK rfl rfl rfl
 refine ND ?_
 refine M8 ?_
 intros
 refine M7 ?_
 intros
 refine Z2 ?_
 refine aD [0, 2, 1, 3, 4] (by decide) ?_
 exact Tm (decide (a1.A < (a0.CodeProg.Defs.length : Int))) (ij H)
 exact fk
 kernel_rfl
 apply cL (ods := [_, _, _, _, _, _, _, _, _, _, _, _, _, _, _]) 15 0 5 cK rfl rfl rfl
 refine ND ?_
 refine M8 ?_
 intros
 refine M7 ?_
 intros
 refine Z2 ?_
 refine aD [0, 2, 1, 3, 4] (by decide) ?_
 exact Tm (false) (ij H)
 exact fk
 kernel_rfl
 clear H; intro x1 hi; subst o1; have H := Hr1; clear Hr1; try dsimp only at H
 try dsimp only
 refine Z1 ?_
 refine aU ?_
 refine cG ?_
 refine aL ?_
 refine aV ?_
 refine aL ?_
 refine aL ?_
 refine cD (x := (⟨(⟨a0.CodeProg.Free, a0.CodeProg.Defs, a0.CodeProg.Code, a0.CodeProg.Main⟩ : CodeProg), a0.begins, a0.last, a0.levels, a0.todo⟩ : Code_checker)) ?_
 cases H
 refine aD [0] (by decide) ?_
 exact To
def sO (a0 : Code_checker) (a1 : CodeIns) : Option (Code_checker × Bool) :=
 (if 0 ≤ a1.A then
  (jB (⟨(⟨a0.CodeProg.Free, a0.CodeProg.Defs, a0.CodeProg.Code, a0.CodeProg.Main⟩ : CodeProg), a0.begins, a0.last, a0.levels, a0.todo⟩ : Code_checker) a1.B).bind fun y1 =>
  some (y1.2, y1.1.CodeProg.Free, y1.1.CodeProg.Defs, y1.1.CodeProg.Code, y1.1.CodeProg.Main, y1.1.begins, y1.1.last, y1.1.levels, y1.1.todo)
 else
  some (false, a0.CodeProg.Free, a0.CodeProg.Defs, a0.CodeProg.Code, a0.CodeProg.Main, a0.begins, a0.last, a0.levels, a0.todo)).bind fun (x1, x2, x3, x4, x5, x6, x7, x8, x9) =>
 some ((⟨(⟨x2, x3, x4, x5⟩ : CodeProg), x6, x7, x8, x9⟩ : Code_checker), x1)
theorem aEE (p0 : Nat) (a0 : Code_checker) (a1 : CodeIns) (r : Code_checker × Bool) (H : sO a0 a1 = some r) : FnS Tryz.prog 110 [fEq (.pointer (some ⟨p0, 0, none⟩)), fSt aG a1] [cR p0 a0] (aH r.2) (fun _ => [cR p0 r.1]) := by
 unfold sO at H
 refine cF Tryz.func110 rfl Tryz.ntmps110 rfl (fun β => ?_)
 refine cS (fun v1 v2 v3 => ?_)
 refine aU ?_
 refine cQ (fun b1 h1 => ?_); subst h1
 refine aB 2 rfl (fun hc_v1 => ?_)
 refine aB 3 rfl (fun hc_v3 => ?_)
 refine Z1 ?_
 refine Tn (dD rfl hh cV) fun b2 => ?_
 revert H; refine B2 fun o1 H Hr1 => ?_
 refine aQ (ι := Bool × Int × List ScopeDef × List CodeIns × Int × List Int × List Int × aE Int CodeLevel × List Int × Value × Nat × Value) (fun i => o1 = (i.1, i.2.1, i.2.2.1, i.2.2.2.1, i.2.2.2.2.1, i.2.2.2.2.2.1, i.2.2.2.2.2.2.1, i.2.2.2.2.2.2.2.1, i.2.2.2.2.2.2.2.2.1)) (fun i => [(0, fEq (ptr p0)), (4, aH i.1)]) (fun i => [aA p0 90 [fI i.2.1, fSl aF i.2.2.1, fSl aG i.2.2.2.1, fI i.2.2.2.2.1, fSl tI i.2.2.2.2.2.1, fEq i.2.2.2.2.2.2.2.2.2.1, fEq (.map (some i.2.2.2.2.2.2.2.2.2.2.1)), fEq i.2.2.2.2.2.2.2.2.2.2.2], aA b2 73 [fI a1.Op, fI a1.A, fI a1.B], bB aX (fun y => fSt aO y) i.2.2.2.2.2.2.2.2.2.2.1 i.2.2.2.2.2.2.2.1, aC i.2.2.2.2.2.2.2.2.2.1 3 tI i.2.2.2.2.2.2.1, aC i.2.2.2.2.2.2.2.2.2.2.2 3 tI i.2.2.2.2.2.2.2.2.1]) ?_ ?_
 revert H; refine I5 (fun c1 H => ?_) fun c1 H => ?_
 refine Z3 ?_
 refine aV ?_
 refine cG ?_
 refine aL ?_
 refine aV ?_
 refine aL ?_
 refine aL ?_
 refine cD (x := (⟨(⟨a0.CodeProg.Free, a0.CodeProg.Defs, a0.CodeProg.Code, a0.CodeProg.Main⟩ : CodeProg), a0.begins, a0.last, a0.levels, a0.todo⟩ : Code_checker)) ?_
 revert H; refine bs fun y1 h2 H => ?_
 refine Tc (qO _ _ _ _ h2) ?_
 refine cS (fun v6 v7 v8 => ?_)
 refine aU ?_
 refine cQ (fun b4 h3 => ?_); subst h3
 refine aB 2 rfl (fun hc_v6 => ?_)
 refine aB 3 rfl (fun hc_v8 => ?_)
 refine Z3 ?_
 refine aD [1, 4, 0, 2, 3] (by decide) ?_
 exact Tm ((y1.2, y1.1.CodeProg.Free, y1.1.CodeProg.Defs, y1.1.CodeProg.Code, y1.1.CodeProg.Main, y1.1.begins, y1.1.last, y1.1.levels, y1.1.todo, v6, b4, v8)) (ij H)
 refine Z7 ?_
 refine aD [2, 0, 1, 3, 4] (by decide) ?_
 exact Tm ((false, a0.CodeProg.Free, a0.CodeProg.Defs, a0.CodeProg.Code, a0.CodeProg.Main, a0.begins, a0.last, a0.levels, a0.todo, v1, b1, v3)) (ij H)
 clear H; intro i hi; obtain ⟨x1, x2, x3, x4, x5, x6, x7, x8, x9, v4, b3, v5⟩ := i; subst o1; have H := Hr1; clear Hr1; try dsimp only at H
 try dsimp only
 refine aB 3 rfl (fun hc_v4 => ?_)
 refine aB 4 rfl (fun hc_v5 => ?_)
 refine Z1 ?_
 refine aU ?_
 refine cG ?_
 refine aL ?_
 refine aV ?_
 refine aL ?_
 refine bF ?_
 refine cD (x := (⟨(⟨x2, x3, x4, x5⟩ : CodeProg), x6, x7, x8, x9⟩ : Code_checker)) ?_
 cases H
 refine aD [0] (by decide) ?_
 exact To
def tO (a0 : Code_checker) (a1 : CodeIns) : Option (Code_checker × Bool) :=
 (if 0 ≤ a1.A then
  (jB (⟨(⟨a0.CodeProg.Free, a0.CodeProg.Defs, a0.CodeProg.Code, a0.CodeProg.Main⟩ : CodeProg), a0.begins, a0.last, a0.levels, a0.todo⟩ : Code_checker) a1.B).bind fun y1 =>
  some (y1.2, y1.1.CodeProg.Free, y1.1.CodeProg.Defs, y1.1.CodeProg.Code, y1.1.CodeProg.Main, y1.1.begins, y1.1.last, y1.1.levels, y1.1.todo)
 else
  some (false, a0.CodeProg.Free, a0.CodeProg.Defs, a0.CodeProg.Code, a0.CodeProg.Main, a0.begins, a0.last, a0.levels, a0.todo)).bind fun (x1, x2, x3, x4, x5, x6, x7, x8, x9) =>
 some ((⟨(⟨x2, x3, x4, x5⟩ : CodeProg), x6, x7, x8, x9⟩ : Code_checker), x1)
theorem aFp (p0 : Nat) (a0 : Code_checker) (a1 : CodeIns) (r : Code_checker × Bool) (H : tO a0 a1 = some r) : FnS Tryz.prog 111 [fEq (.pointer (some ⟨p0, 0, none⟩)), fSt aG a1] [cR p0 a0] (aH r.2) (fun _ => [cR p0 r.1]) := by
 unfold tO at H
 refine cF Tryz.func111 rfl Tryz.ntmps111 rfl (fun β => ?_)
 refine cS (fun v1 v2 v3 => ?_)
 refine aU ?_
 refine cQ (fun b1 h1 => ?_); subst h1
 refine aB 2 rfl (fun hc_v1 => ?_)
 refine aB 3 rfl (fun hc_v3 => ?_)
 refine Z1 ?_
 refine Tn (dD rfl hh cV) fun b2 => ?_
 revert H; refine B2 fun o1 H Hr1 => ?_
 refine aQ (ι := Bool × Int × List ScopeDef × List CodeIns × Int × List Int × List Int × aE Int CodeLevel × List Int × Value × Nat × Value) (fun i => o1 = (i.1, i.2.1, i.2.2.1, i.2.2.2.1, i.2.2.2.2.1, i.2.2.2.2.2.1, i.2.2.2.2.2.2.1, i.2.2.2.2.2.2.2.1, i.2.2.2.2.2.2.2.2.1)) (fun i => [(0, fEq (ptr p0)), (4, aH i.1)]) (fun i => [aA p0 90 [fI i.2.1, fSl aF i.2.2.1, fSl aG i.2.2.2.1, fI i.2.2.2.2.1, fSl tI i.2.2.2.2.2.1, fEq i.2.2.2.2.2.2.2.2.2.1, fEq (.map (some i.2.2.2.2.2.2.2.2.2.2.1)), fEq i.2.2.2.2.2.2.2.2.2.2.2], aA b2 73 [fI a1.Op, fI a1.A, fI a1.B], bB aX (fun y => fSt aO y) i.2.2.2.2.2.2.2.2.2.2.1 i.2.2.2.2.2.2.2.1, aC i.2.2.2.2.2.2.2.2.2.1 3 tI i.2.2.2.2.2.2.1, aC i.2.2.2.2.2.2.2.2.2.2.2 3 tI i.2.2.2.2.2.2.2.2.1]) ?_ ?_
 revert H; refine I5 (fun c1 H => ?_) fun c1 H => ?_
 refine Z3 ?_
 refine aV ?_
 refine cG ?_
 refine aL ?_
 refine aV ?_
 refine aL ?_
 refine aL ?_
 refine cD (x := (⟨(⟨a0.CodeProg.Free, a0.CodeProg.Defs, a0.CodeProg.Code, a0.CodeProg.Main⟩ : CodeProg), a0.begins, a0.last, a0.levels, a0.todo⟩ : Code_checker)) ?_
 revert H; refine bs fun y1 h2 H => ?_
 refine Tc (qO _ _ _ _ h2) ?_
 refine cS (fun v6 v7 v8 => ?_)
 refine aU ?_
 refine cQ (fun b4 h3 => ?_); subst h3
 refine aB 2 rfl (fun hc_v6 => ?_)
 refine aB 3 rfl (fun hc_v8 => ?_)
 refine Z3 ?_
 refine aD [1, 4, 0, 2, 3] (by decide) ?_
 exact Tm ((y1.2, y1.1.CodeProg.Free, y1.1.CodeProg.Defs, y1.1.CodeProg.Code, y1.1.CodeProg.Main, y1.1.begins, y1.1.last, y1.1.levels, y1.1.todo, v6, b4, v8)) (ij H)
 refine Z7 ?_
 refine aD [2, 0, 1, 3, 4] (by decide) ?_
 exact Tm ((false, a0.CodeProg.Free, a0.CodeProg.Defs, a0.CodeProg.Code, a0.CodeProg.Main, a0.begins, a0.last, a0.levels, a0.todo, v1, b1, v3)) (ij H)
 clear H; intro i hi; obtain ⟨x1, x2, x3, x4, x5, x6, x7, x8, x9, v4, b3, v5⟩ := i; subst o1; have H := Hr1; clear Hr1; try dsimp only at H
 try dsimp only
 refine aB 3 rfl (fun hc_v4 => ?_)
 refine aB 4 rfl (fun hc_v5 => ?_)
 refine Z1 ?_
 refine aU ?_
 refine cG ?_
 refine aL ?_
 refine aV ?_
 refine aL ?_
 refine bF ?_
 refine cD (x := (⟨(⟨x2, x3, x4, x5⟩ : CodeProg), x6, x7, x8, x9⟩ : Code_checker)) ?_
 cases H
 refine aD [0] (by decide) ?_
 exact To
def wM (v : Value) (a0 : Code_checker) (a1 : CodeIns) : Option (Code_checker × Bool) := match v with
 | .func (.func 105) ⟨[]⟩ ⟨[]⟩ => qF a0 a1
 | .func (.func 106) ⟨[]⟩ ⟨[]⟩ => sD a0 a1
 | .func (.func 107) ⟨[]⟩ ⟨[]⟩ => pX a0 a1
 | .func (.func 108) ⟨[]⟩ ⟨[]⟩ => qK a0 a1
 | .func (.func 109) ⟨[]⟩ ⟨[]⟩ => tT a0 a1
 | .func (.func 110) ⟨[]⟩ ⟨[]⟩ => sO a0 a1
 | .func (.func 111) ⟨[]⟩ ⟨[]⟩ => tO a0 a1
 | _ => none
theorem aD1 (p0 : Nat) (v : Value) (a0 : Code_checker) (a1 : CodeIns) (r : Code_checker × Bool) (H : wM v a0 a1 = some r) : ∃ f, v = .func (.func f) #[] #[] ∧ Callable Tryz.prog f ∧ FnS Tryz.prog f [fEq (.pointer (some ⟨p0, 0, none⟩)), fSt aG a1] [cR p0 a0] (aH r.2) (fun _ => [cR p0 r.1]) := by
 unfold wM at H
 split at H
 exact ⟨_, rfl, (cb rfl), aFl p0 a0 a1 r H⟩
 exact ⟨_, rfl, (cb rfl), aDL p0 a0 a1 r H⟩
 exact ⟨_, rfl, (cb rfl), aEm p0 a0 a1 r H⟩
 exact ⟨_, rfl, (cb rfl), aET p0 a0 a1 r H⟩
 exact ⟨_, rfl, (cb rfl), aDN p0 a0 a1 r H⟩
 exact ⟨_, rfl, (cb rfl), aEE p0 a0 a1 r H⟩
 exact ⟨_, rfl, (cb rfl), aFp p0 a0 a1 r H⟩
 cases H
def jJ (a0 : Code_checker) : Nat → Int → Int → (List ScopeDef) → (List CodeIns) → Int → (List Int) → (List Int) → (aE Int CodeLevel) → (List Int) → (aE Int Bool) → Option ((Int × List ScopeDef × List CodeIns × Int × List Int × List Int × aE Int CodeLevel × List Int × aE Int Bool) ⊕ (Code_checker ⊕ Value))
| 0, _, _, _, _, _, _, _, _, _, _ => none
| k + 1, x20, x21, x22, x23, x24, x25, x26, x27, x28, x29 =>
 if x20 < (a0.CodeProg.Code.length : Int) then
  ((idx a0.CodeProg.Code x20).bind fun y2 =>
  (tL y2.Op).bind fun y3 =>
  (bH y3).bind fun y4 =>
  match y4 with
  | Sum.inr pv1 => ((some (Sum.inr pv1)).bind fun r => some (Sum.inr r)).bind fun r => some (Sum.inr r)
  | Sum.inl y4 =>
  (idx uZ y2.Op).bind fun y5 =>
  ((wM y5.right (⟨(⟨x21, x22, x23, x24⟩ : CodeProg), x25, x26, x27, x28⟩ : Code_checker) (⟨y2.Op, y2.A, y2.B⟩ : CodeIns)).bind fun y6 =>
  bif y6.2 then
   if 0 < y5.many then
    if 1 < y5.many then
     (bH true).bind fun y7 =>
     match y7 with
     | Sum.inr pv2 => (((some (Sum.inr pv2)).bind fun r => some (Sum.inr r)).bind fun r => some (Sum.inr r)).bind fun r => some (Sum.inr r)
     | Sum.inl y7 =>
     some (Sum.inl (y6.1.CodeProg.Free, y6.1.CodeProg.Defs, y6.1.CodeProg.Code, y6.1.CodeProg.Main, y6.1.begins, y6.1.last, y6.1.levels, y6.1.todo))
    else
     (bH (decide (y2.B = 0))).bind fun y8 =>
     match y8 with
     | Sum.inr pv3 => (((some (Sum.inr pv3)).bind fun r => some (Sum.inr r)).bind fun r => some (Sum.inr r)).bind fun r => some (Sum.inr r)
     | Sum.inl y8 =>
     some (Sum.inl (y6.1.CodeProg.Free, y6.1.CodeProg.Defs, y6.1.CodeProg.Code, y6.1.CodeProg.Main, y6.1.begins, y6.1.last, y6.1.levels, y6.1.todo))
   else
    if y2.A = 0 then
     if 1 < y5.many then
      (bH true).bind fun y9 =>
      match y9 with
      | Sum.inr pv4 => (((some (Sum.inr pv4)).bind fun r => some (Sum.inr r)).bind fun r => some (Sum.inr r)).bind fun r => some (Sum.inr r)
      | Sum.inl y9 =>
      some (Sum.inl (y6.1.CodeProg.Free, y6.1.CodeProg.Defs, y6.1.CodeProg.Code, y6.1.CodeProg.Main, y6.1.begins, y6.1.last, y6.1.levels, y6.1.todo))
     else
      (bH (decide (y2.B = 0))).bind fun y10 =>
      match y10 with
      | Sum.inr pv5 => (((some (Sum.inr pv5)).bind fun r => some (Sum.inr r)).bind fun r => some (Sum.inr r)).bind fun r => some (Sum.inr r)
      | Sum.inl y10 =>
      some (Sum.inl (y6.1.CodeProg.Free, y6.1.CodeProg.Defs, y6.1.CodeProg.Code, y6.1.CodeProg.Main, y6.1.begins, y6.1.last, y6.1.levels, y6.1.todo))
    else
     (bH false).bind fun y11 =>
     match y11 with
     | Sum.inr pv6 => (((some (Sum.inr pv6)).bind fun r => some (Sum.inr r)).bind fun r => some (Sum.inr r)).bind fun r => some (Sum.inr r)
     | Sum.inl y11 =>
     some (Sum.inl (y6.1.CodeProg.Free, y6.1.CodeProg.Defs, y6.1.CodeProg.Code, y6.1.CodeProg.Main, y6.1.begins, y6.1.last, y6.1.levels, y6.1.todo))
  else
   (bH false).bind fun y12 =>
   match y12 with
   | Sum.inr pv7 => (((some (Sum.inr pv7)).bind fun r => some (Sum.inr r)).bind fun r => some (Sum.inr r)).bind fun r => some (Sum.inr r)
   | Sum.inl y12 =>
   some (Sum.inl (y6.1.CodeProg.Free, y6.1.CodeProg.Defs, y6.1.CodeProg.Code, y6.1.CodeProg.Main, y6.1.begins, y6.1.last, y6.1.levels, y6.1.todo))).bind fun o => match o with
  | Sum.inr r => some r
  | Sum.inl (x39, x40, x41, x42, x43, x44, x45, x46) =>
  (if y2.Op = 9 then
   if x20 < y2.A then
    (bH (decide (y2.A < (x41.length : Int)))).bind fun y13 =>
    match y13 with
    | Sum.inr pv8 => (((some (Sum.inr pv8)).bind fun r => some (Sum.inr r)).bind fun r => some (Sum.inr r)).bind fun r => some (Sum.inr r)
    | Sum.inl y13 =>
    some (Sum.inl ())
   else
    (bH false).bind fun y14 =>
    match y14 with
    | Sum.inr pv9 => (((some (Sum.inr pv9)).bind fun r => some (Sum.inr r)).bind fun r => some (Sum.inr r)).bind fun r => some (Sum.inr r)
    | Sum.inl y14 =>
    some (Sum.inl ())
  else
   if y2.Op = 10 then
    if x20 < y2.A then
     (bH (decide (y2.A < (x41.length : Int)))).bind fun y15 =>
     match y15 with
     | Sum.inr pv10 => (((some (Sum.inr pv10)).bind fun r => some (Sum.inr r)).bind fun r => some (Sum.inr r)).bind fun r => some (Sum.inr r)
     | Sum.inl y15 =>
     some (Sum.inl ())
    else
     (bH false).bind fun y16 =>
     match y16 with
     | Sum.inr pv11 => (((some (Sum.inr pv11)).bind fun r => some (Sum.inr r)).bind fun r => some (Sum.inr r)).bind fun r => some (Sum.inr r)
     | Sum.inl y16 =>
     some (Sum.inl ())
   else
    some (Sum.inl ())).bind fun o => match o with
  | Sum.inr r => some r
  | Sum.inl _ =>
  if y2.Op = 11 then
   (bH (!((x29.get y2.A).getD false))).bind fun y17 =>
   match y17 with
   | Sum.inr pv12 => ((some (Sum.inr pv12)).bind fun r => some (Sum.inr r)).bind fun r => some (Sum.inr r)
   | Sum.inl y17 =>
   some (Sum.inl (x39, x40, x41, x42, x43, x44, x45, x46, aE.upd x29 y2.A true))
  else
   some (Sum.inl (x39, x40, x41, x42, x43, x44, x45, x46, x29))).bind fun o => match o with
  | Sum.inr r => some r
  | Sum.inl (x30, x31, x32, x33, x34, x35, x36, x37, x38) =>
  (chk (x20 + 1)).bind fun z1 =>
  jJ a0 k z1 x30 x31 x32 x33 x34 x35 x36 x37 x38
 else
  some (Sum.inl (x21, x22, x23, x24, x25, x26, x27, x28, x29))
def qX (fuel : Nat) (a0 : Code_checker) : Option (Code_checker ⊕ Value) :=
 (xO).bind fun y1 =>
 (jJ a0 fuel 0 a0.CodeProg.Free a0.CodeProg.Defs a0.CodeProg.Code a0.CodeProg.Main a0.begins a0.last a0.levels a0.todo (aE.none : aE Int Bool)).bind fun o => match o with
 | Sum.inr r => some r
 | Sum.inl (x1, x2, x3, x4, x5, x6, x7, x8, x9) =>
 (bH (decide ((x9.size : Int) = (x2.length : Int)))).bind fun y18 =>
 match y18 with
 | Sum.inr pv13 => some (Sum.inr pv13)
 | Sum.inl y18 =>
 some (Sum.inl (⟨(⟨x1, x2, x3, x4⟩ : CodeProg), x5, x6, x7, x8⟩ : Code_checker))
theorem aCA (fuel : Nat) (p0 : Nat) (a0 : Code_checker) (r : Code_checker ⊕ Value) (H : qX fuel a0 = some r) : FnE Tryz.prog 72 [fEq (.pointer (some ⟨p0, 0, none⟩))] [cR p0 a0] r (fun r => dQ []) (fun r => [cR p0 r]) := by
 unfold qX at H
 refine jA Tryz.func72 rfl Tryz.ntmps72 rfl (fun β => ?_)
 refine cS (fun v1 v2 v3 => ?_)
 refine aU ?_
 refine cQ (fun b1 h1 => ?_); subst h1
 refine aB 2 rfl (fun hc_v1 => ?_)
 refine aB 3 rfl (fun hc_v3 => ?_)
 revert H; refine B1 fun y1 h2 H => ?_
 refine Tc (aFt _ h2) ?_
 refine Tn (dL rfl aEC rfl) fun b2 => ?_
 refine dH (φs' := jO.leafs ()) trivial rfl rfl (has rfl) (has rfl) (jO.cell ()) (sz rfl) rfl rfl rfl ?_
 refine iT (φ := bI jO ()) (v := ptr b2) [] (wH aJ.rfl) (fun _ h => nomatch h) ?_
 refine T_slotW 2 rfl (fun m u h k => by cases k; exact h) ?_
 refine iI ?_
 refine Z2 ?_
 refine Tn (yQ (fun y => aH y) aX rfl) fun b3 => ?_
 revert H; refine B2 fun o1 H Hr1 => ?_
 refine aQ (ι := Int × List ScopeDef × List CodeIns × Int × List Int × List Int × aE Int CodeLevel × List Int × aE Int Bool × Value × Nat × Value) (fun i => o1 = Sum.inl (i.1, i.2.1, i.2.2.1, i.2.2.2.1, i.2.2.2.2.1, i.2.2.2.2.2.1, i.2.2.2.2.2.2.1, i.2.2.2.2.2.2.2.1, i.2.2.2.2.2.2.2.2.1)) (fun i => [(0, fEq (ptr p0)), (3, fEq (.map (some b3)))]) (fun i => [aA p0 90 [fI i.1, fSl aF i.2.1, fSl aG i.2.2.1, fI i.2.2.2.1, fSl tI i.2.2.2.2.1, fEq i.2.2.2.2.2.2.2.2.2.1, fEq (.map (some i.2.2.2.2.2.2.2.2.2.2.1)), fEq i.2.2.2.2.2.2.2.2.2.2.2], bB aX (fun y => fSt aO y) i.2.2.2.2.2.2.2.2.2.2.1 i.2.2.2.2.2.2.1, bB aX (fun y => aH y) b3 i.2.2.2.2.2.2.2.2.1, aC i.2.2.2.2.2.2.2.2.2.1 3 tI i.2.2.2.2.2.1, aC i.2.2.2.2.2.2.2.2.2.2.2 3 tI i.2.2.2.2.2.2.2.1]) ?_ ?_
 refine Z10 ?_
 refine aD [2, 1, 0, 3, 4] (by decide) ?_
 refine Tl (ι := Nat × Int × Int × List ScopeDef × List CodeIns × Int × List Int × List Int × aE Int CodeLevel × List Int × aE Int Bool × Value × Nat × Value) (fun i => jJ a0 i.1 i.2.1 i.2.2.1 i.2.2.2.1 i.2.2.2.2.1 i.2.2.2.2.2.1 i.2.2.2.2.2.2.1 i.2.2.2.2.2.2.2.1 i.2.2.2.2.2.2.2.2.1 i.2.2.2.2.2.2.2.2.2.1 i.2.2.2.2.2.2.2.2.2.2.1 = _) (fun i => i.1) (fun i => [(0, fEq (ptr p0)), (2, bI jO ()), (3, fEq (.map (some b3))), (13, fSl aG a0.CodeProg.Code), (14, fI (a0.CodeProg.Code.length : Int)), (15, fI i.2.1)]) (fun i => [aA p0 90 [fI i.2.2.1, fSl aF i.2.2.2.1, fSl aG i.2.2.2.2.1, fI i.2.2.2.2.2.1, fSl tI i.2.2.2.2.2.2.1, fEq i.2.2.2.2.2.2.2.2.2.2.2.1, fEq (.map (some i.2.2.2.2.2.2.2.2.2.2.2.2.1)), fEq i.2.2.2.2.2.2.2.2.2.2.2.2.2], bB aX (fun y => fSt aO y) i.2.2.2.2.2.2.2.2.2.2.2.2.1 i.2.2.2.2.2.2.2.2.1, bB aX (fun y => aH y) b3 i.2.2.2.2.2.2.2.2.2.2.1, aC i.2.2.2.2.2.2.2.2.2.2.2.1 3 tI i.2.2.2.2.2.2.2.1, aC i.2.2.2.2.2.2.2.2.2.2.2.2.2 3 tI i.2.2.2.2.2.2.2.2.2.1]) (fuel, 0, a0.CodeProg.Free, a0.CodeProg.Defs, a0.CodeProg.Code, a0.CodeProg.Main, a0.begins, a0.last, a0.levels, a0.todo, (aE.none : aE Int Bool), v1, b1, v3) H ?_
 clear H; rintro ⟨k1, x20, x21, x22, x23, x24, x25, x26, x27, x28, x29, v8, b6, v9⟩ H
 replace H : jJ a0 k1 x20 x21 x22 x23 x24 x25 x26 x27 x28 x29 = _ := H
 try dsimp only
 obtain _ | k1 := k1
 rw [jJ] at H; cases H
 rw [jJ] at H
 refine aB 3 rfl (fun hc_v8 => ?_)
 refine aB 4 rfl (fun hc_v9 => ?_)
 refine Z3 ?_
 refine aM ?_
 revert H; refine is (fun c1 H => ?_) fun c1 H => ?_
 revert H; refine B3 fun o2 H Hr2 => ?_
 refine aQ (ι := Int × List ScopeDef × List CodeIns × Int × List Int × List Int × aE Int CodeLevel × List Int × aE Int Bool × Value × Nat × Value) (fun i => o2 = Sum.inl (i.1, i.2.1, i.2.2.1, i.2.2.2.1, i.2.2.2.2.1, i.2.2.2.2.2.1, i.2.2.2.2.2.2.1, i.2.2.2.2.2.2.2.1, i.2.2.2.2.2.2.2.2.1)) (fun i => [(0, fEq (ptr p0)), (2, bI jO ()), (3, fEq (.map (some b3))), (13, fSl aG a0.CodeProg.Code), (14, fI (a0.CodeProg.Code.length : Int)), (15, fI x20)]) (fun i => [aA p0 90 [fI i.1, fSl aF i.2.1, fSl aG i.2.2.1, fI i.2.2.2.1, fSl tI i.2.2.2.2.1, fEq i.2.2.2.2.2.2.2.2.2.1, fEq (.map (some i.2.2.2.2.2.2.2.2.2.2.1)), fEq i.2.2.2.2.2.2.2.2.2.2.2], bB aX (fun y => fSt aO y) i.2.2.2.2.2.2.2.2.2.2.1 i.2.2.2.2.2.2.1, bB aX (fun y => aH y) b3 i.2.2.2.2.2.2.2.2.1, aC i.2.2.2.2.2.2.2.2.2.1 3 tI i.2.2.2.2.2.1, aC i.2.2.2.2.2.2.2.2.2.2.2 3 tI i.2.2.2.2.2.2.2.1]) ?_ ?_
 revert H; refine B3 fun y2 h3 H => ?_
 refine Z2 ?_
 refine Tn (dL rfl rV rfl) fun b8 => ?_
 refine Z1 ?_
 refine dH (φs' := [fI y2.Op, fI y2.A, fI y2.B]) trivial rfl rfl (has rfl) (has rfl) (aP (aK trivial) (aP (aK trivial) (aP (aK trivial) bY))) (sz rfl) rfl rfl rfl ?_
 revert H; refine B4 fun y3 h4 H => ?_
 refine Tc (aEQ _ _ h4) ?_
 revert H; refine bs fun y4 h5 H => ?_
 rcases y4 with y4 | pv1 <;> dsimp only at H
 refine Tc (aN _ _ h5).s ?_
 revert H; refine B4 fun y5 h6 H => ?_
 refine Yy (aEj (A := jO) (xs := uZ) rfl hh hh rfl aEl h6) ?_
 refine Z1 ?_
 refine Tn (dL rfl aFb rfl) fun b9 => ?_
 refine dH (φs' := [fStr y5.name, fI y5.many, fRaw y5.right]) trivial rfl rfl (has rfl) (has rfl) (aP (aK trivial) (aP (aK trivial) (aP (xT) bY))) (sz rfl) rfl rfl rfl ?_
 revert H; refine B1 fun o3 H Hr3 => ?_
 refine aQ (ι := Int × List ScopeDef × List CodeIns × Int × List Int × List Int × aE Int CodeLevel × List Int × Value × Nat × Value) (fun i => o3 = Sum.inl (i.1, i.2.1, i.2.2.1, i.2.2.2.1, i.2.2.2.2.1, i.2.2.2.2.2.1, i.2.2.2.2.2.2.1, i.2.2.2.2.2.2.2.1)) (fun i => [(0, fEq (ptr p0)), (2, bI jO ()), (3, fEq (.map (some b3))), (13, fSl aG a0.CodeProg.Code), (14, fI (a0.CodeProg.Code.length : Int)), (15, fI x20), (5, fEq (ptr b8)), (4, fI x20)]) (fun i => [aA p0 90 [fI i.1, fSl aF i.2.1, fSl aG i.2.2.1, fI i.2.2.2.1, fSl tI i.2.2.2.2.1, fEq i.2.2.2.2.2.2.2.2.1, fEq (.map (some i.2.2.2.2.2.2.2.2.2.1)), fEq i.2.2.2.2.2.2.2.2.2.2], aA b9 150 [fStr y5.name, fI y5.many, fRaw y5.right], aA b8 73 [fI y2.Op, fI y2.A, fI y2.B], bB aX (fun y => fSt aO y) i.2.2.2.2.2.2.2.2.2.1 i.2.2.2.2.2.2.1, bB aX (fun y => aH y) b3 x29, aC i.2.2.2.2.2.2.2.2.1 3 tI i.2.2.2.2.2.1, aC i.2.2.2.2.2.2.2.2.2.2 3 tI i.2.2.2.2.2.2.2.1]) ?_ ?_
 refine Z5 ?_
 refine bF ?_
 refine cG ?_
 refine nU ?_
 refine aV ?_
 refine nU ?_
 refine fF ?_
 refine cD (x := (⟨(⟨x21, x22, x23, x24⟩ : CodeProg), x25, x26, x27, x28⟩ : Code_checker)) ?_
 revert H; refine bs fun y6 h7 H => ?_
 obtain ⟨f1, h8, h9, h10⟩ := aD1 p0 y5.right (⟨(⟨x21, x22, x23, x24⟩ : CodeProg), x25, x26, x27, x28⟩ : Code_checker) (⟨y2.Op, y2.A, y2.B⟩ : CodeIns) _ h7
 refine uA 29 rfl (ent_fnOf h8) ?_
 refine eU trivial rfl rfl rfl (has rfl) (aI.cons (has rfl) (aI.cons (has rfl) aI.nil)) rfl h9 h10 rfl ?_
 refine cS (fun v14 v15 v16 => ?_)
 refine aU ?_
 refine cQ (fun b11 h11 => ?_); subst h11
 refine aB 2 rfl (fun hc_v14 => ?_)
 refine aB 3 rfl (fun hc_v16 => ?_)
 refine Z1 ?_
 revert H; refine cs (fun c2 H => ?_) fun c2 H => ?_
 revert H; refine I4 (fun c3 H => ?_) fun c3 H => ?_
 revert H; refine I10 (fun c4 H => ?_) fun c4 H => ?_
 revert H; refine B5 fun y7 h12 H => ?_
 rcases y7 with y7 | pv2 <;> dsimp only at H
 refine Tc (aN _ _ h12).s ?_
 refine Z1 ?_
 refine aD [1, 4, 5, 0, 6, 2, 3] (by decide) ?_
 exact Tm ((y6.1.CodeProg.Free, y6.1.CodeProg.Defs, y6.1.CodeProg.Code, y6.1.CodeProg.Main, y6.1.begins, y6.1.last, y6.1.levels, y6.1.todo, v14, b11, v16)) (ij H)
 refine Tp (aN _ _ h12).pan ?_
 revert H; refine B1 fun r1 H e1 => ?_
 cases e1; cases Hr3
 revert H; refine B2 fun r2 H e2 => ?_
 cases e2; cases Hr2
 revert H; refine B3 fun r3 H e3 => ?_
 cases e3; cases Hr1
 cases H
 exact bC
 revert H; refine B5 fun y8 h13 H => ?_
 rcases y8 with y8 | pv3 <;> dsimp only at H
 refine Tc (aN _ _ h13).s ?_
 refine Z1 ?_
 refine aD [1, 4, 5, 0, 6, 2, 3] (by decide) ?_
 exact Tm ((y6.1.CodeProg.Free, y6.1.CodeProg.Defs, y6.1.CodeProg.Code, y6.1.CodeProg.Main, y6.1.begins, y6.1.last, y6.1.levels, y6.1.todo, v14, b11, v16)) (ij H)
 refine Tp (aN _ _ h13).pan ?_
 revert H; refine B1 fun r4 H e4 => ?_
 cases e4; cases Hr3
 revert H; refine B2 fun r5 H e5 => ?_
 cases e5; cases Hr2
 revert H; refine B3 fun r6 H e6 => ?_
 cases e6; cases Hr1
 cases H
 exact bC
 revert H; refine I6 (fun c5 H => ?_) fun c5 H => ?_
 revert H; refine I4 (fun c6 H => ?_) fun c6 H => ?_
 revert H; refine B5 fun y9 h14 H => ?_
 rcases y9 with y9 | pv4 <;> dsimp only at H
 refine Tc (aN _ _ h14).s ?_
 refine Z1 ?_
 refine aD [1, 4, 5, 0, 6, 2, 3] (by decide) ?_
 exact Tm ((y6.1.CodeProg.Free, y6.1.CodeProg.Defs, y6.1.CodeProg.Code, y6.1.CodeProg.Main, y6.1.begins, y6.1.last, y6.1.levels, y6.1.todo, v14, b11, v16)) (ij H)
 refine Tp (aN _ _ h14).pan ?_
 revert H; refine B1 fun r7 H e7 => ?_
 cases e7; cases Hr3
 revert H; refine B2 fun r8 H e8 => ?_
 cases e8; cases Hr2
 revert H; refine B3 fun r9 H e9 => ?_
 cases e9; cases Hr1
 cases H
 exact bC
 revert H; refine B5 fun y10 h15 H => ?_
 rcases y10 with y10 | pv5 <;> dsimp only at H
 refine Tc (aN _ _ h15).s ?_
 refine Z1 ?_
 refine aD [1, 4, 5, 0, 6, 2, 3] (by decide) ?_
 exact Tm ((y6.1.CodeProg.Free, y6.1.CodeProg.Defs, y6.1.CodeProg.Code, y6.1.CodeProg.Main, y6.1.begins, y6.1.last, y6.1.levels, y6.1.todo, v14, b11, v16)) (ij H)
 refine Tp (aN _ _ h15).pan ?_
 revert H; refine B1 fun r10 H e10 => ?_
 cases e10; cases Hr3
 revert H; refine B2 fun r11 H e11 => ?_
 cases e11; cases Hr2
 revert H; refine B3 fun r12 H e12 => ?_
 cases e12; cases Hr1
 cases H
 exact bC
 refine Z4 ?_
 refine aW (⟨_, _, _, _, rfl, rfl, rfl, nu⟩) rfl rfl ?_
 refine aW (⟨_, _, _, _, rfl, rfl, rfl, nu⟩) rfl rfl ?_
 refine aW (⟨_, _, _, _, rfl, rfl, rfl, nu⟩) rfl rfl ?_
 revert H; refine B2 fun y11 h16 H => ?_
 rcases y11 with y11 | pv6 <;> dsimp only at H
 refine Tc (aN _ _ h16).s ?_
 refine Z1 ?_
 refine aD [1, 4, 5, 0, 6, 2, 3] (by decide) ?_
 exact Tm ((y6.1.CodeProg.Free, y6.1.CodeProg.Defs, y6.1.CodeProg.Code, y6.1.CodeProg.Main, y6.1.begins, y6.1.last, y6.1.levels, y6.1.todo, v14, b11, v16)) (ij H)
 refine Tp (aN _ _ h16).pan ?_
 revert H; refine B1 fun r13 H e13 => ?_
 cases e13; cases Hr3
 revert H; refine B2 fun r14 H e14 => ?_
 cases e14; cases Hr2
 revert H; refine B3 fun r15 H e15 => ?_
 cases e15; cases Hr1
 cases H
 exact bC
 refine Z4 ?_
 refine aW (⟨_, _, _, _, rfl, rfl, rfl, nu⟩) rfl rfl ?_
 refine aW (⟨_, _, _, _, rfl, rfl, rfl, nu⟩) rfl rfl ?_
 refine aW (⟨_, _, _, _, rfl, rfl, rfl, nu⟩) rfl rfl ?_
 refine Z7 ?_
 refine aW (⟨_, _, _, _, rfl, rfl, rfl, nu⟩) rfl rfl ?_
 refine aW (⟨_, _, _, _, rfl, rfl, rfl, nu⟩) rfl rfl ?_
 refine aW (⟨_, _, _, _, rfl, rfl, rfl, nu⟩) rfl rfl ?_
 revert H; refine B2 fun y12 h17 H => ?_
 rcases y12 with y12 | pv7 <;> dsimp only at H
 refine Tc (aN _ _ h17).s ?_
 refine Z1 ?_
 refine aD [1, 4, 5, 0, 6, 2, 3] (by decide) ?_
 exact Tm ((y6.1.CodeProg.Free, y6.1.CodeProg.Defs, y6.1.CodeProg.Code, y6.1.CodeProg.Main, y6.1.begins, y6.1.last, y6.1.levels, y6.1.todo, v14, b11, v16)) (ij H)
 refine Tp (aN _ _ h17).pan ?_
 revert H; refine B1 fun r16 H e16 => ?_
 cases e16; cases Hr3
 revert H; refine B2 fun r17 H e17 => ?_
 cases e17; cases Hr2
 revert H; refine B3 fun r18 H e18 => ?_
 cases e18; cases Hr1
 cases H
 exact bC
 clear H; intro i hi; obtain ⟨x39, x40, x41, x42, x43, x44, x45, x46, v12, b10, v13⟩ := i; subst o3; have H := Hr3; clear Hr3; try dsimp only at H
 try dsimp only
 refine aB 5 rfl (fun hc_v12 => ?_)
 refine aB 6 rfl (fun hc_v13 => ?_)
 revert H; refine bs fun o4 H Hr4 => ?_
 refine aQ (ι := Unit) (fun i => o4 = Sum.inl ()) (fun i => [(0, fEq (ptr p0)), (2, bI jO ()), (3, fEq (.map (some b3))), (13, fSl aG a0.CodeProg.Code), (14, fI (a0.CodeProg.Code.length : Int)), (15, fI x20), (5, fEq (ptr b8))]) (fun i => [aA p0 90 [fI x39, fSl aF x40, fSl aG x41, fI x42, fSl tI x43, fEq v12, fEq (.map (some b10)), fEq v13], aA b9 150 [fStr y5.name, fI y5.many, fRaw y5.right], aA b8 73 [fI y2.Op, fI y2.A, fI y2.B], bB aX (fun y => fSt aO y) b10 x45, bB aX (fun y => aH y) b3 x29, aC v12 3 tI x44, aC v13 3 tI x46]) ?_ ?_
 revert H; refine I5 (fun c7 H => ?_) fun c7 H => ?_
 revert H; refine I6 (fun c8 H => ?_) fun c8 H => ?_
 apply cL (ods := [_, _, _, _, _, _, _, _, _, _, _, _, _, _, _]) 15 0 7 cK rfl rfl rfl
 refine ND ?_
 refine M8 ?_
 intros
 refine M7 ?_
 intros
 revert H; refine B1 fun y13 h18 H => ?_
 rcases y13 with y13 | pv8 <;> dsimp only at H
 refine Tc (aN _ _ h18).s ?_
 refine Z1 ?_
 exact Tm (()) (ij H)
 refine Tp (aN _ _ h18).pan ?_
 revert H; refine B1 fun r19 H e19 => ?_
 cases e19; cases Hr4
 revert H; refine B2 fun r20 H e20 => ?_
 cases e20; cases Hr2
 revert H; refine B3 fun r21 H e21 => ?_
 cases e21; cases Hr1
 cases H
 exact bC
 exact fk
 kernel_rfl
 apply cL (ods := [_, _, _, _, _, _, _, _, _, _, _, _, _, _, _]) 15 0 7 cK rfl rfl rfl
 refine ND ?_
 refine M8 ?_
 intros
 refine M7 ?_
 intros
 revert H; refine B1 fun y14 h19 H => ?_
 rcases y14 with y14 | pv9 <;> dsimp only at H
 refine Tc (aN _ _ h19).s ?_
 refine Z1 ?_
 exact Tm (()) (ij H)
 refine Tp (aN _ _ h19).pan ?_
 revert H; refine B1 fun r22 H e22 => ?_
 cases e22; cases Hr4
 revert H; refine B2 fun r23 H e23 => ?_
 cases e23; cases Hr2
 revert H; refine B3 fun r24 H e24 => ?_
 cases e24; cases Hr1
 cases H
 exact bC
 exact fk
 kernel_rfl
 revert H; refine I5 (fun c9 H => ?_) fun c9 H => ?_
 revert H; refine I1 (fun c10 H => ?_) fun c10 H => ?_
 apply cL (ods := [_, _, _, _, _, _, _, _, _, _, _, _, _, _, _]) 15 0 7 cK rfl rfl rfl
 refine ND ?_
 refine M8 ?_
 intros
 refine M7 ?_
 intros
 revert H; refine B1 fun y15 h20 H => ?_
 rcases y15 with y15 | pv10 <;> dsimp only at H
 refine Tc (aN _ _ h20).s ?_
 refine Z1 ?_
 exact Tm (()) (ij H)
 refine Tp (aN _ _ h20).pan ?_
 revert H; refine B1 fun r25 H e25 => ?_
 cases e25; cases Hr4
 revert H; refine B2 fun r26 H e26 => ?_
 cases e26; cases Hr2
 revert H; refine B3 fun r27 H e27 => ?_
 cases e27; cases Hr1
 cases H
 exact bC
 exact fk
 kernel_rfl
 apply cL (ods := [_, _, _, _, _, _, _, _, _, _, _, _, _, _, _]) 15 0 7 cK rfl rfl rfl
 refine ND ?_
 refine M8 ?_
 intros
 refine M7 ?_
 intros
 revert H; refine B1 fun y16 h21 H => ?_
 rcases y16 with y16 | pv11 <;> dsimp only at H
 refine Tc (aN _ _ h21).s ?_
 refine Z1 ?_
 exact Tm (()) (ij H)
 refine Tp (aN _ _ h21).pan ?_
 revert H; refine B1 fun r28 H e28 => ?_
 cases e28; cases Hr4
 revert H; refine B2 fun r29 H e29 => ?_
 cases e29; cases Hr2
 revert H; refine B3 fun r30 H e30 => ?_
 cases e30; cases Hr1
 cases H
 exact bC
 exact fk
 kernel_rfl
 refine Z3 ?_
 exact Tm (()) (ij H)
 clear H; intro i hi; subst o4; have H := Hr4; clear Hr4; try dsimp only at H
 try dsimp only
 revert H; refine I5 (fun c11 H => ?_) fun c11 H => ?_
 refine Z5 ?_
 refine Yo 4 rfl (aBk (zα := false) (k := y2.A) rfl hh hh rfl rF Ent.rfl) ?_
 revert H; refine B1 fun y17 h22 H => ?_
 rcases y17 with y17 | pv12 <;> dsimp only at H
 refine Tc (aN _ _ h22).s ?_
 refine Z5 ?_
 refine aL ?_
 refine yB (k := y2.A) (y := true) trivial (.inl rfl) rfl (has rfl) (has rfl) rfl (has rfl) rfl rF ?_
 refine Z3 ?_
 refine aD [1, 4, 0, 5, 6] (by decide) ?_
 exact Tm ((x39, x40, x41, x42, x43, x44, x45, x46, aE.upd x29 y2.A true, v12, b10, v13)) (ij H)
 refine Tp (aN _ _ h22).pan ?_
 revert H; refine B3 fun r31 H e31 => ?_
 cases e31; cases Hr2
 revert H; refine B3 fun r32 H e32 => ?_
 cases e32; cases Hr1
 cases H
 exact bC
 refine Z4 ?_
 refine aD [0, 3, 4, 5, 6] (by decide) ?_
 exact Tm ((x39, x40, x41, x42, x43, x44, x45, x46, x29, v12, b10, v13)) (ij H)
 refine Tp (aN _ _ h5).pan ?_
 revert H; refine B3 fun r33 H e33 => ?_
 cases e33; cases Hr2
 revert H; refine B3 fun r34 H e34 => ?_
 cases e34; cases Hr1
 cases H
 exact bC
 clear H; intro i hi; obtain ⟨x30, x31, x32, x33, x34, x35, x36, x37, x38, v10, b7, v11⟩ := i; subst o2; have H := Hr2; clear Hr2; try dsimp only at H
 try dsimp only
 refine aB 3 rfl (fun hc_v10 => ?_)
 refine aB 4 rfl (fun hc_v11 => ?_)
 revert H; refine B1 fun z1 h23 H => ?_
 refine Z3 ?_
 exact Tm ((k1, z1, x30, x31, x32, x33, x34, x35, x36, x37, x38, v10, b7, v11)) ⟨H, ls⟩
 refine Z6 ?_
 exact Tm ((x21, x22, x23, x24, x25, x26, x27, x28, x29, v8, b6, v9)) (ij H)
 clear H; intro i hi; obtain ⟨x1, x2, x3, x4, x5, x6, x7, x8, x9, v4, b4, v5⟩ := i; subst o1; have H := Hr1; clear Hr1; try dsimp only at H
 try dsimp only
 refine aB 3 rfl (fun hc_v4 => ?_)
 refine aB 4 rfl (fun hc_v5 => ?_)
 apply cL (ods := [_, _, _, _, _, _, _, _, _]) 9 0 5 cK rfl rfl rfl
 refine ND ?_
 refine M1 ?_
 intros
 refine Mo 2 rfl (zM rfl hh rF) fun _ => ?_
 refine M7 ?_
 intros
 revert H; refine B1 fun y18 h24 H => ?_
 rcases y18 with y18 | pv13 <;> dsimp only at H
 refine Tc (aN _ _ h24).s ?_
 refine Z1 ?_
 refine aV ?_
 refine cG ?_
 refine aL ?_
 refine aV ?_
 refine aL ?_
 refine bF ?_
 refine cD (x := (⟨(⟨x1, x2, x3, x4⟩ : CodeProg), x5, x6, x7, x8⟩ : Code_checker)) ?_
 cases H
 refine gP ?_
 refine aD [0] (by decide) ?_
 exact cJ (.inr rfl) rfl rfl
 refine Tp (aN _ _ h24).pan ?_
 cases H
 exact bC
 exact fk
 kernel_rfl
def sA (a0 : List Int) : Option (List Int) :=
 (eK (([] : List Int) ++ a0)).bind fun z1 =>
 some z1
theorem aE7  (a0 : List Int) (r : List Int) (H : sA a0 = some r) : FnS Tryz.prog 41 [fSl tI a0] [] fAny (fun v => [(fun v => aC v 3 tI r) v]) := by
 unfold sA at H
 refine cF Tryz.func41 rfl Tryz.ntmps41 rfl (fun β => ?_)
 refine Z3 ?_
 refine aM ?_
 refine Z2 ?_
 refine Yy (o_eqNil rfl hh (us rfl)) ?_
 refine Z1 ?_
 refine aE6 (has rfl) (fun hx => ?_) ?_
 replace H : some ([] : List Int) = some r := by subst hx; exact H
 refine Z4 ?_
 refine fD tI 3 ?_
 cases H
 exact zR rfl (cP rfl) (fun _ _ _ => trivial) rfl
 refine Z3 ?_
 refine Tn (gJ (t := tI) (xs := ([] : List Int)) rfl (et rfl) cB.nil rfl rfl rfl) fun b1 => ?_
 generalize (Value.slice (some ⟨b1, 0, none⟩) _ _) = v1
 refine aB 0 rfl (fun hc_v1 => ?_)
 revert H; refine B1 fun z1 h1 H => ?_
 refine aDu (ys := a0) trivial rfl rfl rfl (has rfl) (has rfl) (et rfl) rfl h1 (fun v2 => ?_)
 refine aB 0 rfl (fun hc_v2 => ?_)
 refine Z3 ?_
 cases H
 exact zR rfl (cP rfl) (fun _ _ _ => trivial) rfl
def qP (a0 : Int) : Option (Bool) :=
 (if a0 = 13 then
  some true
 else
  some (decide (a0 = 15))).bind fun x1 =>
 some x1
theorem aDM  (a0 : Int) (r : Bool) (H : qP a0 = some r) : FnS Tryz.prog 39 [fI a0] [] (aH r) (fun _ => []) := by
 unfold qP at H
 refine cF Tryz.func39 rfl Tryz.ntmps39 rfl (fun β => ?_)
 revert H; refine B3 fun o1 H Hr1 => ?_
 refine aQ (ι := Bool) (fun i => o1 = i) (fun i => [(2, aH i)]) (fun i => []) ?_ ?_
 revert H; refine I4 (fun c1 H => ?_) fun c1 H => ?_
 refine Z5 ?_
 exact Tm (true) (ij H)
 refine Z5 ?_
 exact Tm (decide (a0 = 15)) (ij H)
 clear H; intro x1 hi; subst o1; have H := Hr1; clear Hr1; try dsimp only at H
 try dsimp only
 refine Z1 ?_
 cases H
 exact To
open Go.SX Go.SW
def sortRen : Go.Shelf.Ren := ⟨fun x => match x with
 | 189 => 84 | 125 => 127 | 257 => 126 | 128 => 151 | 129 => 152
 | 294 => 142 | 295 => 143 | 296 => 144 | 297 => 145 | 298 => 146
 | 299 => 147 | 216 => 148 | 300 => 149 | 301 => 150 | 328 => 163
 | 329 => 164 | 330 => 165 | 331 => 166 | 332 => 167 | 215 => 168 | 343 => 180
 | n => n, fun x => match x with
 | 28 => 40 | 3 => 3 | 46 => 208 | 0 => 0 | 51 => 230 | 53 => 232 | 4 => 4 | 183 => 222 | 182 => 221 | 131 => 227 | 5 => 5 | 9 => 9
 | 218 => 243 | 222 => 247 | 228 => 265 | 229 => 266
 | n => n, fun x => x⟩
theorem aBV : Go.Proofs.Lays.n189 Tryz.prog sortRen := by constructor <;> first | kernel_rfl | (intro w; kernel_rfl)
def compRen : Go.Shelf.Ren := ⟨fun x => match x with | 20 => 118 | n => n, fun x => match x with | 0 => 0 | 3 => 3 | 4 => 4 | 22 => 40 | n => n, fun x => x⟩
theorem aB4 : Go.Proofs.Lays2.n20 Tryz.prog compRen := by constructor <;> first | kernel_rfl | (intro w; kernel_rfl)
theorem heap_row {w : World} {b n : Nat} {c : Array Value} {e : TypeId} {f : Array Value → Array Value} {os : Array Obj} (h : w.heap[b]? = some (.cells c e (0, 0))) :
 (Go.Sort.grow (Go.Sort.mapBlock (Go.Sort.ahead w n) b f) os).heap[b]? = some (.cells (f c) e (0, 0)) ∧ ∀ k, k ≠ b → k < w.heap.size → (Go.Sort.grow (Go.Sort.mapBlock (Go.Sort.ahead w n) b f) os).heap[k]? = w.heap[k]? := by
 have hb : b < w.heap.size := (Array.getElem?_eq_some_iff.1 h).1
 constructor
 ·simp only [Go.Sort.grow, Go.Sort.mapBlock, Go.Sort.ahead]
  rw [Array.getElem?_append_left (by simpa using hb), Array.getElem?_modify, if_pos rfl, h]; rfl
 ·intro k hk hk2
  simp only [Go.Sort.grow, Go.Sort.mapBlock, Go.Sort.ahead]
  rw [Array.getElem?_append_left (by simpa using hk2), Array.getElem?_modify, if_neg (fun e => hk e.symm)]
theorem st_row {w : World} {m : Mem} {b n : Nat} {c : Array Value} {e : TypeId} {f : Array Value → Array Value} {os : Array Obj} (hS : St ⟨w, m, [b]⟩ m [(b, .cells c e (0, 0))] w) :
 St ⟨w, m, [b]⟩ m [(b, .cells (f c) e (0, 0))] (Go.Sort.grow (Go.Sort.mapBlock (Go.Sort.ahead w n) b f) os) := by
 obtain ⟨h1, h2⟩ := heap_row (n := n) (f := f) (os := os) (hS.own _ (.head _))
 have hm : m b = none := hS.apart _ (.head _)
 refine ⟨fun k o hk => ?_, fun x hx => ?_, fun x hx => ?_, by simp, hS.mle, fun k hk => absurd rfl hk, fun x hx _ => ?_, ?_, fun k hk hf => h2 k (fun e => hf (by simp [e])) hk, rfl, rfl, rfl⟩
 ·have h3 := hS.mem k o hk
  rw [h2 k (fun e => by subst e; rw [hm] at hk; cases hk) (Array.getElem?_eq_some_iff.1 h3).1]; exact h3
 ·cases hx with
  | head => exact h1
  | tail _ h => cases h
 ·cases hx with
  | head => exact hm
  | tail _ h => cases h
 ·cases hx with
  | head => exact .head _
  | tail _ h => cases h
 ·simp [Go.Sort.grow, Go.Sort.mapBlock, Go.Sort.ahead]
theorem aBP {m : Mem} : ∀ {xs : List Int} {cs : List Value}, aR (xs.flatMap (cW .i64).leafs) m cs → cs = xs.map (.int .i64)
 | [], _, h => by
  have h : _ = [] := h
  rw [h]; rfl
 | x :: xs, _, h => by
  obtain ⟨v, r, rfl, h1, h2⟩ := h
  have h1 : v = .int .i64 x := h1
  rw [h1, aBP h2]; rfl
theorem aB0 {m : Mem} : ∀ {xs : List Int}, aR (xs.flatMap (cW .i64).leafs) m (xs.map (.int .i64))
 | [] => rfl
 | x :: xs => ⟨_, _, rfl, rfl, aB0⟩
theorem aA3 {m : Mem} {L : Heap} {v : Value} {xs : List Int} (h : aZ [aC v 3 (cW .i64) xs] m L) : xs.length ≤ 1000000000 ∧ ((v = .slice none 0 0 ∧ xs = [] ∧ L = []) ∨
 ∃ b c cap, v = .slice (some ⟨b, 0, none⟩) xs.length cap ∧ L = [(b, .cells c 3 (0, 0))] ∧ c.size = cap ∧ xs.length ≤ cap ∧ c.toList.take xs.length = xs.map (.int .i64)) := by
 obtain ⟨H, R, rfl, ⟨cs, h1, h2, h3⟩, hR⟩ := h
 have hR : R = [] := hR
 subst hR
 have e := aBP h3
 subst e
 refine ⟨h2, ?_⟩
 rcases h1.2 with ⟨rfl, h4, rfl⟩ | ⟨b, c, cap, rfl, rfl, h4, h5, h6⟩
 ·exact .inl ⟨rfl, List.eq_nil_of_length_eq_zero h4, rfl⟩
 ·exact .inr ⟨b, c, cap, rfl, rfl, by rw [h4]; exact Nat.mul_one _, h5, by simpa using h6⟩
theorem row_of {m : Mem} {b cap : Nat} {c : Array Value} {xs : List Int} (h1 : c.size = cap) (h2 : xs.length ≤ cap) (h3 : c.toList.take xs.length = xs.map (.int .i64)) (h4 : xs.length ≤ 1000000000) :
 (aC (.slice (some ⟨b, 0, none⟩) xs.length cap) 3 (cW .i64) xs).p m [(b, .cells c 3 (0, 0))] :=
 ⟨xs.map (.int .i64), ⟨by simp [show (cW .i64).sz = 1 from rfl], .inr ⟨b, c, cap, rfl, rfl, by rw [h1]; exact (Nat.mul_one _).symm, h2, by simpa using h3⟩⟩, h4, aB0⟩
theorem aAh {w : World} {b : Nat} {c : Array Value} {e : TypeId} {xs : List Int} (h : w.heap[b]? = some (.cells c e (0, 0))) (hx : c.toList.take xs.length = xs.map (.int .i64)) : Go.Sort.Holds (Value.int .i64) w b 0 xs.toArray := by
 intro j hj
 have hj : j < xs.length := by simpa using hj
 refine ⟨?_, by simp [World.frozen?, h]⟩
 have h1 : c.toList[j]? = some (.int .i64 xs[j]) := by
  have h2 : (c.toList.take xs.length)[j]? = some (.int .i64 xs[j]) := by rw [hx]; simp [hj]
  rwa [List.getElem?_take, if_pos hj] at h2
 simp only [World.cell?, h, Nat.zero_add, Option.isSome_none, Bool.false_eq_true, if_false]
 rw [← Array.getElem?_toList, h1]
 congr 2
 simp [hj]
theorem aBR {c : Array Value} {ys : List Int} {k : Nat} (hk : k ≤ ys.length) (hc : ys.length ≤ c.size) : (Go.Sort.putCells (Value.int .i64) 0 ys.toArray c).toList.take k = (ys.take k).map (.int .i64) := by
 apply List.ext_getElem?
 intro j
 rw [List.getElem?_take]
 split
 ·rename_i hj
  simp only [Go.Sort.putCells, Array.getElem?_toList, Array.getElem?_mapIdx]
  have h1 : j < c.size := by omega
  have h2 : j < ys.length := by omega
  simp [h1, h2, hj]
 ·rename_i hj
  rw [List.getElem?_eq_none]; simp; omega
theorem aAO {c : Array Value} {ys : Array Int} : (Go.Sort.putCells (Value.int .i64) 0 ys c).size = c.size := by simp [Go.Sort.putCells]
def bV (xs : List Int) : List Int := xs.mergeSort fun x y => decide (x ≤ y)
def aBe (a0 : List Int) : Option (List Int) := some (bV a0)
theorem aDT (p0 : Value) (a0 r : List Int) (H : aBe a0 = some r) : FnS Tryz.prog 84 [fEq p0] [aC p0 3 (cW .i64) a0] (dQ []) (fun _ => [aC p0 3 (cW .i64) r]) := by
 have H : bV a0 = r := Option.some.inj H
 subst H
 intro m L vs hv hL w hS
 obtain ⟨v, _, rfl, hv1, hv2⟩ := hv
 have hv1 : v = p0 := hv1
 have hv2 : _ = [] := hv2
 subst hv1; subst hv2
 obtain ⟨hB, ⟨rfl, rfl, rfl⟩ | ⟨b, c, cap, rfl, rfl, h1, h2, h3⟩⟩ := aA3 hL
 ·refine (Any.slices_Sort_int_none aBV none 0 w).mono ?_
  rintro e w' ⟨rfl, rfl⟩
  have e0 : bV [] = [] := by simp [bV]
  exact ⟨m, [], hS, _, rfl, ⟨[], rfl, rfl⟩, by rw [e0]; exact hL⟩
 ·have hw := hS.own _ (.head _)
  have hl : (bV a0).length = a0.length := by simp [bV]
  refine (Any.slices_Sort_int aBV b 0 cap a0 w (aAh hw h3) (Array.getElem?_eq_some_iff.1 hw).1 (by omega)).mono ?_
  rintro e w' ⟨rfl, n, os, rfl⟩
  refine ⟨m, _, st_row hS, _, rfl, ⟨[], rfl, rfl⟩, _, [], (List.append_nil _).symm, ?_, rfl⟩
  rw [← hl]
  exact row_of (by rw [aAO, h1]) (by omega) (by
   have := aBR (c := c) (ys := bV a0) (k := (bV a0).length) (Nat.le_refl _) (by omega)
   rw [List.take_length] at this; exact this) (by omega)
def aCd (a0 : List Int) : Option (List Int) := some (Go.Lib.compact a0)
theorem aES (xs : List Int) : (Go.Lib.compact xs).length ≤ xs.length := by
 unfold Go.Lib.compact Go.Lib.compactUpTo
 rw [List.length_map]
 exact Nat.le_trans (List.length_filter_le _ _) (by simp)
theorem aDp (p0 : Value) (a0 r : List Int) (H : aCd a0 = some r) : FnS Tryz.prog 118 [fEq p0] [aC p0 3 (cW .i64) a0] (fSl (cW .i64) r) (fun _ => []) := by
 have H : Go.Lib.compact a0 = r := Option.some.inj H
 subst H
 intro m L vs hv hL w hS
 obtain ⟨v, _, rfl, hv1, hv2⟩ := hv
 have hv1 : v = p0 := hv1
 have hv2 : _ = [] := hv2
 subst hv1; subst hv2
 obtain ⟨hB, ⟨rfl, rfl, rfl⟩ | ⟨b, c, cap, rfl, rfl, h1, h2, h3⟩⟩ := aA3 hL
 ·refine (Any.slices_Compact_int_empty aB4 none 0 w).mono ?_
  rintro e w' ⟨rfl, rfl⟩
  exact ⟨m, [], hS, _, rfl, iJ m _ rfl, rfl⟩
 ·have hw := hS.own _ (.head _)
  have hl := aES a0
  refine (Any.slices_Compact_int aB4 b 0 cap a0 w (aAh hw h3) (by omega) h2).mono ?_
  rintro e w' ⟨rfl, n, rfl⟩
  rw [← Go.Sort.grow_empty (Go.Sort.putRow _ _ _ _ _)]
  have hS' := st_row (n := n) (f := Go.Sort.putCells (Value.int .i64) 0 (Go.Lib.compact a0 ++ List.replicate (a0.length - (Go.Lib.compact a0).length) 0).toArray) (os := #[]) hS
  have hr : (aC (.slice (some ⟨b, 0, none⟩) (Go.Lib.compact a0).length cap) 3 (cW .i64) (Go.Lib.compact a0)).p m [(b, .cells (Go.Sort.putCells (Value.int .i64) 0 (Go.Lib.compact a0 ++ List.replicate (a0.length - (Go.Lib.compact a0).length) 0).toArray c) 3 (0, 0))] :=
   row_of (by rw [aAO, h1]) (by omega) (by
    rw [aBR (by simp) (by simp; omega)]; simp) (by omega)
  obtain ⟨m', h4, h5, h6⟩ := xB (H := [_]) (R := []) hS'
  exact ⟨m', [], h5, _, rfl, nB m _ hr m' h4 h6, rfl⟩
open Go.SX Go.SW Go.Dt
def kE (y1 : ScopeDef) : Nat → (List Int) → Int → Option (List Int)
| 0, _, _ => none
| k + 1, x10, x11 =>
 if x11 < (y1.Rules.length : Int) then
  (idx y1.Rules x11).bind fun y2 =>
  (eK (x10 ++ [y2.Node])).bind fun z1 =>
  (chk (x11 + 1)).bind fun z2 =>
  kE y1 k z1 z2
 else
  some x10
def lE (y1 : ScopeDef) : Nat → (List Int) → Int → Option (List Int)
| 0, _, _ => none
| k + 1, x14, x15 =>
 if x15 < (y1.Spots.length : Int) then
  (idx y1.Spots x15).bind fun y3 =>
  (eK (x14 ++ [y3.Node])).bind fun z3 =>
  (chk (x15 + 1)).bind fun z4 =>
  lE y1 k z3 z4
 else
  some x14
def kL (fuel : Nat) (a0 : CodeProg) : Nat → (List Int) → Int → Option (List Int)
| 0, _, _ => none
| k + 1, x4, x5 =>
 if x5 < (a0.Defs.length : Int) then
  ((idx a0.Defs x5).bind fun y1 =>
  (kE y1 fuel x4 0).bind fun x7 =>
  lE y1 fuel x7 0).bind fun x6 =>
  (chk (x5 + 1)).bind fun z5 =>
  kL fuel a0 k x6 z5
 else
  some x4
def lA (a0 : CodeProg) : Nat → (List Int) → Int → Option (List Int)
| 0, _, _ => none
| k + 1, x19, x20 =>
 if x20 < (a0.Code.length : Int) then
  ((idx a0.Code x20).bind fun y4 =>
  (qP y4.Op).bind fun y5 =>
  bif y5 then
   (eK (x19 ++ [y4.B])).bind fun z6 =>
   some z6
  else
   some x19).bind fun x21 =>
  (chk (x20 + 1)).bind fun z7 =>
  lA a0 k x21 z7
 else
  some x19
def rW (fuel : Nat) (a0 : CodeProg) : Option (List Int) :=
 (kL fuel a0 fuel [a0.Main] 0).bind fun x1 =>
 (lA a0 fuel x1 0).bind fun x16 =>
 some x16
theorem aD5 (fuel : Nat)  (a0 : CodeProg) (r : List Int) (H : rW fuel a0 = some r) : FnS Tryz.prog 117 [fSt eR a0] [] fAny (fun v => [(fun v => aC v 3 tI r) v]) := by
 unfold rW at H
 refine cF Tryz.func117 rfl Tryz.ntmps117 rfl (fun β => ?_)
 refine Z1 ?_
 refine Tn (dD rfl hh cV) fun b1 => ?_
 refine Z5 ?_
 refine Tn (gJ (t := tI) (xs := [a0.Main]) rfl (et rfl) (cB.cons rfl (has rfl) (dU (aK trivial)) cB.nil) rfl rfl rfl) fun b2 => ?_
 generalize (Value.slice (some ⟨b2, 0, none⟩) _ _) = v1
 refine aB 0 rfl (fun hc_v1 => ?_)
 revert H; refine B2 fun o1 H Hr1 => ?_
 refine aQ (ι := List Int × Value) (fun i => o1 = i.1) (fun i => [(1, fEq (ptr b1)), (3, fEq i.2)]) (fun i => [aA b1 25 [fI a0.Free, fSl aF a0.Defs, fSl aG a0.Code, fI a0.Main], aC i.2 3 tI i.1]) ?_ ?_
 refine Z7 ?_
 refine aD [1, 0] (by decide) ?_
 refine Tl (ι := Nat × List Int × Int × Value) (fun i => kL fuel a0 i.1 i.2.1 i.2.2.1 = _) (fun i => i.1) (fun i => [(1, fEq (ptr b1)), (3, fEq i.2.2.2), (16, fSl aF a0.Defs), (17, fI (a0.Defs.length : Int)), (18, fI i.2.2.1)]) (fun i => [aA b1 25 [fI a0.Free, fSl aF a0.Defs, fSl aG a0.Code, fI a0.Main], aC i.2.2.2 3 tI i.2.1]) (fuel, [a0.Main], 0, v1) H ?_
 clear H; rintro ⟨k1, x4, x5, v4⟩ H
 replace H : kL fuel a0 k1 x4 x5 = _ := H
 try dsimp only
 obtain _ | k1 := k1
 rw [kL] at H; cases H
 rw [kL] at H
 refine aB 1 rfl (fun hc_v4 => ?_)
 refine Z3 ?_
 refine aM ?_
 revert H; refine is (fun c1 H => ?_) fun c1 H => ?_
 revert H; refine B3 fun o2 H Hr2 => ?_
 refine aQ (ι := List Int × Value) (fun i => o2 = i.1) (fun i => [(1, fEq (ptr b1)), (3, fEq i.2), (16, fSl aF a0.Defs), (17, fI (a0.Defs.length : Int)), (18, fI x5)]) (fun i => [aA b1 25 [fI a0.Free, fSl aF a0.Defs, fSl aG a0.Code, fI a0.Main], aC i.2 3 tI i.1]) ?_ ?_
 revert H; refine B2 fun y1 h1 H => ?_
 refine Z2 ?_
 refine Tn (dL rfl xE rfl) fun b3 => ?_
 refine dH (φs' := [fSl bG y1.Chans, fSl bM y1.Spots, fSl bN y1.Rules]) trivial rfl rfl (has rfl) (has rfl) (aP (dT) (aP (dT) (aP (dT) bY))) (sz rfl) rfl rfl rfl ?_
 revert H; refine B1 fun o3 H Hr3 => ?_
 refine aQ (ι := List Int × Value) (fun i => o3 = i.1) (fun i => [(1, fEq (ptr b1)), (3, fEq i.2), (16, fSl aF a0.Defs), (17, fI (a0.Defs.length : Int)), (18, fI x5), (5, fEq (ptr b3))]) (fun i => [aA b3 63 [fSl bG y1.Chans, fSl bM y1.Spots, fSl bN y1.Rules], aA b1 25 [fI a0.Free, fSl aF a0.Defs, fSl aG a0.Code, fI a0.Main], aC i.2 3 tI i.1]) ?_ ?_
 refine Z7 ?_
 refine Tl (ι := Nat × List Int × Int × Value) (fun i => kE y1 i.1 i.2.1 i.2.2.1 = _) (fun i => i.1) (fun i => [(1, fEq (ptr b1)), (3, fEq i.2.2.2), (16, fSl aF a0.Defs), (17, fI (a0.Defs.length : Int)), (18, fI x5), (5, fEq (ptr b3)), (23, fSl bN y1.Rules), (24, fI (y1.Rules.length : Int)), (25, fI i.2.2.1)]) (fun i => [aA b3 63 [fSl bG y1.Chans, fSl bM y1.Spots, fSl bN y1.Rules], aA b1 25 [fI a0.Free, fSl aF a0.Defs, fSl aG a0.Code, fI a0.Main], aC i.2.2.2 3 tI i.2.1]) (fuel, x4, 0, v4) H ?_
 clear H; rintro ⟨k2, x10, x11, v8⟩ H
 replace H : kE y1 k2 x10 x11 = _ := H
 try dsimp only
 obtain _ | k2 := k2
 rw [kE] at H; cases H
 rw [kE] at H
 refine aB 2 rfl (fun hc_v8 => ?_)
 refine Z3 ?_
 refine aM ?_
 revert H; refine is (fun c2 H => ?_) fun c2 H => ?_
 refine Z3 ?_
 refine aM ?_
 revert H; refine B2 fun y2 h2 H => ?_
 refine Z2 ?_
 refine Tn (dL rfl vJ rfl) fun b4 => ?_
 refine dH (φs' := [fI y2.At, fSl tI y2.Joins, fI y2.Node]) trivial rfl rfl (has rfl) (has rfl) (aP (aK trivial) (aP (dT) (aP (aK trivial) bY))) (sz rfl) rfl rfl rfl ?_
 refine Z5 ?_
 refine Tn (gJ (t := tI) (xs := [y2.Node]) rfl (et rfl) (cB.cons rfl (has rfl) (dU (aK trivial)) cB.nil) rfl rfl rfl) fun b5 => ?_
 generalize (Value.slice (some ⟨b5, 0, none⟩) _ _) = v9
 refine aB 0 rfl (fun hc_v9 => ?_)
 revert H; refine bs fun z1 h3 H => ?_
 refine aL ?_
 refine aV ?_
 refine jR trivial rfl rfl rfl (has rfl) (has rfl) (et rfl) rfl h3 (fun v10 => ?_)
 refine aB 0 rfl (fun hc_v10 => ?_)
 revert H; refine B5 fun z2 h4 H => ?_
 refine Z3 ?_
 refine aD [2, 3, 0] (by decide) ?_
 exact Tm ((k2, z1, z2, v10)) ⟨H, ls⟩
 refine Z6 ?_
 exact Tm ((x10, v8)) (ij H)
 clear H; intro i hi; obtain ⟨x7, v6⟩ := i; subst o3; have H := Hr3; clear Hr3; try dsimp only at H
 try dsimp only
 refine aB 2 rfl (fun hc_v6 => ?_)
 refine Z7 ?_
 refine Tl (ι := Nat × List Int × Int × Value) (fun i => lE y1 i.1 i.2.1 i.2.2.1 = _) (fun i => i.1) (fun i => [(1, fEq (ptr b1)), (3, fEq i.2.2.2), (16, fSl aF a0.Defs), (17, fI (a0.Defs.length : Int)), (18, fI x5), (36, fSl bM y1.Spots), (37, fI (y1.Spots.length : Int)), (38, fI i.2.2.1)]) (fun i => [aA b3 63 [fSl bG y1.Chans, fSl bM y1.Spots, fSl bN y1.Rules], aA b1 25 [fI a0.Free, fSl aF a0.Defs, fSl aG a0.Code, fI a0.Main], aC i.2.2.2 3 tI i.2.1]) (fuel, x7, 0, v6) H ?_
 clear H; rintro ⟨k3, x14, x15, v12⟩ H
 replace H : lE y1 k3 x14 x15 = _ := H
 try dsimp only
 obtain _ | k3 := k3
 rw [lE] at H; cases H
 rw [lE] at H
 refine aB 2 rfl (fun hc_v12 => ?_)
 refine Z3 ?_
 refine aM ?_
 revert H; refine is (fun c3 H => ?_) fun c3 H => ?_
 refine Z3 ?_
 refine aM ?_
 revert H; refine B2 fun y3 h5 H => ?_
 refine Z2 ?_
 refine Tn (dL rfl wX rfl) fun b6 => ?_
 refine dH (φs' := [fI y3.In, fI y3.Node]) trivial rfl rfl (has rfl) (has rfl) (aP (aK trivial) (aP (aK trivial) bY)) (sz rfl) rfl rfl rfl ?_
 refine Z5 ?_
 refine Tn (gJ (t := tI) (xs := [y3.Node]) rfl (et rfl) (cB.cons rfl (has rfl) (dU (aK trivial)) cB.nil) rfl rfl rfl) fun b7 => ?_
 generalize (Value.slice (some ⟨b7, 0, none⟩) _ _) = v13
 refine aB 0 rfl (fun hc_v13 => ?_)
 revert H; refine bs fun z3 h6 H => ?_
 refine aL ?_
 refine aV ?_
 refine jR trivial rfl rfl rfl (has rfl) (has rfl) (et rfl) rfl h6 (fun v14 => ?_)
 refine aB 0 rfl (fun hc_v14 => ?_)
 revert H; refine B5 fun z4 h7 H => ?_
 refine Z3 ?_
 refine aD [2, 3, 0] (by decide) ?_
 exact Tm ((k3, z3, z4, v14)) ⟨H, ls⟩
 refine Z7 ?_
 refine aD [1, 2] (by decide) ?_
 exact Tm ((x14, v12)) (ij H)
 clear H; intro i hi; obtain ⟨x6, v5⟩ := i; subst o2; have H := Hr2; clear Hr2; try dsimp only at H
 try dsimp only
 refine aB 1 rfl (fun hc_v5 => ?_)
 revert H; refine B1 fun z5 h8 H => ?_
 refine Z3 ?_
 exact Tm ((k1, x6, z5, v5)) ⟨H, ls⟩
 refine Z6 ?_
 exact Tm ((x4, v4)) (ij H)
 clear H; intro i hi; obtain ⟨x1, v2⟩ := i; subst o1; have H := Hr1; clear Hr1; try dsimp only at H
 try dsimp only
 refine aB 1 rfl (fun hc_v2 => ?_)
 revert H; refine bs fun o4 H Hr4 => ?_
 refine aQ (ι := List Int × Value) (fun i => o4 = i.1) (fun i => [(3, fEq i.2)]) (fun i => [aA b1 25 [fI a0.Free, fSl aF a0.Defs, fSl aG a0.Code, fI a0.Main], aC i.2 3 tI i.1]) ?_ ?_
 refine Z7 ?_
 refine Tl (ι := Nat × List Int × Int × Value) (fun i => lA a0 i.1 i.2.1 i.2.2.1 = _) (fun i => i.1) (fun i => [(3, fEq i.2.2.2), (50, fSl aG a0.Code), (51, fI (a0.Code.length : Int)), (52, fI i.2.2.1)]) (fun i => [aA b1 25 [fI a0.Free, fSl aF a0.Defs, fSl aG a0.Code, fI a0.Main], aC i.2.2.2 3 tI i.2.1]) (fuel, x1, 0, v2) H ?_
 clear H; rintro ⟨k4, x19, x20, v17⟩ H
 replace H : lA a0 k4 x19 x20 = _ := H
 try dsimp only
 obtain _ | k4 := k4
 rw [lA] at H; cases H
 rw [lA] at H
 refine aB 1 rfl (fun hc_v17 => ?_)
 refine Z3 ?_
 refine aM ?_
 revert H; refine is (fun c4 H => ?_) fun c4 H => ?_
 revert H; refine B3 fun o5 H Hr5 => ?_
 refine aQ (ι := List Int × Value) (fun i => o5 = i.1) (fun i => [(50, fSl aG a0.Code), (51, fI (a0.Code.length : Int)), (52, fI x20), (3, fEq i.2)]) (fun i => [aA b1 25 [fI a0.Free, fSl aF a0.Defs, fSl aG a0.Code, fI a0.Main], aC i.2 3 tI i.1]) ?_ ?_
 revert H; refine B2 fun y4 h9 H => ?_
 refine Z2 ?_
 refine Tn (dL rfl rV rfl) fun b8 => ?_
 refine dH (φs' := [fI y4.Op, fI y4.A, fI y4.B]) trivial rfl rfl (has rfl) (has rfl) (aP (aK trivial) (aP (aK trivial) (aP (aK trivial) bY))) (sz rfl) rfl rfl rfl ?_
 revert H; refine B4 fun y5 h10 H => ?_
 refine Tc (aDM _ _ h10) ?_
 refine Z1 ?_
 revert H; refine cs (fun c5 H => ?_) fun c5 H => ?_
 refine Z5 ?_
 refine Tn (gJ (t := tI) (xs := [y4.B]) rfl (et rfl) (cB.cons rfl (has rfl) (dU (aK trivial)) cB.nil) rfl rfl rfl) fun b9 => ?_
 generalize (Value.slice (some ⟨b9, 0, none⟩) _ _) = v19
 refine aB 0 rfl (fun hc_v19 => ?_)
 revert H; refine bs fun z6 h11 H => ?_
 refine bF ?_
 refine aV ?_
 refine jR trivial rfl rfl rfl (has rfl) (has rfl) (et rfl) rfl h11 (fun v20 => ?_)
 refine aB 0 rfl (fun hc_v20 => ?_)
 refine Z4 ?_
 refine aD [2, 0] (by decide) ?_
 exact Tm ((z6, v20)) (ij H)
 refine Z4 ?_
 refine aD [1, 2] (by decide) ?_
 exact Tm ((x19, v17)) (ij H)
 clear H; intro i hi; obtain ⟨x21, v18⟩ := i; subst o5; have H := Hr5; clear Hr5; try dsimp only at H
 try dsimp only
 refine aB 1 rfl (fun hc_v18 => ?_)
 revert H; refine B1 fun z7 h12 H => ?_
 refine Z3 ?_
 exact Tm ((k4, x21, z7, v18)) ⟨H, ls⟩
 refine Z6 ?_
 exact Tm ((x19, v17)) (ij H)
 clear H; intro i hi; obtain ⟨x16, v15⟩ := i; subst o4; have H := Hr4; clear Hr4; try dsimp only at H
 try dsimp only
 refine aB 1 rfl (fun hc_v15 => ?_)
 refine Z5 ?_
 cases H
 refine aD [1] (by decide) ?_
 exact zR rfl (cP rfl) (fun _ _ _ => trivial) rfl
def jI (a0 : Code_checker) : Nat → Int → Option (Int)
| 0, _ => none
| k + 1, x13 =>
 if x13 < (a0.CodeProg.Code.length : Int) then
  (idx a0.CodeProg.Code x13).bind fun y9 =>
  if y9.Op ≠ 16 then
   (chk (x13 + 1)).bind fun z1 =>
   jI a0 k z1
  else
   some x13
 else
  some x13
def kH (x11 : Int) : Nat → Int → (List Int) → Option (List Int)
| 0, _, _ => none
| k + 1, x17, x18 =>
 if x17 ≤ x11 then
  (idx x18 x17).bind fun y11 =>
  (chk (x17 + 1)).bind fun z2 =>
  kH x11 k z2 (x18.set x17.toNat x11)
 else
  some x18
def iH (fuel : Nat) (a0 : Code_checker) (y2 : List Int) : Nat → Int → Int → (List Int) → Option ((Int × List Int) ⊕ (Code_checker ⊕ Value))
| 0, _, _, _ => none
| k + 1, x6, x7, x8 =>
 if x7 < (y2.length : Int) then
  ((idx y2 x7).bind fun y7 =>
  (bH (decide (y7 = x6))).bind fun y8 =>
  match y8 with
  | Sum.inr pv2 => ((some (Sum.inr pv2)).bind fun r => some (Sum.inr r)).bind fun r => some (Sum.inr r)
  | Sum.inl y8 =>
  (jI a0 fuel x6).bind fun x11 =>
  (bH (decide (x11 < (a0.CodeProg.Code.length : Int)))).bind fun y10 =>
  match y10 with
  | Sum.inr pv3 => ((some (Sum.inr pv3)).bind fun r => some (Sum.inr r)).bind fun r => some (Sum.inr r)
  | Sum.inl y10 =>
  (kH x11 fuel y7 x8).bind fun x14 =>
  (chk (x11 + 1)).bind fun z3 =>
  some (Sum.inl (z3, x14))).bind fun o => match o with
  | Sum.inr r => some r
  | Sum.inl (x9, x10) =>
  (chk (x7 + 1)).bind fun z4 =>
  iH fuel a0 y2 k x9 z4 x10
 else
  some (Sum.inl (x6, x8))
def jU (fuel : Nat) (a0 : Code_checker) : Option (Code_checker ⊕ Value) :=
 (rW fuel (⟨a0.CodeProg.Free, a0.CodeProg.Defs, a0.CodeProg.Code, a0.CodeProg.Main⟩ : CodeProg)).bind fun y1 =>
 (aBe y1).bind fun y2 =>
 (sA y2).bind fun y3 =>
 (aCd y3).bind fun y4 =>
 (bH (decide ((y4.length : Int) = (y2.length : Int)))).bind fun y5 =>
 match y5 with
 | Sum.inr pv1 => some (Sum.inr pv1)
 | Sum.inl y5 =>
 (mk 0 (a0.CodeProg.Code.length : Int)).bind fun y6 =>
 (iH fuel a0 y2 fuel 0 0 y6).bind fun o => match o with
 | Sum.inr r => some r
 | Sum.inl (x1, x2) =>
 (bH (decide (x1 = (a0.CodeProg.Code.length : Int)))).bind fun y12 =>
 match y12 with
 | Sum.inr pv4 => some (Sum.inr pv4)
 | Sum.inl y12 =>
 some (Sum.inl (⟨(⟨a0.CodeProg.Free, a0.CodeProg.Defs, a0.CodeProg.Code, a0.CodeProg.Main⟩ : CodeProg), y2, x2, a0.levels, a0.todo⟩ : Code_checker))
theorem aCj (fuel : Nat) (p0 : Nat) (a0 : Code_checker) (r : Code_checker ⊕ Value) (H : jU fuel a0 = some r) : FnE Tryz.prog 73 [fEq (.pointer (some ⟨p0, 0, none⟩))] [cR p0 a0] r (fun r => dQ []) (fun r => [cR p0 r]) := by
 unfold jU at H
 refine jA Tryz.func73 rfl Tryz.ntmps73 rfl (fun β => ?_)
 refine cS (fun v1 v2 v3 => ?_)
 refine aU ?_
 refine cQ (fun b1 h1 => ?_); subst h1
 refine aB 2 rfl (fun hc_v1 => ?_)
 refine aB 3 rfl (fun hc_v3 => ?_)
 revert H; refine B5 fun y1 h2 H => ?_
 refine aCw trivial rfl rfl rfl (has rfl) (aI.cons (has rfl) aI.nil) rfl (cb rfl) (aD5 fuel (⟨a0.CodeProg.Free, a0.CodeProg.Defs, a0.CodeProg.Code, a0.CodeProg.Main⟩ : CodeProg) y1 h2) (Δi := []) rfl (fun v4 => ?_)
 dsimp only [List.append, List.cons_append, List.nil_append]
 refine aB 0 rfl (fun hc_v4 => ?_)
 revert H; refine B4 fun y2 h3 H => ?_
 refine Tc (aDT _ _ _ h3) ?_
 refine Z3 ?_
 refine iT (φ := fSl tI y2) (v := v4) [11, 2, 12, 14] nB fz ?_
 refine iI ?_
 revert H; refine bs fun y3 h4 H => ?_
 refine aCw trivial rfl rfl rfl (has rfl) (aI.cons (has rfl) aI.nil) rfl (cb rfl) (aE7 y2 y3 h4) (Δi := []) rfl (fun v5 => ?_)
 dsimp only [List.append, List.cons_append, List.nil_append]
 refine aB 0 rfl (fun hc_v5 => ?_)
 revert H; refine bs fun y4 h5 H => ?_
 refine Tc (aDp _ _ _ h5) ?_
 revert H; refine B4 fun y5 h6 H => ?_
 rcases y5 with y5 | pv1 <;> dsimp only at H
 refine Tc (aN _ _ h6).s ?_
 revert H; refine B9 fun y6 h7 H => ?_
 refine Tn (vB (t := tI) (z := 0) rfl hh (et rfl) rfl ty_ze_3 rfl h7) fun b2 => ?_
 generalize (Value.slice (some ⟨b2, 0, none⟩) _ _) = v6
 refine aB 0 rfl (fun hc_v6 => ?_)
 refine Z2 ?_
 refine aU ?_
 refine dJ (φs' := [fI a0.CodeProg.Free, fSl aF a0.CodeProg.Defs, fSl aG a0.CodeProg.Code, fI a0.CodeProg.Main, fSl tI a0.begins, fEq v6, fEq (.map (some b1)), fEq v3]) trivial rfl rfl (has rfl) (has rfl) (aK hc_v6) (sz rfl) rfl rfl ?_
 revert H; refine B4 fun o1 H Hr1 => ?_
 refine aQ (ι := Int × List Int) (fun i => o1 = Sum.inl (i.1, i.2)) (fun i => [(0, fEq (ptr p0)), (2, fSl tI y2), (3, fI i.1)]) (fun i => [aA p0 90 [fI a0.CodeProg.Free, fSl aF a0.CodeProg.Defs, fSl aG a0.CodeProg.Code, fI a0.CodeProg.Main, fSl tI a0.begins, fEq v6, fEq (.map (some b1)), fEq v3], bB aX (fun y => fSt aO y) b1 a0.levels, aC v6 3 tI i.2, aC v3 3 tI a0.todo]) ?_ ?_
 refine Z6 ?_
 refine aD [0, 2, 1, 4] (by decide) ?_
 refine Tl (ι := Nat × Int × Int × List Int) (fun i => iH fuel a0 y2 i.1 i.2.1 i.2.2.1 i.2.2.2 = _) (fun i => i.1) (fun i => [(0, fEq (ptr p0)), (2, fSl tI y2), (3, fI i.2.1), (32, fSl tI y2), (33, fI (y2.length : Int)), (34, fI i.2.2.1)]) (fun i => [aA p0 90 [fI a0.CodeProg.Free, fSl aF a0.CodeProg.Defs, fSl aG a0.CodeProg.Code, fI a0.CodeProg.Main, fSl tI a0.begins, fEq v6, fEq (.map (some b1)), fEq v3], bB aX (fun y => fSt aO y) b1 a0.levels, aC v6 3 tI i.2.2.2, aC v3 3 tI a0.todo]) (fuel, 0, 0, y6) H ?_
 clear H; rintro ⟨k1, x6, x7, x8⟩ H
 replace H : iH fuel a0 y2 k1 x6 x7 x8 = _ := H
 try dsimp only
 obtain _ | k1 := k1
 rw [iH] at H; cases H
 rw [iH] at H
 refine Z3 ?_
 refine aM ?_
 revert H; refine is (fun c1 H => ?_) fun c1 H => ?_
 revert H; refine B3 fun o2 H Hr2 => ?_
 refine aQ (ι := Int × List Int) (fun i => o2 = Sum.inl (i.1, i.2)) (fun i => [(0, fEq (ptr p0)), (2, fSl tI y2), (3, fI i.1), (32, fSl tI y2), (33, fI (y2.length : Int)), (34, fI x7)]) (fun i => [aA p0 90 [fI a0.CodeProg.Free, fSl aF a0.CodeProg.Defs, fSl aG a0.CodeProg.Code, fI a0.CodeProg.Main, fSl tI a0.begins, fEq v6, fEq (.map (some b1)), fEq v3], bB aX (fun y => fSt aO y) b1 a0.levels, aC v6 3 tI i.2, aC v3 3 tI a0.todo]) ?_ ?_
 revert H; refine B2 fun y7 h8 H => ?_
 revert H; refine B8 fun y8 h9 H => ?_
 rcases y8 with y8 | pv2 <;> dsimp only at H
 refine Tc (aN _ _ h9).s ?_
 revert H; refine B1 fun o3 H Hr3 => ?_
 refine aQ (ι := Int) (fun i => o3 = i) (fun i => [(0, fEq (ptr p0)), (2, fSl tI y2), (3, fI i), (32, fSl tI y2), (33, fI (y2.length : Int)), (34, fI x7), (5, fI y7)]) (fun i => [aA p0 90 [fI a0.CodeProg.Free, fSl aF a0.CodeProg.Defs, fSl aG a0.CodeProg.Code, fI a0.CodeProg.Main, fSl tI a0.begins, fEq v6, fEq (.map (some b1)), fEq v3], bB aX (fun y => fSt aO y) b1 a0.levels, aC v6 3 tI x8, aC v3 3 tI a0.todo]) ?_ ?_
 refine Z1 ?_
 refine Tl (ι := Nat × Int) (fun i => jI a0 i.1 i.2 = _) (fun i => i.1) (fun i => [(0, fEq (ptr p0)), (2, fSl tI y2), (3, fI i.2), (32, fSl tI y2), (33, fI (y2.length : Int)), (34, fI x7), (5, fI y7)]) (fun i => [aA p0 90 [fI a0.CodeProg.Free, fSl aF a0.CodeProg.Defs, fSl aG a0.CodeProg.Code, fI a0.CodeProg.Main, fSl tI a0.begins, fEq v6, fEq (.map (some b1)), fEq v3], bB aX (fun y => fSt aO y) b1 a0.levels, aC v6 3 tI x8, aC v3 3 tI a0.todo]) (fuel, x6) H ?_
 clear H; rintro ⟨k2, x13⟩ H
 replace H : jI a0 k2 x13 = _ := H
 try dsimp only
 obtain _ | k2 := k2
 rw [jI] at H; cases H
 rw [jI] at H
 refine aM ?_
 revert H; refine I10 (fun c2 H => ?_) fun c2 H => ?_
 revert H; refine B6 fun y9 h10 H => ?_
 revert H; refine I6 (fun c3 H => ?_) fun c3 H => ?_
 revert H; refine B6 fun z1 h11 H => ?_
 refine Z5 ?_
 exact Tm ((k2, z1)) ⟨H, ls⟩
 refine Z6 ?_
 exact Tm (x13) (ij H)
 refine Z12 ?_
 refine Z6 ?_
 exact Tm (x13) (ij H)
 clear H; intro x11 hi; subst o3; have H := Hr3; clear Hr3; try dsimp only at H
 try dsimp only
 revert H; refine B9 fun y10 h12 H => ?_
 rcases y10 with y10 | pv3 <;> dsimp only at H
 refine Tc (aN _ _ h12).s ?_
 revert H; refine B1 fun o4 H Hr4 => ?_
 refine aQ (ι := List Int) (fun i => o4 = i) (fun i => [(0, fEq (ptr p0)), (2, fSl tI y2), (3, fI x11), (32, fSl tI y2), (33, fI (y2.length : Int)), (34, fI x7)]) (fun i => [aA p0 90 [fI a0.CodeProg.Free, fSl aF a0.CodeProg.Defs, fSl aG a0.CodeProg.Code, fI a0.CodeProg.Main, fSl tI a0.begins, fEq v6, fEq (.map (some b1)), fEq v3], bB aX (fun y => fSt aO y) b1 a0.levels, aC v6 3 tI i, aC v3 3 tI a0.todo]) ?_ ?_
 refine Z5 ?_
 refine Tl (ι := Nat × Int × List Int) (fun i => kH x11 i.1 i.2.1 i.2.2 = _) (fun i => i.1) (fun i => [(0, fEq (ptr p0)), (2, fSl tI y2), (3, fI x11), (32, fSl tI y2), (33, fI (y2.length : Int)), (34, fI x7), (6, fI i.2.1)]) (fun i => [aA p0 90 [fI a0.CodeProg.Free, fSl aF a0.CodeProg.Defs, fSl aG a0.CodeProg.Code, fI a0.CodeProg.Main, fSl tI a0.begins, fEq v6, fEq (.map (some b1)), fEq v3], bB aX (fun y => fSt aO y) b1 a0.levels, aC v6 3 tI i.2.2, aC v3 3 tI a0.todo]) (fuel, y7, x8) H ?_
 clear H; rintro ⟨k3, x17, x18⟩ H
 replace H : kH x11 k3 x17 x18 = _ := H
 try dsimp only
 obtain _ | k3 := k3
 rw [kH] at H; cases H
 rw [kH] at H
 refine aM ?_
 revert H; refine I5 (fun c4 H => ?_) fun c4 H => ?_
 refine Z3 ?_
 refine aM ?_
 revert H; refine B8 fun y11 h13 H => ?_
 refine Z1 ?_
 refine aU ?_
 refine vX (z' := x11) trivial rfl rfl rfl (has rfl) (has rfl) (aK trivial) (sz rfl) (dF h13) rfl rfl ?_
 revert H; refine B5 fun z2 h14 H => ?_
 refine Z3 ?_
 refine aD [1, 2, 0, 3] (by decide) ?_
 exact Tm ((k3, z2, x18.set x17.toNat x11)) ⟨H, ls⟩
 refine Z6 ?_
 exact Tm (x18) (ij H)
 clear H; intro x14 hi; subst o4; have H := Hr4; clear Hr4; try dsimp only at H
 try dsimp only
 revert H; refine B2 fun z3 h15 H => ?_
 refine Z5 ?_
 exact Tm ((z3, x14)) (ij H)
 refine Tp (aN _ _ h12).pan ?_
 revert H; refine B3 fun r1 H e1 => ?_
 cases e1; cases Hr2
 revert H; refine B3 fun r2 H e2 => ?_
 cases e2; cases Hr1
 cases H
 exact bC
 refine Tp (aN _ _ h9).pan ?_
 revert H; refine B3 fun r3 H e3 => ?_
 cases e3; cases Hr2
 revert H; refine B3 fun r4 H e4 => ?_
 cases e4; cases Hr1
 cases H
 exact bC
 clear H; intro i hi; obtain ⟨x9, x10⟩ := i; subst o2; have H := Hr2; clear Hr2; try dsimp only at H
 try dsimp only
 revert H; refine B1 fun z4 h16 H => ?_
 refine Z3 ?_
 exact Tm ((k1, x9, z4, x10)) ⟨H, ls⟩
 refine Z6 ?_
 exact Tm ((x6, x8)) (ij H)
 clear H; intro i hi; obtain ⟨x1, x2⟩ := i; subst o1; have H := Hr1; clear Hr1; try dsimp only at H
 try dsimp only
 revert H; refine B9 fun y12 h17 H => ?_
 rcases y12 with y12 | pv4 <;> dsimp only at H
 refine Tc (aN _ _ h17).s ?_
 refine Z6 ?_
 refine dJ (φs' := [fI a0.CodeProg.Free, fSl aF a0.CodeProg.Defs, fSl aG a0.CodeProg.Code, fI a0.CodeProg.Main, fSl tI y2, fEq v6, fEq (.map (some b1)), fEq v3]) trivial rfl rfl (has rfl) (has rfl) (dT) (sz rfl) rfl rfl ?_
 refine Z1 ?_
 refine aV ?_
 refine cG ?_
 refine bF ?_
 refine aV ?_
 refine bF ?_
 refine bF ?_
 refine cD (x := (⟨(⟨a0.CodeProg.Free, a0.CodeProg.Defs, a0.CodeProg.Code, a0.CodeProg.Main⟩ : CodeProg), y2, x2, a0.levels, a0.todo⟩ : Code_checker)) ?_
 cases H
 refine gP ?_
 exact cJ (.inr rfl) rfl rfl
 refine Tp (aN _ _ h17).pan ?_
 refine Z1 ?_
 cases H
 exact bC
 refine Tp (aN _ _ h6).pan ?_
 refine Z1 ?_
 cases H
 exact bC
def iU (a0 : Code_checker) (a1 : Int) (a2 : CodeLevel) : Option (Code_checker ⊕ Value) :=
 bif (a0.levels.get a1).isSome then
  (bH (decide ((((a0.levels.get a1).getD (⟨0, 0⟩ : CodeLevel)).Stack) = a2.Stack) && decide ((((a0.levels.get a1).getD (⟨0, 0⟩ : CodeLevel)).Slots) = a2.Slots))).bind fun y1 =>
  match y1 with
  | Sum.inr pv1 => some (Sum.inr pv1)
  | Sum.inl y1 =>
  some (Sum.inl (⟨(⟨a0.CodeProg.Free, a0.CodeProg.Defs, a0.CodeProg.Code, a0.CodeProg.Main⟩ : CodeProg), a0.begins, a0.last, a0.levels, a0.todo⟩ : Code_checker))
 else
  (eK (a0.todo ++ [a1])).bind fun z1 =>
  some (Sum.inl (⟨(⟨a0.CodeProg.Free, a0.CodeProg.Defs, a0.CodeProg.Code, a0.CodeProg.Main⟩ : CodeProg), a0.begins, a0.last, aE.upd a0.levels a1 (⟨a2.Stack, a2.Slots⟩ : CodeLevel), z1⟩ : Code_checker))
theorem gA (p0 : Nat) (a0 : Code_checker) (a1 : Int) (a2 : CodeLevel) (r : Code_checker ⊕ Value) (H : iU a0 a1 a2 = some r) : FnE Tryz.prog 74 [fEq (.pointer (some ⟨p0, 0, none⟩)), fI a1, fSt aO a2] [cR p0 a0] r (fun r => dQ []) (fun r => [cR p0 r]) := by
 unfold iU at H
 refine jA Tryz.func74 rfl Tryz.ntmps74 rfl (fun β => ?_)
 refine cS (fun v1 v2 v3 => ?_)
 refine aU ?_
 refine cQ (fun b1 h1 => ?_); subst h1
 refine aB 2 rfl (fun hc_v1 => ?_)
 refine aB 3 rfl (fun hc_v3 => ?_)
 refine Z1 ?_
 refine Tn (dD rfl hh cV) fun b2 => ?_
 refine Z1 ?_
 refine aM ?_
 refine Z6 ?_
 refine Yo 1 rfl (aDX (zα := (⟨0, 0⟩ : CodeLevel)) (k := a1) rfl hh hh rfl rH (pV [(.int .i64 0), (.int .i64 0)])) ?_
 refine Z3 ?_
 refine Tn (dL rfl wP rfl) fun b3 => ?_
 refine dH (φs' := [fI (((a0.levels.get a1).getD (⟨0, 0⟩ : CodeLevel)).Stack), fI (((a0.levels.get a1).getD (⟨0, 0⟩ : CodeLevel)).Slots)]) trivial rfl rfl (has rfl) (has rfl) (aP (aK trivial) (aP (aK trivial) bY)) (sz rfl) rfl rfl rfl ?_
 refine Z5 ?_
 revert H; refine cs (fun c1 H => ?_) fun c1 H => ?_
 refine Z4 ?_
 refine Yy (o_eqSt2 (t := aO) (u := (⟨((a0.levels.get a1).getD (⟨0, 0⟩ : CodeLevel)).Stack, ((a0.levels.get a1).getD (⟨0, 0⟩ : CodeLevel)).Slots⟩ : CodeLevel)) (v := (⟨a2.Stack, a2.Slots⟩ : CodeLevel)) rfl hh hh rfl rfl wU) ?_
 revert H; refine bs fun y1 h2 H => ?_
 rcases y1 with y1 | pv1 <;> dsimp only at H
 refine Tc (aN _ _ h2).s ?_
 refine Z2 ?_
 refine aU ?_
 refine cG ?_
 refine fF ?_
 refine aV ?_
 refine fF ?_
 refine fF ?_
 refine cD (x := (⟨(⟨a0.CodeProg.Free, a0.CodeProg.Defs, a0.CodeProg.Code, a0.CodeProg.Main⟩ : CodeProg), a0.begins, a0.last, a0.levels, a0.todo⟩ : Code_checker)) ?_
 cases H
 refine gP ?_
 refine aD [0] (by decide) ?_
 exact cJ (.inl rfl) rfl rfl
 refine Tp (aN _ _ h2).pan ?_
 refine Z2 ?_
 cases H
 exact bC
 refine Z3 ?_
 refine aM ?_
 apply cL (ods := [_, _, _, _, _, _]) 6 0 6 cK rfl rfl rfl
 refine ND ?_
 refine M6 ?_
 intros
 refine Z1 ?_
 refine aU ?_
 refine yB (k := a1) (y := (⟨a2.Stack, a2.Slots⟩ : CodeLevel)) trivial (.inl rfl) rfl (has rfl) (has rfl) rfl (has rfl) rfl rH ?_
 refine Z8 ?_
 refine Tn (gJ (t := tI) (xs := [a1]) rfl (et rfl) (cB.cons rfl (has rfl) (dU (aK trivial)) cB.nil) rfl rfl rfl) fun b4 => ?_
 generalize (Value.slice (some ⟨b4, 0, none⟩) _ _) = v4
 refine aB 0 rfl (fun hc_v4 => ?_)
 revert H; refine bs fun z1 h3 H => ?_
 refine nU ?_
 refine aV ?_
 refine jR trivial rfl rfl rfl (has rfl) (has rfl) (et rfl) rfl h3 (fun v5 => ?_)
 refine aB 0 rfl (fun hc_v5 => ?_)
 refine Z2 ?_
 refine aL ?_
 refine dJ (φs' := [fI a0.CodeProg.Free, fSl aF a0.CodeProg.Defs, fSl aG a0.CodeProg.Code, fI a0.CodeProg.Main, fSl tI a0.begins, fEq v1, fEq (.map (some b1)), fEq v5]) trivial rfl rfl (has rfl) (has rfl) (aK hc_v5) (sz rfl) rfl rfl ?_
 refine Z1 ?_
 refine aU ?_
 refine cG ?_
 refine aU ?_
 refine aV ?_
 refine fF ?_
 refine bF ?_
 refine cD (x := (⟨(⟨a0.CodeProg.Free, a0.CodeProg.Defs, a0.CodeProg.Code, a0.CodeProg.Main⟩ : CodeProg), a0.begins, a0.last, aE.upd a0.levels a1 (⟨a2.Stack, a2.Slots⟩ : CodeLevel), z1⟩ : Code_checker)) ?_
 cases H
 refine gP ?_
 refine aD [0] (by decide) ?_
 exact cJ (.inr rfl) rfl rfl
 exact fk
 kernel_rfl
def jX (a0 : CodeLevel) (a1 : Int) (a2 : Int) : Option (CodeLevel ⊕ Value) :=
 (bH (decide (a1 ≤ a0.Stack))).bind fun y1 =>
 match y1 with
 | Sum.inr pv1 => some (Sum.inr pv1)
 | Sum.inl y1 =>
 (chk (a0.Stack - a1)).bind fun z1 =>
 (chk (z1 + a2)).bind fun z2 =>
 some (Sum.inl (⟨z2, a0.Slots⟩ : CodeLevel))
theorem jP  (a0 : CodeLevel) (a1 : Int) (a2 : Int) (r : CodeLevel ⊕ Value) (H : jX a0 a1 a2 = some r) : FnE Tryz.prog 121 [fSt aO a0, fI a1, fI a2] [] r (fun r => fSt aO r) (fun r => []) := by
 unfold jX at H
 refine jA Tryz.func121 rfl Tryz.ntmps121 rfl (fun β => ?_)
 refine Z1 ?_
 refine Tn (dD rfl hh cV) fun b1 => ?_
 refine Tn (dL rfl wP rfl) fun b2 => ?_
 revert H; refine B6 fun y1 h1 H => ?_
 rcases y1 with y1 | pv1 <;> dsimp only at H
 refine Tc (aN _ _ h1).s ?_
 revert H; refine B5 fun z1 h2 H => ?_
 revert H; refine B2 fun z2 h3 H => ?_
 refine Z3 ?_
 refine Yy (iG (ψs := [fI z2, fI a0.Slots]) rfl mQ rfl (bO.cons (has rfl) (dU (aK trivial)) (bO.cons (has rfl) (dU (aK trivial)) bO.nil)) rfl) ?_
 refine dH (φs' := [fI z2, fI a0.Slots]) trivial rfl rfl (has rfl) (has rfl) (aP (aK trivial) (aP (aK trivial) bY)) (sz rfl) rfl rfl rfl ?_
 refine Z2 ?_
 cases H
 refine gP ?_
 refine aD [0] (by decide) ?_
 exact T_outCS rfl (ag rfl) rfl (cP rfl) Ent.rfl rfl
 refine Tp (aN _ _ h1).pan ?_
 refine Z1 ?_
 cases H
 exact bC
def kP (a1 : ScopeDef) (a2 : Int) : Nat → Int → Int → (List ScopeDef) → (List CodeIns) → Int → (List Int) → (List Int) → (aE Int CodeLevel) → (List Int) → Option ((Int × List ScopeDef × List CodeIns × Int × List Int × List Int × aE Int CodeLevel × List Int) ⊕ (Code_checker ⊕ Value))
| 0, _, _, _, _, _, _, _, _, _ => none
| k + 1, x18, x19, x20, x21, x22, x23, x24, x25, x26 =>
 if x18 < (a1.Spots.length : Int) then
  (idx a1.Spots x18).bind fun y1 =>
  (iU (⟨(⟨x19, x20, x21, x22⟩ : CodeProg), x23, x24, x25, x26⟩ : Code_checker) y1.Node (⟨0, a2⟩ : CodeLevel)).bind fun y2 =>
  match y2 with
  | Sum.inr pv1 => (some (Sum.inr pv1)).bind fun r => some (Sum.inr r)
  | Sum.inl y2 =>
  (chk (x18 + 1)).bind fun z1 =>
  kP a1 a2 k z1 y2.CodeProg.Free y2.CodeProg.Defs y2.CodeProg.Code y2.CodeProg.Main y2.begins y2.last y2.levels y2.todo
 else
  some (Sum.inl (x19, x20, x21, x22, x23, x24, x25, x26))
def lC (a1 : ScopeDef) (y3 : ScopeRule) : Nat → Int → Int → Option (Int)
| 0, _, _ => none
| k + 1, x56, x57 =>
 if x57 < (y3.Joins.length : Int) then
  (idx y3.Joins x57).bind fun y4 =>
  (idx a1.Chans y4).bind fun y5 =>
  (chk (x56 + y5.Many)).bind fun z2 =>
  (chk (x57 + 1)).bind fun z3 =>
  lC a1 y3 k z2 z3
 else
  some x56
def kG (fuel : Nat) (a1 : ScopeDef) (a2 : Int) : Nat → Int → Int → (List ScopeDef) → (List CodeIns) → Int → (List Int) → (List Int) → (aE Int CodeLevel) → (List Int) → Option (Code_checker ⊕ Value)
| 0, _, _, _, _, _, _, _, _, _ => none
| k + 1, x36, x37, x38, x39, x40, x41, x42, x43, x44 =>
 if x36 < (a1.Rules.length : Int) then
  ((idx a1.Rules x36).bind fun y3 =>
  (lC a1 y3 fuel 0 0).bind fun x53 =>
  (chk (a2 + x53)).bind fun z4 =>
  (iU (⟨(⟨x37, x38, x39, x40⟩ : CodeProg), x41, x42, x43, x44⟩ : Code_checker) y3.Node (⟨0, z4⟩ : CodeLevel)).bind fun y6 =>
  match y6 with
  | Sum.inr pv2 => (some (Sum.inr pv2)).bind fun r => some (Sum.inr r)
  | Sum.inl y6 =>
  some (Sum.inl (y6.CodeProg.Free, y6.CodeProg.Defs, y6.CodeProg.Code, y6.CodeProg.Main, y6.begins, y6.last, y6.levels, y6.todo))).bind fun o => match o with
  | Sum.inr r => some r
  | Sum.inl (x45, x46, x47, x48, x49, x50, x51, x52) =>
  (chk (x36 + 1)).bind fun z5 =>
  kG fuel a1 a2 k z5 x45 x46 x47 x48 x49 x50 x51 x52
 else
  some (Sum.inl (⟨(⟨x37, x38, x39, x40⟩ : CodeProg), x41, x42, x43, x44⟩ : Code_checker))
def tD (fuel : Nat) (a0 : Code_checker) (a1 : ScopeDef) (a2 : Int) : Option (Code_checker ⊕ Value) :=
 (kP a1 a2 fuel 0 a0.CodeProg.Free a0.CodeProg.Defs a0.CodeProg.Code a0.CodeProg.Main a0.begins a0.last a0.levels a0.todo).bind fun o => match o with
 | Sum.inr r => some r
 | Sum.inl (x1, x2, x3, x4, x5, x6, x7, x8) =>
 kG fuel a1 a2 fuel 0 x1 x2 x3 x4 x5 x6 x7 x8
theorem aAg (fuel : Nat) (p0 : Nat) (a0 : Code_checker) (a1 : ScopeDef) (a2 : Int) (r : Code_checker ⊕ Value) (H : tD fuel a0 a1 a2 = some r) : FnE Tryz.prog 122 [fEq (.pointer (some ⟨p0, 0, none⟩)), fSt aF a1, fI a2] [cR p0 a0] r (fun r => dQ []) (fun r => [cR p0 r]) := by
 unfold tD at H
 refine jA Tryz.func122 rfl Tryz.ntmps122 rfl (fun β => ?_)
 refine cS (fun v1 v2 v3 => ?_)
 refine aU ?_
 refine cQ (fun b1 h1 => ?_); subst h1
 refine aB 2 rfl (fun hc_v1 => ?_)
 refine aB 3 rfl (fun hc_v3 => ?_)
 refine Z1 ?_
 refine Tn (dD rfl hh cV) fun b2 => ?_
 revert H; refine B1 fun o1 H Hr1 => ?_
 refine aQ (ι := Int × List ScopeDef × List CodeIns × Int × List Int × List Int × aE Int CodeLevel × List Int × Value × Nat × Value) (fun i => o1 = Sum.inl (i.1, i.2.1, i.2.2.1, i.2.2.2.1, i.2.2.2.2.1, i.2.2.2.2.2.1, i.2.2.2.2.2.2.1, i.2.2.2.2.2.2.2.1)) (fun i => [(0, fEq (ptr p0)), (2, fI a2), (4, fEq (ptr b2))]) (fun i => [aA b2 63 [fSl bG a1.Chans, fSl bM a1.Spots, fSl bN a1.Rules], aA p0 90 [fI i.1, fSl aF i.2.1, fSl aG i.2.2.1, fI i.2.2.2.1, fSl tI i.2.2.2.2.1, fEq i.2.2.2.2.2.2.2.2.1, fEq (.map (some i.2.2.2.2.2.2.2.2.2.1)), fEq i.2.2.2.2.2.2.2.2.2.2], bB aX (fun y => fSt aO y) i.2.2.2.2.2.2.2.2.2.1 i.2.2.2.2.2.2.1, aC i.2.2.2.2.2.2.2.2.1 3 tI i.2.2.2.2.2.1, aC i.2.2.2.2.2.2.2.2.2.2 3 tI i.2.2.2.2.2.2.2.1]) ?_ ?_
 refine Z7 ?_
 refine aD [0, 2, 1, 3, 4] (by decide) ?_
 refine Tl (ι := Nat × Int × Int × List ScopeDef × List CodeIns × Int × List Int × List Int × aE Int CodeLevel × List Int × Value × Nat × Value) (fun i => kP a1 a2 i.1 i.2.1 i.2.2.1 i.2.2.2.1 i.2.2.2.2.1 i.2.2.2.2.2.1 i.2.2.2.2.2.2.1 i.2.2.2.2.2.2.2.1 i.2.2.2.2.2.2.2.2.1 i.2.2.2.2.2.2.2.2.2.1 = _) (fun i => i.1) (fun i => [(0, fEq (ptr p0)), (2, fI a2), (4, fEq (ptr b2)), (14, fSl bM a1.Spots), (15, fI (a1.Spots.length : Int)), (16, fI i.2.1)]) (fun i => [aA b2 63 [fSl bG a1.Chans, fSl bM a1.Spots, fSl bN a1.Rules], aA p0 90 [fI i.2.2.1, fSl aF i.2.2.2.1, fSl aG i.2.2.2.2.1, fI i.2.2.2.2.2.1, fSl tI i.2.2.2.2.2.2.1, fEq i.2.2.2.2.2.2.2.2.2.2.1, fEq (.map (some i.2.2.2.2.2.2.2.2.2.2.2.1)), fEq i.2.2.2.2.2.2.2.2.2.2.2.2], bB aX (fun y => fSt aO y) i.2.2.2.2.2.2.2.2.2.2.2.1 i.2.2.2.2.2.2.2.2.1, aC i.2.2.2.2.2.2.2.2.2.2.1 3 tI i.2.2.2.2.2.2.2.1, aC i.2.2.2.2.2.2.2.2.2.2.2.2 3 tI i.2.2.2.2.2.2.2.2.2.1]) (fuel, 0, a0.CodeProg.Free, a0.CodeProg.Defs, a0.CodeProg.Code, a0.CodeProg.Main, a0.begins, a0.last, a0.levels, a0.todo, v1, b1, v3) H ?_
 clear H; rintro ⟨k1, x18, x19, x20, x21, x22, x23, x24, x25, x26, v8, b5, v9⟩ H
 replace H : kP a1 a2 k1 x18 x19 x20 x21 x22 x23 x24 x25 x26 = _ := H
 try dsimp only
 obtain _ | k1 := k1
 rw [kP] at H; cases H
 rw [kP] at H
 refine aB 3 rfl (fun hc_v8 => ?_)
 refine aB 4 rfl (fun hc_v9 => ?_)
 refine Z3 ?_
 refine aM ?_
 revert H; refine is (fun c1 H => ?_) fun c1 H => ?_
 refine Z3 ?_
 refine aM ?_
 revert H; refine B2 fun y1 h2 H => ?_
 refine Z2 ?_
 refine Tn (dL rfl wX rfl) fun b6 => ?_
 refine dH (φs' := [fI y1.In, fI y1.Node]) trivial rfl rfl (has rfl) (has rfl) (aP (aK trivial) (aP (aK trivial) bY)) (sz rfl) rfl rfl rfl ?_
 refine Z6 ?_
 refine Yy (iG (ψs := [fI 0, fI a2]) rfl mQ rfl (bO.cons (has rfl) (dU (aK trivial)) bO.nil) rfl) ?_
 refine bF ?_
 refine cG ?_
 refine fF ?_
 refine aV ?_
 refine fF ?_
 refine fF ?_
 refine cD (x := (⟨(⟨x19, x20, x21, x22⟩ : CodeProg), x23, x24, x25, x26⟩ : Code_checker)) ?_
 revert H; refine bs fun y2 h3 H => ?_
 rcases y2 with y2 | pv1 <;> dsimp only at H
 refine Tc (gA _ _ _ _ _ h3).s ?_
 refine cS (fun v10 v11 v12 => ?_)
 refine aU ?_
 refine cQ (fun b7 h4 => ?_); subst h4
 refine aB 2 rfl (fun hc_v10 => ?_)
 refine aB 3 rfl (fun hc_v12 => ?_)
 revert H; refine B4 fun z1 h5 H => ?_
 refine Z3 ?_
 refine aD [5, 1, 0, 2, 3] (by decide) ?_
 exact Tm ((k1, z1, y2.CodeProg.Free, y2.CodeProg.Defs, y2.CodeProg.Code, y2.CodeProg.Main, y2.begins, y2.last, y2.levels, y2.todo, v10, b7, v12)) ⟨H, ls⟩
 refine Tp (gA _ _ _ _ _ h3).pan ?_
 revert H; refine B5 fun r1 H e1 => ?_
 cases e1; cases Hr1
 cases H
 exact bC
 refine Z6 ?_
 exact Tm ((x19, x20, x21, x22, x23, x24, x25, x26, v8, b5, v9)) (ij H)
 clear H; intro i hi; obtain ⟨x1, x2, x3, x4, x5, x6, x7, x8, v4, b3, v5⟩ := i; subst o1; have H := Hr1; clear Hr1; try dsimp only at H
 try dsimp only
 refine aB 3 rfl (fun hc_v4 => ?_)
 refine aB 4 rfl (fun hc_v5 => ?_)
 refine Z7 ?_
 refine Tl (ι := Nat × Int × Int × List ScopeDef × List CodeIns × Int × List Int × List Int × aE Int CodeLevel × List Int × Value × Nat × Value) (fun i => kG fuel a1 a2 i.1 i.2.1 i.2.2.1 i.2.2.2.1 i.2.2.2.2.1 i.2.2.2.2.2.1 i.2.2.2.2.2.2.1 i.2.2.2.2.2.2.2.1 i.2.2.2.2.2.2.2.2.1 i.2.2.2.2.2.2.2.2.2.1 = _) (fun i => i.1) (fun i => [(0, fEq (ptr p0)), (2, fI a2), (4, fEq (ptr b2)), (28, fSl bN a1.Rules), (29, fI (a1.Rules.length : Int)), (30, fI i.2.1)]) (fun i => [aA b2 63 [fSl bG a1.Chans, fSl bM a1.Spots, fSl bN a1.Rules], aA p0 90 [fI i.2.2.1, fSl aF i.2.2.2.1, fSl aG i.2.2.2.2.1, fI i.2.2.2.2.2.1, fSl tI i.2.2.2.2.2.2.1, fEq i.2.2.2.2.2.2.2.2.2.2.1, fEq (.map (some i.2.2.2.2.2.2.2.2.2.2.2.1)), fEq i.2.2.2.2.2.2.2.2.2.2.2.2], bB aX (fun y => fSt aO y) i.2.2.2.2.2.2.2.2.2.2.2.1 i.2.2.2.2.2.2.2.2.1, aC i.2.2.2.2.2.2.2.2.2.2.1 3 tI i.2.2.2.2.2.2.2.1, aC i.2.2.2.2.2.2.2.2.2.2.2.2 3 tI i.2.2.2.2.2.2.2.2.2.1]) (fuel, 0, x1, x2, x3, x4, x5, x6, x7, x8, v4, b3, v5) H ?_
 clear H; rintro ⟨k2, x36, x37, x38, x39, x40, x41, x42, x43, x44, v15, b9, v16⟩ H
 replace H : kG fuel a1 a2 k2 x36 x37 x38 x39 x40 x41 x42 x43 x44 = _ := H
 try dsimp only
 obtain _ | k2 := k2
 rw [kG] at H; cases H
 rw [kG] at H
 refine aB 3 rfl (fun hc_v15 => ?_)
 refine aB 4 rfl (fun hc_v16 => ?_)
 refine Z3 ?_
 refine aM ?_
 revert H; refine is (fun c2 H => ?_) fun c2 H => ?_
 revert H; refine B3 fun o2 H Hr2 => ?_
 refine aQ (ι := Int × List ScopeDef × List CodeIns × Int × List Int × List Int × aE Int CodeLevel × List Int × Value × Nat × Value) (fun i => o2 = Sum.inl (i.1, i.2.1, i.2.2.1, i.2.2.2.1, i.2.2.2.2.1, i.2.2.2.2.2.1, i.2.2.2.2.2.2.1, i.2.2.2.2.2.2.2.1)) (fun i => [(0, fEq (ptr p0)), (2, fI a2), (4, fEq (ptr b2)), (28, fSl bN a1.Rules), (29, fI (a1.Rules.length : Int)), (30, fI x36)]) (fun i => [aA p0 90 [fI i.1, fSl aF i.2.1, fSl aG i.2.2.1, fI i.2.2.2.1, fSl tI i.2.2.2.2.1, fEq i.2.2.2.2.2.2.2.2.1, fEq (.map (some i.2.2.2.2.2.2.2.2.2.1)), fEq i.2.2.2.2.2.2.2.2.2.2], aA b2 63 [fSl bG a1.Chans, fSl bM a1.Spots, fSl bN a1.Rules], bB aX (fun y => fSt aO y) i.2.2.2.2.2.2.2.2.2.1 i.2.2.2.2.2.2.1, aC i.2.2.2.2.2.2.2.2.1 3 tI i.2.2.2.2.2.1, aC i.2.2.2.2.2.2.2.2.2.2 3 tI i.2.2.2.2.2.2.2.1]) ?_ ?_
 revert H; refine B2 fun y3 h6 H => ?_
 refine Z2 ?_
 refine Tn (dL rfl vJ rfl) fun b11 => ?_
 refine dH (φs' := [fI y3.At, fSl tI y3.Joins, fI y3.Node]) trivial rfl rfl (has rfl) (has rfl) (aP (aK trivial) (aP (dT) (aP (aK trivial) bY))) (sz rfl) rfl rfl rfl ?_
 revert H; refine B4 fun o3 H Hr3 => ?_
 refine aQ (ι := Int) (fun i => o3 = i) (fun i => [(0, fEq (ptr p0)), (2, fI a2), (4, fEq (ptr b2)), (28, fSl bN a1.Rules), (29, fI (a1.Rules.length : Int)), (30, fI x36), (9, fEq (ptr b11)), (10, fI i)]) (fun i => [aA b11 114 [fI y3.At, fSl tI y3.Joins, fI y3.Node], aA b2 63 [fSl bG a1.Chans, fSl bM a1.Spots, fSl bN a1.Rules], aA p0 90 [fI x37, fSl aF x38, fSl aG x39, fI x40, fSl tI x41, fEq v15, fEq (.map (some b9)), fEq v16], bB aX (fun y => fSt aO y) b9 x43, aC v15 3 tI x42, aC v16 3 tI x44]) ?_ ?_
 refine Z7 ?_
 refine Tl (ι := Nat × Int × Int) (fun i => lC a1 y3 i.1 i.2.1 i.2.2 = _) (fun i => i.1) (fun i => [(0, fEq (ptr p0)), (2, fI a2), (4, fEq (ptr b2)), (28, fSl bN a1.Rules), (29, fI (a1.Rules.length : Int)), (30, fI x36), (9, fEq (ptr b11)), (10, fI i.2.1), (35, fSl tI y3.Joins), (36, fI (y3.Joins.length : Int)), (37, fI i.2.2)]) (fun i => [aA b11 114 [fI y3.At, fSl tI y3.Joins, fI y3.Node], aA b2 63 [fSl bG a1.Chans, fSl bM a1.Spots, fSl bN a1.Rules], aA p0 90 [fI x37, fSl aF x38, fSl aG x39, fI x40, fSl tI x41, fEq v15, fEq (.map (some b9)), fEq v16], bB aX (fun y => fSt aO y) b9 x43, aC v15 3 tI x42, aC v16 3 tI x44]) (fuel, 0, 0) H ?_
 clear H; rintro ⟨k3, x56, x57⟩ H
 replace H : lC a1 y3 k3 x56 x57 = _ := H
 try dsimp only
 obtain _ | k3 := k3
 rw [lC] at H; cases H
 rw [lC] at H
 refine Z3 ?_
 refine aM ?_
 revert H; refine is (fun c3 H => ?_) fun c3 H => ?_
 refine Z3 ?_
 refine aM ?_
 revert H; refine B2 fun y4 h7 H => ?_
 revert H; refine B9 fun y5 h8 H => ?_
 revert H; refine B3 fun z2 h9 H => ?_
 revert H; refine B6 fun z3 h10 H => ?_
 refine Z3 ?_
 exact Tm ((k3, z2, z3)) ⟨H, ls⟩
 refine Z6 ?_
 exact Tm (x56) (ij H)
 clear H; intro x53 hi; subst o3; have H := Hr3; clear Hr3; try dsimp only at H
 try dsimp only
 revert H; refine B6 fun z4 h11 H => ?_
 refine Z1 ?_
 refine Yy (iG (ψs := [fI 0, fI z4]) rfl mQ rfl (bO.cons (has rfl) (dU (aK trivial)) bO.nil) rfl) ?_
 refine bF ?_
 refine cG ?_
 refine fF ?_
 refine aV ?_
 refine fF ?_
 refine fF ?_
 refine cD (x := (⟨(⟨x37, x38, x39, x40⟩ : CodeProg), x41, x42, x43, x44⟩ : Code_checker)) ?_
 revert H; refine bs fun y6 h12 H => ?_
 rcases y6 with y6 | pv2 <;> dsimp only at H
 refine Tc (gA _ _ _ _ _ h12).s ?_
 refine cS (fun v19 v20 v21 => ?_)
 refine aU ?_
 refine cQ (fun b12 h13 => ?_); subst h13
 refine aB 2 rfl (fun hc_v19 => ?_)
 refine aB 3 rfl (fun hc_v21 => ?_)
 refine Z3 ?_
 refine aD [1, 5, 0, 2, 3] (by decide) ?_
 exact Tm ((y6.CodeProg.Free, y6.CodeProg.Defs, y6.CodeProg.Code, y6.CodeProg.Main, y6.begins, y6.last, y6.levels, y6.todo, v19, b12, v21)) (ij H)
 refine Tp (gA _ _ _ _ _ h12).pan ?_
 revert H; refine B2 fun r2 H e2 => ?_
 cases e2; cases Hr2
 refine Z2 ?_
 cases H
 exact bC
 clear H; intro i hi; obtain ⟨x45, x46, x47, x48, x49, x50, x51, x52, v17, b10, v18⟩ := i; subst o2; have H := Hr2; clear Hr2; try dsimp only at H
 try dsimp only
 refine aB 3 rfl (fun hc_v17 => ?_)
 refine aB 4 rfl (fun hc_v18 => ?_)
 revert H; refine B1 fun z5 h14 H => ?_
 refine Z3 ?_
 refine aD [1, 0, 2, 3, 4] (by decide) ?_
 exact Tm ((k2, z5, x45, x46, x47, x48, x49, x50, x51, x52, v17, b10, v18)) ⟨H, ls⟩
 refine Z5 ?_
 refine aU ?_
 refine cG ?_
 refine aL ?_
 refine aV ?_
 refine aL ?_
 refine aL ?_
 refine cD (x := (⟨(⟨x37, x38, x39, x40⟩ : CodeProg), x41, x42, x43, x44⟩ : Code_checker)) ?_
 cases H
 refine gP ?_
 refine aD [0] (by decide) ?_
 exact cJ (.inr rfl) rfl rfl
open Go.SX Go.SW Go.Dt
def nL (w0 : CodeIns) (w1 : CodeLevel) : Option (CodeLevel ⊕ Value) :=
 (bH (decide (w0.A < w1.Slots))).bind fun y1 =>
 match y1 with
 | Sum.inr pv1 => some (Sum.inr pv1)
 | Sum.inl y1 =>
 some (Sum.inl (⟨w1.Stack, w1.Slots⟩ : CodeLevel))
theorem oM (q1 : Nat) (w0 : CodeIns) (w1 : CodeLevel) (r : CodeLevel ⊕ Value) (H : nL w0 w1 = some r) : FnE Tryz.prog 119 [bI aG w0, fEq (.pointer (some ⟨q1, 0, none⟩))] [pE q1 w1] r (fun r => dQ []) (fun r => [pE q1 r]) := by
 unfold nL at H
 refine jA Tryz.func119 rfl Tryz.ntmps119 rfl (fun β => ?_)
 refine kX ?_
 revert H; refine B6 fun y1 h1 H => ?_
 rcases y1 with y1 | pv1 <;> dsimp only at H
 refine Tc (aN _ _ h1).s ?_
 refine Z1 ?_
 refine kN (x := (⟨w1.Stack, w1.Slots⟩ : CodeLevel)) ?_
 cases H
 refine gP ?_
 exact cJ (.inr rfl) rfl rfl
 refine Tp (aN _ _ h1).pan ?_
 cases H
 exact bC
def mT (w0 : CodeLevel) : Option (CodeLevel ⊕ Value) :=
 (bH (decide (w0.Stack = 0))).bind fun y1 =>
 match y1 with
 | Sum.inr pv1 => some (Sum.inr pv1)
 | Sum.inl y1 =>
 some (Sum.inl (⟨w0.Stack, w0.Slots⟩ : CodeLevel))
theorem lR (q0 : Nat) (w0 : CodeLevel) (r : CodeLevel ⊕ Value) (H : mT w0 = some r) : FnE Tryz.prog 120 [fEq (.pointer (some ⟨q0, 0, none⟩))] [pE q0 w0] r (fun r => dQ []) (fun r => [pE q0 r]) := by
 unfold mT at H
 refine jA Tryz.func120 rfl Tryz.ntmps120 rfl (fun β => ?_)
 refine kX ?_
 revert H; refine B4 fun y1 h1 H => ?_
 rcases y1 with y1 | pv1 <;> dsimp only at H
 refine Tc (aN _ _ h1).s ?_
 refine Z1 ?_
 refine kN (x := (⟨w0.Stack, w0.Slots⟩ : CodeLevel)) ?_
 cases H
 refine gP ?_
 exact cJ (.inr rfl) rfl rfl
 refine Tp (aN _ _ h1).pan ?_
 cases H
 exact bC
def pA (fuel : Nat) (a0 : Code_checker) (a1 : Int) : Option (Code_checker ⊕ Value) :=
 (idx a0.CodeProg.Code a1).bind fun y1 =>
 (if ((⟨y1.Op, y1.A, y1.B⟩ : CodeIns).Op) = 1 then
  (jX (⟨((a0.levels.get a1).getD (⟨0, 0⟩ : CodeLevel)).Stack, ((a0.levels.get a1).getD (⟨0, 0⟩ : CodeLevel)).Slots⟩ : CodeLevel) 0 1).bind fun y2 =>
  match y2 with
  | Sum.inr pv1 => (some (Sum.inr pv1)).bind fun r => some (Sum.inr r)
  | Sum.inl y2 =>
  some (Sum.inl (y2.Stack, y2.Slots, a0.CodeProg.Free, a0.CodeProg.Defs, a0.CodeProg.Code, a0.CodeProg.Main, a0.begins, a0.last, a0.levels, a0.todo))
 else
  if ((⟨y1.Op, y1.A, y1.B⟩ : CodeIns).Op) = 2 then
   (nL (⟨y1.Op, y1.A, y1.B⟩ : CodeIns) (⟨((a0.levels.get a1).getD (⟨0, 0⟩ : CodeLevel)).Stack, ((a0.levels.get a1).getD (⟨0, 0⟩ : CodeLevel)).Slots⟩ : CodeLevel)).bind fun y3 =>
   match y3 with
   | Sum.inr pv2 => (some (Sum.inr pv2)).bind fun r => some (Sum.inr r)
   | Sum.inl y3 =>
   (jX (⟨y3.Stack, y3.Slots⟩ : CodeLevel) 0 1).bind fun y4 =>
   match y4 with
   | Sum.inr pv3 => (some (Sum.inr pv3)).bind fun r => some (Sum.inr r)
   | Sum.inl y4 =>
   some (Sum.inl (y4.Stack, y4.Slots, a0.CodeProg.Free, a0.CodeProg.Defs, a0.CodeProg.Code, a0.CodeProg.Main, a0.begins, a0.last, a0.levels, a0.todo))
  else
   (if ((⟨y1.Op, y1.A, y1.B⟩ : CodeIns).Op) = 3 then
    some (decide (((⟨y1.Op, y1.A, y1.B⟩ : CodeIns).Op) = 3))
   else
    if ((⟨y1.Op, y1.A, y1.B⟩ : CodeIns).Op) = 4 then
     some (decide (((⟨y1.Op, y1.A, y1.B⟩ : CodeIns).Op) = 4))
    else
     if ((⟨y1.Op, y1.A, y1.B⟩ : CodeIns).Op) = 5 then
      some (decide (((⟨y1.Op, y1.A, y1.B⟩ : CodeIns).Op) = 5))
     else
      if ((⟨y1.Op, y1.A, y1.B⟩ : CodeIns).Op) = 6 then
       some (decide (((⟨y1.Op, y1.A, y1.B⟩ : CodeIns).Op) = 6))
      else
       some (decide (((⟨y1.Op, y1.A, y1.B⟩ : CodeIns).Op) = 7))).bind fun x11 =>
   bif x11 then
    (jX (⟨((a0.levels.get a1).getD (⟨0, 0⟩ : CodeLevel)).Stack, ((a0.levels.get a1).getD (⟨0, 0⟩ : CodeLevel)).Slots⟩ : CodeLevel) 2 1).bind fun y5 =>
    match y5 with
    | Sum.inr pv4 => (some (Sum.inr pv4)).bind fun r => some (Sum.inr r)
    | Sum.inl y5 =>
    some (Sum.inl (y5.Stack, y5.Slots, a0.CodeProg.Free, a0.CodeProg.Defs, a0.CodeProg.Code, a0.CodeProg.Main, a0.begins, a0.last, a0.levels, a0.todo))
   else
    if ((⟨y1.Op, y1.A, y1.B⟩ : CodeIns).Op) = 8 then
     (nL (⟨y1.Op, y1.A, y1.B⟩ : CodeIns) (⟨((a0.levels.get a1).getD (⟨0, 0⟩ : CodeLevel)).Stack, ((a0.levels.get a1).getD (⟨0, 0⟩ : CodeLevel)).Slots⟩ : CodeLevel)).bind fun y6 =>
     match y6 with
     | Sum.inr pv5 => (some (Sum.inr pv5)).bind fun r => some (Sum.inr r)
     | Sum.inl y6 =>
     (jX (⟨y6.Stack, y6.Slots⟩ : CodeLevel) ((⟨y1.Op, y1.A, y1.B⟩ : CodeIns).B) 0).bind fun y7 =>
     match y7 with
     | Sum.inr pv6 => (some (Sum.inr pv6)).bind fun r => some (Sum.inr r)
     | Sum.inl y7 =>
     some (Sum.inl (y7.Stack, y7.Slots, a0.CodeProg.Free, a0.CodeProg.Defs, a0.CodeProg.Code, a0.CodeProg.Main, a0.begins, a0.last, a0.levels, a0.todo))
    else
     if ((⟨y1.Op, y1.A, y1.B⟩ : CodeIns).Op) = 9 then
      (jX (⟨((a0.levels.get a1).getD (⟨0, 0⟩ : CodeLevel)).Stack, ((a0.levels.get a1).getD (⟨0, 0⟩ : CodeLevel)).Slots⟩ : CodeLevel) 1 0).bind fun y8 =>
      match y8 with
      | Sum.inr pv7 => (some (Sum.inr pv7)).bind fun r => some (Sum.inr r)
      | Sum.inl y8 =>
      (idx a0.last a1).bind fun y9 =>
      (bH (decide (((⟨y1.Op, y1.A, y1.B⟩ : CodeIns).A) ≤ y9))).bind fun y10 =>
      match y10 with
      | Sum.inr pv8 => (some (Sum.inr pv8)).bind fun r => some (Sum.inr r)
      | Sum.inl y10 =>
      (iU (⟨(⟨a0.CodeProg.Free, a0.CodeProg.Defs, a0.CodeProg.Code, a0.CodeProg.Main⟩ : CodeProg), a0.begins, a0.last, a0.levels, a0.todo⟩ : Code_checker) ((⟨y1.Op, y1.A, y1.B⟩ : CodeIns).A) (⟨y8.Stack, y8.Slots⟩ : CodeLevel)).bind fun y11 =>
      match y11 with
      | Sum.inr pv9 => (some (Sum.inr pv9)).bind fun r => some (Sum.inr r)
      | Sum.inl y11 =>
      some (Sum.inl (y8.Stack, y8.Slots, y11.CodeProg.Free, y11.CodeProg.Defs, y11.CodeProg.Code, y11.CodeProg.Main, y11.begins, y11.last, y11.levels, y11.todo))
     else
      if ((⟨y1.Op, y1.A, y1.B⟩ : CodeIns).Op) = 10 then
       (idx a0.last a1).bind fun y12 =>
       (bH (decide (((⟨y1.Op, y1.A, y1.B⟩ : CodeIns).A) ≤ y12))).bind fun y13 =>
       match y13 with
       | Sum.inr pv10 => (some (Sum.inr pv10)).bind fun r => some (Sum.inr r)
       | Sum.inl y13 =>
       (iU (⟨(⟨a0.CodeProg.Free, a0.CodeProg.Defs, a0.CodeProg.Code, a0.CodeProg.Main⟩ : CodeProg), a0.begins, a0.last, a0.levels, a0.todo⟩ : Code_checker) ((⟨y1.Op, y1.A, y1.B⟩ : CodeIns).A) (⟨((a0.levels.get a1).getD (⟨0, 0⟩ : CodeLevel)).Stack, ((a0.levels.get a1).getD (⟨0, 0⟩ : CodeLevel)).Slots⟩ : CodeLevel)).bind fun y14 =>
       match y14 with
       | Sum.inr pv11 => (some (Sum.inr pv11)).bind fun r => some (Sum.inr r)
       | Sum.inl y14 =>
       (some (Sum.inl (⟨(⟨y14.CodeProg.Free, y14.CodeProg.Defs, y14.CodeProg.Code, y14.CodeProg.Main⟩ : CodeProg), y14.begins, y14.last, y14.levels, y14.todo⟩ : Code_checker))).bind fun r => some (Sum.inr r)
      else
       if ((⟨y1.Op, y1.A, y1.B⟩ : CodeIns).Op) = 11 then
        (mT (⟨((a0.levels.get a1).getD (⟨0, 0⟩ : CodeLevel)).Stack, ((a0.levels.get a1).getD (⟨0, 0⟩ : CodeLevel)).Slots⟩ : CodeLevel)).bind fun y15 =>
        match y15 with
        | Sum.inr pv12 => (some (Sum.inr pv12)).bind fun r => some (Sum.inr r)
        | Sum.inl y15 =>
        (idx a0.CodeProg.Defs ((⟨y1.Op, y1.A, y1.B⟩ : CodeIns).A)).bind fun y16 =>
        (chk ((y16.Chans.length : Int) + (y16.Spots.length : Int))).bind fun z1 =>
        (chk (y15.Slots + z1)).bind fun z2 =>
        (tD fuel (⟨(⟨a0.CodeProg.Free, a0.CodeProg.Defs, a0.CodeProg.Code, a0.CodeProg.Main⟩ : CodeProg), a0.begins, a0.last, a0.levels, a0.todo⟩ : Code_checker) (⟨y16.Chans, y16.Spots, y16.Rules⟩ : ScopeDef) z2).bind fun y17 =>
        match y17 with
        | Sum.inr pv13 => (some (Sum.inr pv13)).bind fun r => some (Sum.inr r)
        | Sum.inl y17 =>
        some (Sum.inl (y15.Stack, z2, y17.CodeProg.Free, y17.CodeProg.Defs, y17.CodeProg.Code, y17.CodeProg.Main, y17.begins, y17.last, y17.levels, y17.todo))
       else
        if ((⟨y1.Op, y1.A, y1.B⟩ : CodeIns).Op) = 12 then
         (bH (decide (((⟨y1.Op, y1.A, y1.B⟩ : CodeIns).A) ≤ (((a0.levels.get a1).getD (⟨0, 0⟩ : CodeLevel)).Slots)))).bind fun y18 =>
         match y18 with
         | Sum.inr pv14 => (some (Sum.inr pv14)).bind fun r => some (Sum.inr r)
         | Sum.inl y18 =>
         some (Sum.inl (((a0.levels.get a1).getD (⟨0, 0⟩ : CodeLevel)).Stack, (⟨y1.Op, y1.A, y1.B⟩ : CodeIns).A, a0.CodeProg.Free, a0.CodeProg.Defs, a0.CodeProg.Code, a0.CodeProg.Main, a0.begins, a0.last, a0.levels, a0.todo))
        else
         (if ((⟨y1.Op, y1.A, y1.B⟩ : CodeIns).Op) = 13 then
          some (decide (((⟨y1.Op, y1.A, y1.B⟩ : CodeIns).Op) = 13))
         else
          some (decide (((⟨y1.Op, y1.A, y1.B⟩ : CodeIns).Op) = 15))).bind fun x12 =>
         bif x12 then
          (nL (⟨y1.Op, y1.A, y1.B⟩ : CodeIns) (⟨((a0.levels.get a1).getD (⟨0, 0⟩ : CodeLevel)).Stack, ((a0.levels.get a1).getD (⟨0, 0⟩ : CodeLevel)).Slots⟩ : CodeLevel)).bind fun y19 =>
          match y19 with
          | Sum.inr pv15 => (some (Sum.inr pv15)).bind fun r => some (Sum.inr r)
          | Sum.inl y19 =>
          (mT (⟨y19.Stack, y19.Slots⟩ : CodeLevel)).bind fun y20 =>
          match y20 with
          | Sum.inr pv16 => (some (Sum.inr pv16)).bind fun r => some (Sum.inr r)
          | Sum.inl y20 =>
          (iU (⟨(⟨a0.CodeProg.Free, a0.CodeProg.Defs, a0.CodeProg.Code, a0.CodeProg.Main⟩ : CodeProg), a0.begins, a0.last, a0.levels, a0.todo⟩ : Code_checker) ((⟨y1.Op, y1.A, y1.B⟩ : CodeIns).B) (⟨0, y20.Slots⟩ : CodeLevel)).bind fun y21 =>
          match y21 with
          | Sum.inr pv17 => (some (Sum.inr pv17)).bind fun r => some (Sum.inr r)
          | Sum.inl y21 =>
          some (Sum.inl (y20.Stack, y20.Slots, y21.CodeProg.Free, y21.CodeProg.Defs, y21.CodeProg.Code, y21.CodeProg.Main, y21.begins, y21.last, y21.levels, y21.todo))
         else
          if ((⟨y1.Op, y1.A, y1.B⟩ : CodeIns).Op) = 14 then
           (mT (⟨((a0.levels.get a1).getD (⟨0, 0⟩ : CodeLevel)).Stack, ((a0.levels.get a1).getD (⟨0, 0⟩ : CodeLevel)).Slots⟩ : CodeLevel)).bind fun y22 =>
           match y22 with
           | Sum.inr pv18 => (some (Sum.inr pv18)).bind fun r => some (Sum.inr r)
           | Sum.inl y22 =>
           some (Sum.inl (y22.Stack, y22.Slots, a0.CodeProg.Free, a0.CodeProg.Defs, a0.CodeProg.Code, a0.CodeProg.Main, a0.begins, a0.last, a0.levels, a0.todo))
          else
           if ((⟨y1.Op, y1.A, y1.B⟩ : CodeIns).Op) = 16 then
            (mT (⟨((a0.levels.get a1).getD (⟨0, 0⟩ : CodeLevel)).Stack, ((a0.levels.get a1).getD (⟨0, 0⟩ : CodeLevel)).Slots⟩ : CodeLevel)).bind fun y23 =>
            match y23 with
            | Sum.inr pv19 => (some (Sum.inr pv19)).bind fun r => some (Sum.inr r)
            | Sum.inl y23 =>
            (some (Sum.inl (⟨(⟨a0.CodeProg.Free, a0.CodeProg.Defs, a0.CodeProg.Code, a0.CodeProg.Main⟩ : CodeProg), a0.begins, a0.last, a0.levels, a0.todo⟩ : Code_checker))).bind fun r => some (Sum.inr r)
           else
            some (Sum.inl (((a0.levels.get a1).getD (⟨0, 0⟩ : CodeLevel)).Stack, ((a0.levels.get a1).getD (⟨0, 0⟩ : CodeLevel)).Slots, a0.CodeProg.Free, a0.CodeProg.Defs, a0.CodeProg.Code, a0.CodeProg.Main, a0.begins, a0.last, a0.levels, a0.todo))).bind fun o => match o with
 | Sum.inr r => some r
 | Sum.inl (x1, x2, x3, x4, x5, x6, x7, x8, x9, x10) =>
 (chk (a1 + 1)).bind fun z3 =>
 (iU (⟨(⟨x3, x4, x5, x6⟩ : CodeProg), x7, x8, x9, x10⟩ : Code_checker) z3 (⟨x1, x2⟩ : CodeLevel)).bind fun y24 =>
 match y24 with
 | Sum.inr pv20 => some (Sum.inr pv20)
 | Sum.inl y24 =>
 some (Sum.inl (⟨(⟨y24.CodeProg.Free, y24.CodeProg.Defs, y24.CodeProg.Code, y24.CodeProg.Main⟩ : CodeProg), y24.begins, y24.last, y24.levels, y24.todo⟩ : Code_checker))
theorem aAy (fuel : Nat) (p0 : Nat) (a0 : Code_checker) (a1 : Int) (r : Code_checker ⊕ Value) (H : pA fuel a0 a1 = some r) : FnE Tryz.prog 75 [fEq (.pointer (some ⟨p0, 0, none⟩)), fI a1] [cR p0 a0] r (fun r => dQ []) (fun r => [cR p0 r]) := by
 unfold pA at H
 refine jA Tryz.func75 rfl Tryz.ntmps75 rfl (fun β => ?_)
 refine cS (fun v1 v2 v3 => ?_)
 refine aU ?_
 refine cQ (fun b1 h1 => ?_); subst h1
 refine aB 2 rfl (fun hc_v1 => ?_)
 refine aB 3 rfl (fun hc_v3 => ?_)
 refine aM ?_
 revert H; refine bs fun y1 h2 H => ?_
 apply cL (ods := [_, _, _, _, _, _, _, _, _, _, _, _, _, _, _, _, _, _]) 18 2 6 cK rfl rfl rfl
 refine ND ?_
 refine M8 ?_
 intros
 refine M5 ?_
 intros
 refine Mo 0 rfl (aBk (zα := (⟨0, 0⟩ : CodeLevel)) (k := a1) rfl hh hh rfl rH (pV [(.int .i64 0), (.int .i64 0)])) fun _ => ?_
 refine Mn 4 (fun b2 => ptr b2) (fun b2 => aA b2 73 [fI 0, fI 0, fI 0]) rfl (dL rfl rV rfl) (fun b2 u1 => ?_)
 refine Mn 5 (fun b3 => ptr b3) (fun b3 => aA b3 79 [fI 0, fI 0]) rfl (dL rfl wP rfl) (fun b3 u2 => ?_)
 refine yC (od := od1 14 [4] true (fun b2 _ => fAny) (fun b2 _ => [aA b2 73 [fI y1.Op, fI y1.A, fI y1.B]])) (p := 4) (φs' := [fI y1.Op, fI y1.A, fI y1.B]) rfl (fun _ => rfl) (fun _ => rfl) trivial rfl rfl rfl (has rfl) (has rfl) (aP (aK trivial) (aP (aK trivial) (aP (aK trivial) bY))) (sz rfl) rfl rfl rfl (fun _ => ?_)
 refine yC (od := od1 15 [5] true (fun b3 _ => fAny) (fun b3 _ => [aA b3 79 [fI (((a0.levels.get a1).getD (⟨0, 0⟩ : CodeLevel)).Stack), fI (((a0.levels.get a1).getD (⟨0, 0⟩ : CodeLevel)).Slots)]])) (p := 5) (φs' := [fI (((a0.levels.get a1).getD (⟨0, 0⟩ : CodeLevel)).Stack), fI (((a0.levels.get a1).getD (⟨0, 0⟩ : CodeLevel)).Slots)]) rfl (fun _ => rfl) (fun _ => rfl) trivial rfl rfl rfl (has rfl) (has rfl) (aP (aK trivial) (aP (aK trivial) bY)) (sz rfl) rfl rfl rfl (fun _ => ?_)
 refine Z3 ?_
 refine aL ?_
 refine iT (φ := bI aG (⟨y1.Op, y1.A, y1.B⟩ : CodeIns)) (v := ptr b2) [4] (wH aJ.rfl) fz ?_
 refine iI ?_
 refine Yy (o_clo rfl (aI.cons hh (aI.cons hh aI.nil))) ?_
 refine Z3 ?_
 refine Yy (o_clo rfl (aI.cons hh aI.nil)) ?_
 revert H; refine B2 fun o1 H Hr1 => ?_
 refine aQ (ι := Int × Int × Int × List ScopeDef × List CodeIns × Int × List Int × List Int × aE Int CodeLevel × List Int × Value × Nat × Value) (fun i => o1 = Sum.inl (i.1, i.2.1, i.2.2.1, i.2.2.2.1, i.2.2.2.2.1, i.2.2.2.2.2.1, i.2.2.2.2.2.2.1, i.2.2.2.2.2.2.2.1, i.2.2.2.2.2.2.2.2.1, i.2.2.2.2.2.2.2.2.2.1)) (fun i => [(0, fEq (ptr p0)), (1, fI a1), (5, fEq (ptr b3))]) (fun i => [aA b3 79 [fI i.1, fI i.2.1], aA p0 90 [fI i.2.2.1, fSl aF i.2.2.2.1, fSl aG i.2.2.2.2.1, fI i.2.2.2.2.2.1, fSl tI i.2.2.2.2.2.2.1, fEq i.2.2.2.2.2.2.2.2.2.2.1, fEq (.map (some i.2.2.2.2.2.2.2.2.2.2.2.1)), fEq i.2.2.2.2.2.2.2.2.2.2.2.2], bB aX (fun y => fSt aO y) i.2.2.2.2.2.2.2.2.2.2.2.1 i.2.2.2.2.2.2.2.2.1, aC i.2.2.2.2.2.2.2.2.2.2.1 3 tI i.2.2.2.2.2.2.2.1, aC i.2.2.2.2.2.2.2.2.2.2.2.2 3 tI i.2.2.2.2.2.2.2.2.2.1]) ?_ ?_
 revert H; refine I9 (fun c1 H => ?_) fun c1 H => ?_
 revert H; refine B3 fun y2 h3 H => ?_
 rcases y2 with y2 | pv1 <;> dsimp only at H
 refine Tc (jP _ _ _ _ h3).s ?_
 refine aL ?_
 refine dH (φs' := [fI y2.Stack, fI y2.Slots]) trivial rfl rfl (has rfl) (has rfl) (aP (aK trivial) (aP (aK trivial) bY)) (sz rfl) rfl rfl rfl ?_
 refine Z3 ?_
 refine aD [0, 2, 1, 3, 4] (by decide) ?_
 exact Tm ((y2.Stack, y2.Slots, a0.CodeProg.Free, a0.CodeProg.Defs, a0.CodeProg.Code, a0.CodeProg.Main, a0.begins, a0.last, a0.levels, a0.todo, v1, b1, v3)) (ij H)
 refine Tp (jP _ _ _ _ h3).pan ?_
 revert H; refine B2 fun r1 H e1 => ?_
 cases e1; cases Hr1
 cases H
 exact bC
 revert H; refine I5 (fun c2 H => ?_) fun c2 H => ?_
 refine Z3 ?_
 refine aL ?_
 refine kN (x := (⟨((a0.levels.get a1).getD (⟨0, 0⟩ : CodeLevel)).Stack, ((a0.levels.get a1).getD (⟨0, 0⟩ : CodeLevel)).Slots⟩ : CodeLevel)) ?_
 revert H; refine bs fun y3 h4 H => ?_
 rcases y3 with y3 | pv2 <;> dsimp only at H
 refine kC trivial rfl rfl rfl (has rfl) aI.nil rfl (cb rfl) (oM b3 (⟨y1.Op, y1.A, y1.B⟩ : CodeIns) (⟨((a0.levels.get a1).getD (⟨0, 0⟩ : CodeLevel)).Stack, ((a0.levels.get a1).getD (⟨0, 0⟩ : CodeLevel)).Slots⟩ : CodeLevel) (Sum.inl y3) h4).s rfl ?_
 refine kX ?_
 revert H; refine B3 fun y4 h5 H => ?_
 rcases y4 with y4 | pv3 <;> dsimp only at H
 refine Tc (jP _ _ _ _ h5).s ?_
 refine dH (φs' := [fI y4.Stack, fI y4.Slots]) trivial rfl rfl (has rfl) (has rfl) (aP (aK trivial) (aP (aK trivial) bY)) (sz rfl) rfl rfl rfl ?_
 refine Z3 ?_
 refine aD [0, 2, 1, 3, 4] (by decide) ?_
 exact Tm ((y4.Stack, y4.Slots, a0.CodeProg.Free, a0.CodeProg.Defs, a0.CodeProg.Code, a0.CodeProg.Main, a0.begins, a0.last, a0.levels, a0.todo, v1, b1, v3)) (ij H)
 refine Tp (jP _ _ _ _ h5).pan ?_
 revert H; refine B2 fun r2 H e2 => ?_
 cases e2; cases Hr1
 cases H
 exact bC
 refine nV trivial rfl (has rfl) aI.nil rfl (cb rfl) (oM b3 (⟨y1.Op, y1.A, y1.B⟩ : CodeIns) (⟨((a0.levels.get a1).getD (⟨0, 0⟩ : CodeLevel)).Stack, ((a0.levels.get a1).getD (⟨0, 0⟩ : CodeLevel)).Slots⟩ : CodeLevel) (Sum.inr pv2) h4).pan rfl ?_
 revert H; refine B3 fun r3 H e3 => ?_
 cases e3; cases Hr1
 cases H
 exact bC
 revert H; refine B1 fun o2 H Hr2 => ?_
 refine aQ (ι := Bool) (fun i => o2 = i) (fun i => [(0, fEq (ptr p0)), (1, fI a1), (4, bI aG (⟨y1.Op, y1.A, y1.B⟩ : CodeIns)), (5, fEq (ptr b3)), (6, eJ 119 [bI aG (⟨y1.Op, y1.A, y1.B⟩ : CodeIns), fEq (ptr b3)]), (7, eJ 120 [fEq (ptr b3)]), (26, fI ((⟨y1.Op, y1.A, y1.B⟩ : CodeIns).Op)), (37, aH i)]) (fun i => [aA p0 90 [fI a0.CodeProg.Free, fSl aF a0.CodeProg.Defs, fSl aG a0.CodeProg.Code, fI a0.CodeProg.Main, fSl tI a0.begins, fEq v1, fEq (.map (some b1)), fEq v3], aA b3 79 [fI (((a0.levels.get a1).getD (⟨0, 0⟩ : CodeLevel)).Stack), fI (((a0.levels.get a1).getD (⟨0, 0⟩ : CodeLevel)).Slots)], bB aX (fun y => fSt aO y) b1 a0.levels, aC v1 3 tI a0.last, aC v3 3 tI a0.todo]) ?_ ?_
 revert H; refine I4 (fun c3 H => ?_) fun c3 H => ?_
 refine Z3 ?_
 refine aD [1, 4, 0, 2, 3] (by decide) ?_
 exact Tm (decide (((⟨y1.Op, y1.A, y1.B⟩ : CodeIns).Op) = 3)) (ij H)
 revert H; refine I5 (fun c4 H => ?_) fun c4 H => ?_
 refine Z3 ?_
 refine aD [1, 4, 0, 2, 3] (by decide) ?_
 exact Tm (decide (((⟨y1.Op, y1.A, y1.B⟩ : CodeIns).Op) = 4)) (ij H)
 revert H; refine I5 (fun c5 H => ?_) fun c5 H => ?_
 refine Z3 ?_
 refine aD [1, 4, 0, 2, 3] (by decide) ?_
 exact Tm (decide (((⟨y1.Op, y1.A, y1.B⟩ : CodeIns).Op) = 5)) (ij H)
 revert H; refine I5 (fun c6 H => ?_) fun c6 H => ?_
 refine Z3 ?_
 refine aD [1, 4, 0, 2, 3] (by decide) ?_
 exact Tm (decide (((⟨y1.Op, y1.A, y1.B⟩ : CodeIns).Op) = 6)) (ij H)
 refine Z5 ?_
 refine aD [1, 4, 0, 2, 3] (by decide) ?_
 exact Tm (decide (((⟨y1.Op, y1.A, y1.B⟩ : CodeIns).Op) = 7)) (ij H)
 clear H; intro x11 hi; subst o2; have H := Hr2; clear Hr2; try dsimp only at H
 try dsimp only
 revert H; refine cs (fun c7 H => ?_) fun c7 H => ?_
 revert H; refine B3 fun y5 h6 H => ?_
 rcases y5 with y5 | pv4 <;> dsimp only at H
 refine Tc (jP _ _ _ _ h6).s ?_
 refine aV ?_
 refine dH (φs' := [fI y5.Stack, fI y5.Slots]) trivial rfl rfl (has rfl) (has rfl) (aP (aK trivial) (aP (aK trivial) bY)) (sz rfl) rfl rfl rfl ?_
 refine Z3 ?_
 exact Tm ((y5.Stack, y5.Slots, a0.CodeProg.Free, a0.CodeProg.Defs, a0.CodeProg.Code, a0.CodeProg.Main, a0.begins, a0.last, a0.levels, a0.todo, v1, b1, v3)) (ij H)
 refine Tp (jP _ _ _ _ h6).pan ?_
 revert H; refine B2 fun r4 H e4 => ?_
 cases e4; cases Hr1
 cases H
 exact bC
 revert H; refine I5 (fun c8 H => ?_) fun c8 H => ?_
 refine Z3 ?_
 refine aV ?_
 refine kN (x := (⟨((a0.levels.get a1).getD (⟨0, 0⟩ : CodeLevel)).Stack, ((a0.levels.get a1).getD (⟨0, 0⟩ : CodeLevel)).Slots⟩ : CodeLevel)) ?_
 revert H; refine bs fun y6 h7 H => ?_
 rcases y6 with y6 | pv5 <;> dsimp only at H
 refine kC trivial rfl rfl rfl (has rfl) aI.nil rfl (cb rfl) (oM b3 (⟨y1.Op, y1.A, y1.B⟩ : CodeIns) (⟨((a0.levels.get a1).getD (⟨0, 0⟩ : CodeLevel)).Stack, ((a0.levels.get a1).getD (⟨0, 0⟩ : CodeLevel)).Slots⟩ : CodeLevel) (Sum.inl y6) h7).s rfl ?_
 refine kX ?_
 revert H; refine B5 fun y7 h8 H => ?_
 rcases y7 with y7 | pv6 <;> dsimp only at H
 refine Tc (jP _ _ _ _ h8).s ?_
 refine dH (φs' := [fI y7.Stack, fI y7.Slots]) trivial rfl rfl (has rfl) (has rfl) (aP (aK trivial) (aP (aK trivial) bY)) (sz rfl) rfl rfl rfl ?_
 refine Z3 ?_
 exact Tm ((y7.Stack, y7.Slots, a0.CodeProg.Free, a0.CodeProg.Defs, a0.CodeProg.Code, a0.CodeProg.Main, a0.begins, a0.last, a0.levels, a0.todo, v1, b1, v3)) (ij H)
 refine Tp (jP _ _ _ _ h8).pan ?_
 revert H; refine B2 fun r5 H e5 => ?_
 cases e5; cases Hr1
 cases H
 exact bC
 refine nV trivial rfl (has rfl) aI.nil rfl (cb rfl) (oM b3 (⟨y1.Op, y1.A, y1.B⟩ : CodeIns) (⟨((a0.levels.get a1).getD (⟨0, 0⟩ : CodeLevel)).Stack, ((a0.levels.get a1).getD (⟨0, 0⟩ : CodeLevel)).Slots⟩ : CodeLevel) (Sum.inr pv5) h7).pan rfl ?_
 revert H; refine B3 fun r6 H e6 => ?_
 cases e6; cases Hr1
 cases H
 exact bC
 revert H; refine I5 (fun c9 H => ?_) fun c9 H => ?_
 revert H; refine B3 fun y8 h9 H => ?_
 rcases y8 with y8 | pv7 <;> dsimp only at H
 refine Tc (jP _ _ _ _ h9).s ?_
 refine aV ?_
 refine dH (φs' := [fI y8.Stack, fI y8.Slots]) trivial rfl rfl (has rfl) (has rfl) (aP (aK trivial) (aP (aK trivial) bY)) (sz rfl) rfl rfl rfl ?_
 refine Z1 ?_
 refine aM ?_
 revert H; refine bs fun y9 h10 H => ?_
 apply cL (ods := [_, _, _, _, _, _, _, _, _, _]) 10 0 5 cK rfl rfl rfl
 refine ND ?_
 refine M8 ?_
 intros
 refine Mo 3 rfl (iQ rfl rfl hh (sc rfl) (dF h10) rfl) fun _ => ?_
 refine M1 ?_
 intros
 revert H; refine B1 fun y10 h11 H => ?_
 rcases y10 with y10 | pv8 <;> dsimp only at H
 refine Tc (aN _ _ h11).s ?_
 refine Z6 ?_
 refine aU ?_
 refine cG ?_
 refine aL ?_
 refine aV ?_
 refine aL ?_
 refine aL ?_
 refine cD (x := (⟨(⟨a0.CodeProg.Free, a0.CodeProg.Defs, a0.CodeProg.Code, a0.CodeProg.Main⟩ : CodeProg), a0.begins, a0.last, a0.levels, a0.todo⟩ : Code_checker)) ?_
 revert H; refine bs fun y11 h12 H => ?_
 rcases y11 with y11 | pv9 <;> dsimp only at H
 refine Tc (gA _ _ _ _ _ h12).s ?_
 refine cS (fun v6 v7 v8 => ?_)
 refine aU ?_
 refine cQ (fun b5 h13 => ?_); subst h13
 refine aB 2 rfl (fun hc_v6 => ?_)
 refine aB 3 rfl (fun hc_v8 => ?_)
 refine Z3 ?_
 refine aD [4, 1, 0, 2, 3] (by decide) ?_
 exact Tm ((y8.Stack, y8.Slots, y11.CodeProg.Free, y11.CodeProg.Defs, y11.CodeProg.Code, y11.CodeProg.Main, y11.begins, y11.last, y11.levels, y11.todo, v6, b5, v8)) (ij H)
 refine Tp (gA _ _ _ _ _ h12).pan ?_
 revert H; refine B2 fun r7 H e7 => ?_
 cases e7; cases Hr1
 cases H
 exact bC
 refine Tp (aN _ _ h11).pan ?_
 revert H; refine B3 fun r8 H e8 => ?_
 cases e8; cases Hr1
 cases H
 exact bC
 exact fk
 kernel_rfl
 refine Tp (jP _ _ _ _ h9).pan ?_
 revert H; refine B3 fun r9 H e9 => ?_
 cases e9; cases Hr1
 cases H
 exact bC
 revert H; refine I5 (fun c10 H => ?_) fun c10 H => ?_
 refine Z1 ?_
 refine aM ?_
 revert H; refine bs fun y12 h14 H => ?_
 apply cL (ods := [_, _, _, _, _, _, _, _, _, _]) 10 0 5 cK rfl rfl rfl
 refine ND ?_
 refine M8 ?_
 intros
 refine Mo 3 rfl (iQ rfl rfl hh (sc rfl) (dF h14) rfl) fun _ => ?_
 refine M1 ?_
 intros
 revert H; refine B1 fun y13 h15 H => ?_
 rcases y13 with y13 | pv10 <;> dsimp only at H
 refine Tc (aN _ _ h15).s ?_
 refine Z6 ?_
 refine aU ?_
 refine cG ?_
 refine aL ?_
 refine aV ?_
 refine aL ?_
 refine bF ?_
 refine cD (x := (⟨(⟨a0.CodeProg.Free, a0.CodeProg.Defs, a0.CodeProg.Code, a0.CodeProg.Main⟩ : CodeProg), a0.begins, a0.last, a0.levels, a0.todo⟩ : Code_checker)) ?_
 revert H; refine bs fun y14 h16 H => ?_
 rcases y14 with y14 | pv11 <;> dsimp only at H
 refine Tc (gA _ _ _ _ _ h16).s ?_
 refine cS (fun v9 v10 v11 => ?_)
 refine aU ?_
 refine cQ (fun b6 h17 => ?_); subst h17
 refine aB 2 rfl (fun hc_v9 => ?_)
 refine aB 3 rfl (fun hc_v11 => ?_)
 revert H; refine B4 fun r10 H e10 => ?_
 cases e10; cases Hr1
 refine cG ?_
 refine bF ?_
 refine aV ?_
 refine bF ?_
 refine bF ?_
 refine cD (x := (⟨(⟨y14.CodeProg.Free, y14.CodeProg.Defs, y14.CodeProg.Code, y14.CodeProg.Main⟩ : CodeProg), y14.begins, y14.last, y14.levels, y14.todo⟩ : Code_checker)) ?_
 cases H
 refine gP ?_
 refine aD [0] (by decide) ?_
 exact cJ (.inl rfl) rfl rfl
 refine Tp (gA _ _ _ _ _ h16).pan ?_
 revert H; refine B3 fun r11 H e11 => ?_
 cases e11; cases Hr1
 cases H
 exact bC
 refine Tp (aN _ _ h15).pan ?_
 revert H; refine B3 fun r12 H e12 => ?_
 cases e12; cases Hr1
 cases H
 exact bC
 exact fk
 kernel_rfl
 revert H; refine I5 (fun c11 H => ?_) fun c11 H => ?_
 refine Z3 ?_
 refine aV ?_
 refine kN (x := (⟨((a0.levels.get a1).getD (⟨0, 0⟩ : CodeLevel)).Stack, ((a0.levels.get a1).getD (⟨0, 0⟩ : CodeLevel)).Slots⟩ : CodeLevel)) ?_
 revert H; refine bs fun y15 h18 H => ?_
 rcases y15 with y15 | pv12 <;> dsimp only at H
 refine kC trivial rfl rfl rfl (has rfl) aI.nil rfl (cb rfl) (lR b3 (⟨((a0.levels.get a1).getD (⟨0, 0⟩ : CodeLevel)).Stack, ((a0.levels.get a1).getD (⟨0, 0⟩ : CodeLevel)).Slots⟩ : CodeLevel) (Sum.inl y15) h18).s rfl ?_
 refine kX ?_
 refine Z1 ?_
 refine aM ?_
 revert H; refine bs fun y16 h19 H => ?_
 apply cL (ods := [_, _, _, _, _, _, _, _, _, _, _]) 11 1 6 cK rfl rfl rfl
 refine ND ?_
 refine M8 ?_
 intros
 refine M1 ?_
 intros
 refine Mn 5 (fun b7 => ptr b7) (fun b7 => aA b7 63 [fEq (.slice none 0 0), fEq (.slice none 0 0), fEq (.slice none 0 0)]) rfl (dL rfl xE rfl) (fun b7 u3 => ?_)
 refine yC (od := od1 9 [5] true (fun b7 _ => fAny) (fun b7 _ => [aA b7 63 [fSl bG y16.Chans, fSl bM y16.Spots, fSl bN y16.Rules]])) (p := 5) (φs' := [fSl bG y16.Chans, fSl bM y16.Spots, fSl bN y16.Rules]) rfl (fun _ => rfl) (fun _ => rfl) trivial rfl rfl rfl (has rfl) (has rfl) (aP (dT) (aP (dT) (aP (dT) bY))) (sz rfl) rfl rfl rfl (fun _ => ?_)
 revert H; refine B11 fun z1 h20 H => ?_
 revert H; refine B1 fun z2 h21 H => ?_
 refine Z2 ?_
 refine dJ (φs' := [fI y15.Stack, fI z2]) trivial rfl rfl (has rfl) (has rfl) (aK trivial) (sz rfl) rfl rfl ?_
 refine Z6 ?_
 refine aU ?_
 refine cG ?_
 refine aL ?_
 refine aV ?_
 refine aL ?_
 refine aL ?_
 refine cD (x := (⟨(⟨a0.CodeProg.Free, a0.CodeProg.Defs, a0.CodeProg.Code, a0.CodeProg.Main⟩ : CodeProg), a0.begins, a0.last, a0.levels, a0.todo⟩ : Code_checker)) ?_
 revert H; refine bs fun y17 h22 H => ?_
 rcases y17 with y17 | pv13 <;> dsimp only at H
 refine Tc (aAg _ _ _ _ _ _ h22).s ?_
 refine cS (fun v12 v13 v14 => ?_)
 refine aU ?_
 refine cQ (fun b8 h23 => ?_); subst h23
 refine aB 2 rfl (fun hc_v12 => ?_)
 refine aB 3 rfl (fun hc_v14 => ?_)
 refine Z3 ?_
 refine aD [4, 1, 0, 2, 3] (by decide) ?_
 exact Tm ((y15.Stack, z2, y17.CodeProg.Free, y17.CodeProg.Defs, y17.CodeProg.Code, y17.CodeProg.Main, y17.begins, y17.last, y17.levels, y17.todo, v12, b8, v14)) (ij H)
 refine Tp (aAg _ _ _ _ _ _ h22).pan ?_
 revert H; refine B2 fun r13 H e13 => ?_
 cases e13; cases Hr1
 cases H
 exact bC
 exact fk
 kernel_rfl
 refine nV trivial rfl (has rfl) aI.nil rfl (cb rfl) (lR b3 (⟨((a0.levels.get a1).getD (⟨0, 0⟩ : CodeLevel)).Stack, ((a0.levels.get a1).getD (⟨0, 0⟩ : CodeLevel)).Slots⟩ : CodeLevel) (Sum.inr pv12) h18).pan rfl ?_
 revert H; refine B3 fun r14 H e14 => ?_
 cases e14; cases Hr1
 cases H
 exact bC
 revert H; refine I5 (fun c12 H => ?_) fun c12 H => ?_
 revert H; refine B7 fun y18 h24 H => ?_
 rcases y18 with y18 | pv14 <;> dsimp only at H
 refine Tc (aN _ _ h24).s ?_
 refine Z5 ?_
 refine aV ?_
 refine dJ (φs' := [fI (((a0.levels.get a1).getD (⟨0, 0⟩ : CodeLevel)).Stack), fI ((⟨y1.Op, y1.A, y1.B⟩ : CodeIns).A)]) trivial rfl rfl (has rfl) (has rfl) (aK trivial) (sz rfl) rfl rfl ?_
 refine Z3 ?_
 exact Tm ((((a0.levels.get a1).getD (⟨0, 0⟩ : CodeLevel)).Stack, (⟨y1.Op, y1.A, y1.B⟩ : CodeIns).A, a0.CodeProg.Free, a0.CodeProg.Defs, a0.CodeProg.Code, a0.CodeProg.Main, a0.begins, a0.last, a0.levels, a0.todo, v1, b1, v3)) (ij H)
 refine Tp (aN _ _ h24).pan ?_
 revert H; refine B3 fun r15 H e15 => ?_
 cases e15; cases Hr1
 cases H
 exact bC
 revert H; refine B1 fun o3 H Hr3 => ?_
 refine aQ (ι := Bool) (fun i => o3 = i) (fun i => [(0, fEq (ptr p0)), (1, fI a1), (4, bI aG (⟨y1.Op, y1.A, y1.B⟩ : CodeIns)), (5, fEq (ptr b3)), (6, eJ 119 [bI aG (⟨y1.Op, y1.A, y1.B⟩ : CodeIns), fEq (ptr b3)]), (7, eJ 120 [fEq (ptr b3)]), (26, fI ((⟨y1.Op, y1.A, y1.B⟩ : CodeIns).Op)), (131, aH i)]) (fun i => [aA p0 90 [fI a0.CodeProg.Free, fSl aF a0.CodeProg.Defs, fSl aG a0.CodeProg.Code, fI a0.CodeProg.Main, fSl tI a0.begins, fEq v1, fEq (.map (some b1)), fEq v3], aA b3 79 [fI (((a0.levels.get a1).getD (⟨0, 0⟩ : CodeLevel)).Stack), fI (((a0.levels.get a1).getD (⟨0, 0⟩ : CodeLevel)).Slots)], bB aX (fun y => fSt aO y) b1 a0.levels, aC v1 3 tI a0.last, aC v3 3 tI a0.todo]) ?_ ?_
 revert H; refine I4 (fun c13 H => ?_) fun c13 H => ?_
 refine Z3 ?_
 exact Tm (decide (((⟨y1.Op, y1.A, y1.B⟩ : CodeIns).Op) = 13)) (ij H)
 refine Z5 ?_
 exact Tm (decide (((⟨y1.Op, y1.A, y1.B⟩ : CodeIns).Op) = 15)) (ij H)
 clear H; intro x12 hi; subst o3; have H := Hr3; clear Hr3; try dsimp only at H
 try dsimp only
 revert H; refine cs (fun c14 H => ?_) fun c14 H => ?_
 refine Z3 ?_
 refine aV ?_
 refine kN (x := (⟨((a0.levels.get a1).getD (⟨0, 0⟩ : CodeLevel)).Stack, ((a0.levels.get a1).getD (⟨0, 0⟩ : CodeLevel)).Slots⟩ : CodeLevel)) ?_
 revert H; refine bs fun y19 h25 H => ?_
 rcases y19 with y19 | pv15 <;> dsimp only at H
 refine kC trivial rfl rfl rfl (has rfl) aI.nil rfl (cb rfl) (oM b3 (⟨y1.Op, y1.A, y1.B⟩ : CodeIns) (⟨((a0.levels.get a1).getD (⟨0, 0⟩ : CodeLevel)).Stack, ((a0.levels.get a1).getD (⟨0, 0⟩ : CodeLevel)).Slots⟩ : CodeLevel) (Sum.inl y19) h25).s rfl ?_
 refine kX ?_
 refine Z3 ?_
 refine kN (x := (⟨y19.Stack, y19.Slots⟩ : CodeLevel)) ?_
 revert H; refine bs fun y20 h26 H => ?_
 rcases y20 with y20 | pv16 <;> dsimp only at H
 refine kC trivial rfl rfl rfl (has rfl) aI.nil rfl (cb rfl) (lR b3 (⟨y19.Stack, y19.Slots⟩ : CodeLevel) (Sum.inl y20) h26).s rfl ?_
 refine kX ?_
 refine Z7 ?_
 refine Yy (iG (ψs := [fI 0, fI y20.Slots]) rfl mQ rfl (bO.cons (has rfl) (dU (aK trivial)) bO.nil) rfl) ?_
 refine aU ?_
 refine cG ?_
 refine aL ?_
 refine aV ?_
 refine aL ?_
 refine aL ?_
 refine cD (x := (⟨(⟨a0.CodeProg.Free, a0.CodeProg.Defs, a0.CodeProg.Code, a0.CodeProg.Main⟩ : CodeProg), a0.begins, a0.last, a0.levels, a0.todo⟩ : Code_checker)) ?_
 revert H; refine bs fun y21 h27 H => ?_
 rcases y21 with y21 | pv17 <;> dsimp only at H
 refine Tc (gA _ _ _ _ _ h27).s ?_
 refine cS (fun v15 v16 v17 => ?_)
 refine aU ?_
 refine cQ (fun b9 h28 => ?_); subst h28
 refine aB 2 rfl (fun hc_v15 => ?_)
 refine aB 3 rfl (fun hc_v17 => ?_)
 refine Z3 ?_
 refine aD [4, 1, 0, 2, 3] (by decide) ?_
 exact Tm ((y20.Stack, y20.Slots, y21.CodeProg.Free, y21.CodeProg.Defs, y21.CodeProg.Code, y21.CodeProg.Main, y21.begins, y21.last, y21.levels, y21.todo, v15, b9, v17)) (ij H)
 refine Tp (gA _ _ _ _ _ h27).pan ?_
 revert H; refine B2 fun r16 H e16 => ?_
 cases e16; cases Hr1
 cases H
 exact bC
 refine nV trivial rfl (has rfl) aI.nil rfl (cb rfl) (lR b3 (⟨y19.Stack, y19.Slots⟩ : CodeLevel) (Sum.inr pv16) h26).pan rfl ?_
 revert H; refine B3 fun r17 H e17 => ?_
 cases e17; cases Hr1
 cases H
 exact bC
 refine nV trivial rfl (has rfl) aI.nil rfl (cb rfl) (oM b3 (⟨y1.Op, y1.A, y1.B⟩ : CodeIns) (⟨((a0.levels.get a1).getD (⟨0, 0⟩ : CodeLevel)).Stack, ((a0.levels.get a1).getD (⟨0, 0⟩ : CodeLevel)).Slots⟩ : CodeLevel) (Sum.inr pv15) h25).pan rfl ?_
 revert H; refine B3 fun r18 H e18 => ?_
 cases e18; cases Hr1
 cases H
 exact bC
 revert H; refine I5 (fun c15 H => ?_) fun c15 H => ?_
 refine Z3 ?_
 refine aV ?_
 refine kN (x := (⟨((a0.levels.get a1).getD (⟨0, 0⟩ : CodeLevel)).Stack, ((a0.levels.get a1).getD (⟨0, 0⟩ : CodeLevel)).Slots⟩ : CodeLevel)) ?_
 revert H; refine bs fun y22 h29 H => ?_
 rcases y22 with y22 | pv18 <;> dsimp only at H
 refine kC trivial rfl rfl rfl (has rfl) aI.nil rfl (cb rfl) (lR b3 (⟨((a0.levels.get a1).getD (⟨0, 0⟩ : CodeLevel)).Stack, ((a0.levels.get a1).getD (⟨0, 0⟩ : CodeLevel)).Slots⟩ : CodeLevel) (Sum.inl y22) h29).s rfl ?_
 refine kX ?_
 refine Z3 ?_
 exact Tm ((y22.Stack, y22.Slots, a0.CodeProg.Free, a0.CodeProg.Defs, a0.CodeProg.Code, a0.CodeProg.Main, a0.begins, a0.last, a0.levels, a0.todo, v1, b1, v3)) (ij H)
 refine nV trivial rfl (has rfl) aI.nil rfl (cb rfl) (lR b3 (⟨((a0.levels.get a1).getD (⟨0, 0⟩ : CodeLevel)).Stack, ((a0.levels.get a1).getD (⟨0, 0⟩ : CodeLevel)).Slots⟩ : CodeLevel) (Sum.inr pv18) h29).pan rfl ?_
 revert H; refine B2 fun r19 H e19 => ?_
 cases e19; cases Hr1
 cases H
 exact bC
 revert H; refine I5 (fun c16 H => ?_) fun c16 H => ?_
 refine Z3 ?_
 refine aV ?_
 refine kN (x := (⟨((a0.levels.get a1).getD (⟨0, 0⟩ : CodeLevel)).Stack, ((a0.levels.get a1).getD (⟨0, 0⟩ : CodeLevel)).Slots⟩ : CodeLevel)) ?_
 revert H; refine bs fun y23 h30 H => ?_
 rcases y23 with y23 | pv19 <;> dsimp only at H
 refine kC trivial rfl rfl rfl (has rfl) aI.nil rfl (cb rfl) (lR b3 (⟨((a0.levels.get a1).getD (⟨0, 0⟩ : CodeLevel)).Stack, ((a0.levels.get a1).getD (⟨0, 0⟩ : CodeLevel)).Slots⟩ : CodeLevel) (Sum.inl y23) h30).s rfl ?_
 refine kX ?_
 revert H; refine B4 fun r20 H e20 => ?_
 cases e20; cases Hr1
 refine aU ?_
 refine cG ?_
 refine aL ?_
 refine aV ?_
 refine aL ?_
 refine aL ?_
 refine cD (x := (⟨(⟨a0.CodeProg.Free, a0.CodeProg.Defs, a0.CodeProg.Code, a0.CodeProg.Main⟩ : CodeProg), a0.begins, a0.last, a0.levels, a0.todo⟩ : Code_checker)) ?_
 cases H
 refine gP ?_
 refine aD [0] (by decide) ?_
 exact cJ (.inl rfl) rfl rfl
 refine nV trivial rfl (has rfl) aI.nil rfl (cb rfl) (lR b3 (⟨((a0.levels.get a1).getD (⟨0, 0⟩ : CodeLevel)).Stack, ((a0.levels.get a1).getD (⟨0, 0⟩ : CodeLevel)).Slots⟩ : CodeLevel) (Sum.inr pv19) h30).pan rfl ?_
 revert H; refine B3 fun r21 H e21 => ?_
 cases e21; cases Hr1
 cases H
 exact bC
 refine Z4 ?_
 refine aD [1, 0, 2, 3, 4] (by decide) ?_
 exact Tm ((((a0.levels.get a1).getD (⟨0, 0⟩ : CodeLevel)).Stack, ((a0.levels.get a1).getD (⟨0, 0⟩ : CodeLevel)).Slots, a0.CodeProg.Free, a0.CodeProg.Defs, a0.CodeProg.Code, a0.CodeProg.Main, a0.begins, a0.last, a0.levels, a0.todo, v1, b1, v3)) (ij H)
 clear H; intro i hi; obtain ⟨x1, x2, x3, x4, x5, x6, x7, x8, x9, x10, v4, b4, v5⟩ := i; subst o1; have H := Hr1; clear Hr1; try dsimp only at H
 try dsimp only
 refine aB 3 rfl (fun hc_v4 => ?_)
 refine aB 4 rfl (fun hc_v5 => ?_)
 revert H; refine B3 fun z3 h31 H => ?_
 refine Z2 ?_
 refine aU ?_
 refine cG ?_
 refine aL ?_
 refine aV ?_
 refine aL ?_
 refine aL ?_
 refine cD (x := (⟨(⟨x3, x4, x5, x6⟩ : CodeProg), x7, x8, x9, x10⟩ : Code_checker)) ?_
 revert H; refine bs fun y24 h32 H => ?_
 rcases y24 with y24 | pv20 <;> dsimp only at H
 refine Tc (gA _ _ _ _ _ h32).s ?_
 refine cS (fun v18 v19 v20 => ?_)
 refine aU ?_
 refine cQ (fun b10 h33 => ?_); subst h33
 refine aB 2 rfl (fun hc_v18 => ?_)
 refine aB 3 rfl (fun hc_v20 => ?_)
 refine Z1 ?_
 refine cG ?_
 refine bF ?_
 refine aV ?_
 refine bF ?_
 refine bF ?_
 refine cD (x := (⟨(⟨y24.CodeProg.Free, y24.CodeProg.Defs, y24.CodeProg.Code, y24.CodeProg.Main⟩ : CodeProg), y24.begins, y24.last, y24.levels, y24.todo⟩ : Code_checker)) ?_
 cases H
 refine gP ?_
 refine aD [0] (by decide) ?_
 exact cJ (.inr rfl) rfl rfl
 refine Tp (gA _ _ _ _ _ h32).pan ?_
 cases H
 exact bC
 exact fk
 kernel_rfl
open Go.SX Go.SW Go.Dt
theorem aEc (p0 p1 : Nat) (φ0 φ1 : Fact) : FnD Tryz.prog 68 [fEq (ptr p0), fEq (ptr p1)] [aA p0 85 [φ0], aA p1 4 [φ1]] (.returning) [aA p0 85 [φ0], aA p1 4 [φ1]] := by
 refine FnD_of Tryz.func68 rfl Tryz.ntmps68 rfl (fun β c₀ cs hc => ?_)
 refine aCg (v := .nilIface) (cs' := c₀ :: cs) (by simp [recoverD, hc]) rfl rfl rfl rfl ?_
 refine T_inS ?_
 refine Z2 ?_
 refine Yy (aBx rfl hh aBG (rfl : pQ _ = some true)) ?_
 refine Z6 ?_
 exact T_endD (u' := .returning) (.inr rfl) rfl (by cases c₀; cases hc; rfl) rfl rfl
theorem hJ (p0 p1 : Nat) (φ0 φ1 : Fact) : FnD Tryz.prog 68 [fEq (ptr p0), fEq (ptr p1)] [aA p0 85 [φ0], aA p1 4 [φ1]] (.panicking [{ v := (.iface 163 (.agg #[])), recovered := false }]) [aA p0 85 [fEq (Go.Value.pointer Option.none)], aA p1 4 [aH false]] := by
 refine FnD_of Tryz.func68 rfl Tryz.ntmps68 rfl (fun β c₀ cs hc => ?_)
 refine aCg (v := (.iface 163 (.agg #[]))) (cs' := { c₀ with mode := .panicking [{ v := (.iface 163 (.agg #[])), recovered := true }] } :: cs) (by simp [recoverD, hc]) rfl rfl rfl rfl ?_
 refine T_inS ?_
 refine Z2 ?_
 refine Yy (aBx rfl hh aBG (rfl : pQ _ = some false)) ?_
 refine Z3 ?_
 refine Yy (aFa rfl hh aAE aE8) ?_
 refine Z2 ?_
 refine uA 10 rfl (pV []) ?_
 refine Z3 ?_
 refine Tn (dL rfl aEZ rfl) fun b1 => ?_
 refine dH (φs' := []) trivial rfl rfl hh hh bY (sz rfl) rfl rfl rfl ?_
 refine Z2 ?_
 refine aV ?_
 refine dJ (φs' := [fEq (Go.Value.pointer Option.none)]) trivial rfl rfl (has rfl) (has rfl) (aK trivial) (sz rfl) rfl rfl ?_
 refine aU ?_
 refine dJ (φs' := [aH false]) trivial rfl rfl (has rfl) (has rfl) (aK trivial) (sz rfl) rfl rfl ?_
 refine Z2 ?_
 refine aD [1, 0] (by decide) ?_
 exact T_endD (u' := .panicking [{ v := (.iface 163 (.agg #[])), recovered := true }]) (.inr rfl) rfl rfl rfl rfl
def lH (fuel : Nat) (a0 : CodeProg) : Nat → Int → Int → (List ScopeDef) → (List CodeIns) → Int → (List Int) → (List Int) → (aE Int CodeLevel) → (List Int) → Option ((Int × List ScopeDef × List CodeIns × Int × List Int × List Int × aE Int CodeLevel × List Int) ⊕ ((Option Code_checker) × Bool))
| 0, _, _, _, _, _, _, _, _, _ => none
| k + 1, x26, x27, x28, x29, x30, x31, x32, x33, x34 =>
 if x26 < (a0.Defs.length : Int) then
  (idx a0.Defs x26).bind fun y8 =>
  (sN fuel (⟨(⟨x27, x28, x29, x30⟩ : CodeProg), x31, x32, x33, x34⟩ : Code_checker) (⟨y8.Chans, y8.Spots, y8.Rules⟩ : ScopeDef)).bind fun y9 =>
  match y9 with
  | Sum.inr pv7 => ((unW 163 pv7).bind fun e14 => some (none, false)).bind fun r => some (Sum.inr r)
  | Sum.inl y9 =>
  (chk (x26 + 1)).bind fun z1 =>
  lH fuel a0 k z1 y9.CodeProg.Free y9.CodeProg.Defs y9.CodeProg.Code y9.CodeProg.Main y9.begins y9.last y9.levels y9.todo
 else
  some (Sum.inl (x27, x28, x29, x30, x31, x32, x33, x34))
def gV (fuel : Nat) : Nat → Int → (List ScopeDef) → (List CodeIns) → Int → (List Int) → (List Int) → (aE Int CodeLevel) → (List Int) → Option ((Int × List ScopeDef × List CodeIns × Int × List Int × List Int × aE Int CodeLevel × List Int) ⊕ ((Option Code_checker) × Bool))
| 0, _, _, _, _, _, _, _, _ => none
| k + 1, x51, x52, x53, x54, x55, x56, x57, x58 =>
 if 0 < (x58.length : Int) then
  (chk ((x58.length : Int) - 1)).bind fun z2 =>
  (idx x58 z2).bind fun y13 =>
  (chk ((x58.length : Int) - 1)).bind fun z3 =>
  (slc x58 0 z3).bind fun y14 =>
  (pA fuel (⟨(⟨x51, x52, x53, x54⟩ : CodeProg), x55, x56, x57, y14⟩ : Code_checker) y13).bind fun y15 =>
  match y15 with
  | Sum.inr pv11 => ((unW 163 pv11).bind fun e16 => some (none, false)).bind fun r => some (Sum.inr r)
  | Sum.inl y15 =>
  gV fuel k y15.CodeProg.Free y15.CodeProg.Defs y15.CodeProg.Code y15.CodeProg.Main y15.begins y15.last y15.levels y15.todo
 else
  some (Sum.inl (x51, x52, x53, x54, x55, x56, x57, x58))
def dY (fuel : Nat) (a0 : CodeProg) : Option ((Option Code_checker) × Bool) :=
 (if 0 ≤ a0.Free then
  if a0.Free ≤ 12 then
   if (a0.Defs.length : Int) ≤ 12 then
    if 0 < (a0.Code.length : Int) then
     if (a0.Code.length : Int) ≤ 12000 then
      (jB (⟨(⟨a0.Free, a0.Defs, a0.Code, a0.Main⟩ : CodeProg), [], [], (aE.none : aE Int CodeLevel), []⟩ : Code_checker) a0.Main).bind fun y1 =>
      (bH y1.2).bind fun y2 =>
      match y2 with
      | Sum.inr pv1 => ((unW 163 pv1).bind fun e2 => some (none, false)).bind fun r => some (Sum.inr r)
      | Sum.inl y2 =>
      some (Sum.inl (y1.1.CodeProg.Free, y1.1.CodeProg.Defs, y1.1.CodeProg.Code, y1.1.CodeProg.Main, y1.1.begins, y1.1.last, y1.1.levels, y1.1.todo))
     else
      (bH false).bind fun y3 =>
      match y3 with
      | Sum.inr pv2 => ((unW 163 pv2).bind fun e4 => some (none, false)).bind fun r => some (Sum.inr r)
      | Sum.inl y3 =>
      some (Sum.inl (a0.Free, a0.Defs, a0.Code, a0.Main, [], [], (aE.none : aE Int CodeLevel), []))
    else
     (bH false).bind fun y4 =>
     match y4 with
     | Sum.inr pv3 => ((unW 163 pv3).bind fun e6 => some (none, false)).bind fun r => some (Sum.inr r)
     | Sum.inl y4 =>
     some (Sum.inl (a0.Free, a0.Defs, a0.Code, a0.Main, [], [], (aE.none : aE Int CodeLevel), []))
   else
    (bH false).bind fun y5 =>
    match y5 with
    | Sum.inr pv4 => ((unW 163 pv4).bind fun e8 => some (none, false)).bind fun r => some (Sum.inr r)
    | Sum.inl y5 =>
    some (Sum.inl (a0.Free, a0.Defs, a0.Code, a0.Main, [], [], (aE.none : aE Int CodeLevel), []))
  else
   (bH false).bind fun y6 =>
   match y6 with
   | Sum.inr pv5 => ((unW 163 pv5).bind fun e10 => some (none, false)).bind fun r => some (Sum.inr r)
   | Sum.inl y6 =>
   some (Sum.inl (a0.Free, a0.Defs, a0.Code, a0.Main, [], [], (aE.none : aE Int CodeLevel), []))
 else
  (bH false).bind fun y7 =>
  match y7 with
  | Sum.inr pv6 => ((unW 163 pv6).bind fun e12 => some (none, false)).bind fun r => some (Sum.inr r)
  | Sum.inl y7 =>
  some (Sum.inl (a0.Free, a0.Defs, a0.Code, a0.Main, [], [], (aE.none : aE Int CodeLevel), []))).bind fun o => match o with
 | Sum.inr r => some r
 | Sum.inl (x1, x2, x3, x4, x5, x6, x7, x8) =>
 (lH fuel a0 fuel 0 x1 x2 x3 x4 x5 x6 x7 x8).bind fun o => match o with
 | Sum.inr r => some r
 | Sum.inl (x9, x10, x11, x12, x13, x14, x15, x16) =>
 (qX fuel (⟨(⟨x9, x10, x11, x12⟩ : CodeProg), x13, x14, x15, x16⟩ : Code_checker)).bind fun y10 =>
 match y10 with
 | Sum.inr pv8 => (unW 163 pv8).bind fun e20 => some (none, false)
 | Sum.inl y10 =>
 (jU fuel (⟨(⟨y10.CodeProg.Free, y10.CodeProg.Defs, y10.CodeProg.Code, y10.CodeProg.Main⟩ : CodeProg), y10.begins, y10.last, y10.levels, y10.todo⟩ : Code_checker)).bind fun y11 =>
 match y11 with
 | Sum.inr pv9 => (unW 163 pv9).bind fun e19 => some (none, false)
 | Sum.inl y11 =>
 (iU (⟨(⟨y11.CodeProg.Free, y11.CodeProg.Defs, y11.CodeProg.Code, y11.CodeProg.Main⟩ : CodeProg), y11.begins, y11.last, y11.levels, y11.todo⟩ : Code_checker) a0.Main (⟨0, a0.Free⟩ : CodeLevel)).bind fun y12 =>
 match y12 with
 | Sum.inr pv10 => (unW 163 pv10).bind fun e18 => some (none, false)
 | Sum.inl y12 =>
 (gV fuel fuel y12.CodeProg.Free y12.CodeProg.Defs y12.CodeProg.Code y12.CodeProg.Main y12.begins y12.last y12.levels y12.todo).bind fun o => match o with
 | Sum.inr r => some r
 | Sum.inl (x35, x36, x37, x38, x39, x40, x41, x42) =>
 (bH (decide ((x41.size : Int) = (a0.Code.length : Int)))).bind fun y16 =>
 match y16 with
 | Sum.inr pv12 => (unW 163 pv12).bind fun e17 => some (none, false)
 | Sum.inl y16 =>
 some (some (⟨(⟨x35, x36, x37, x38⟩ : CodeProg), x39, x40, x41, x42⟩ : Code_checker), true)
theorem aAG (fuel : Nat)  (a0 : CodeProg) (r : (Option Code_checker) × Bool) (H : dY fuel a0 = some r) : FnS Tryz.prog 31 [fSt eR a0] [] (dQ [fOpt vP r.1, aH r.2]) (fun _ => []) := by
 unfold dY at H
 refine FnS_ofM Tryz.func31 rfl Tryz.ntmps31 rfl (fun β => ?_)
 refine Z1 ?_
 refine Tn (dD rfl hh cV) fun b1 => ?_
 refine Tn (dL rfl ty_ze_85 rfl) fun b2 => ?_
 refine Tn (dL rfl vO rfl) fun b3 => ?_
 refine Z2 ?_
 refine Yy (o_clo rfl (aI.cons hh (aI.cons hh aI.nil))) ?_
 refine T_deferC (vs := [ptr b2, ptr b3]) trivial rfl rfl (has rfl) ?_
 refine Z3 ?_
 refine Tn (yQ (fun y => fSt aO y) aX rfl) fun b4 => ?_
 refine Yy (iG (ψs := [fI a0.Free, fSl aF a0.Defs, fSl aG a0.Code, fI a0.Main, fEq (.slice none 0 0), fEq (.slice none 0 0), fEq (.map (some b4)), fEq (.slice none 0 0)]) rfl ty_bu_90 rfl (bO.cons (has rfl) cV (bO.cons (has rfl) (dU (aK trivial)) bO.nil)) rfl) ?_
 refine Tn (dD rfl hh cV) fun b5 => ?_
 refine bF ?_
 refine dJ (φs' := [fEq (ptr b5)]) trivial rfl rfl (has rfl) (has rfl) (aK trivial) (sz rfl) rfl rfl ?_
 revert H; refine B1 fun o1 H Hr1 => ?_
 refine aQ (ι := Int × List ScopeDef × List CodeIns × Int × List Int × List Int × aE Int CodeLevel × List Int × Value × Nat × Value) (fun i => o1 = Sum.inl (i.1, i.2.1, i.2.2.1, i.2.2.2.1, i.2.2.2.2.1, i.2.2.2.2.2.1, i.2.2.2.2.2.2.1, i.2.2.2.2.2.2.2.1)) (fun i => [(1, fEq (ptr b1)), (2, fEq (ptr b2)), (3, fEq (ptr b3))]) (fun i => [aA b5 90 [fI i.1, fSl aF i.2.1, fSl aG i.2.2.1, fI i.2.2.2.1, fSl tI i.2.2.2.2.1, fEq i.2.2.2.2.2.2.2.2.1, fEq (.map (some i.2.2.2.2.2.2.2.2.2.1)), fEq i.2.2.2.2.2.2.2.2.2.2], aA b2 85 [fEq (ptr b5)], aA b3 4 [aH false], aA b1 25 [fI a0.Free, fSl aF a0.Defs, fSl aG a0.Code, fI a0.Main], bB aX (fun y => fSt aO y) i.2.2.2.2.2.2.2.2.2.1 i.2.2.2.2.2.2.1, aC i.2.2.2.2.2.2.2.2.1 3 tI i.2.2.2.2.2.1, aC i.2.2.2.2.2.2.2.2.2.2 3 tI i.2.2.2.2.2.2.2.1]) ?_ ?_
 revert H; refine I5 (fun c1 H => ?_) fun c1 H => ?_
 revert H; refine I5 (fun c2 H => ?_) fun c2 H => ?_
 revert H; refine I6 (fun c3 H => ?_) fun c3 H => ?_
 revert H; refine I6 (fun c4 H => ?_) fun c4 H => ?_
 revert H; refine I6 (fun c5 H => ?_) fun c5 H => ?_
 refine Z3 ?_
 refine fD tI 3 ?_
 refine fD tI 3 ?_
 refine bF ?_
 refine oG (ψs := [fI (((⟨(⟨a0.Free, a0.Defs, a0.Code, a0.Main⟩ : CodeProg), [], [], (aE.none : aE Int CodeLevel), []⟩ : Code_checker).CodeProg).Free), fSl aF (((⟨(⟨a0.Free, a0.Defs, a0.Code, a0.Main⟩ : CodeProg), [], [], (aE.none : aE Int CodeLevel), []⟩ : Code_checker).CodeProg).Defs), fSl aG (((⟨(⟨a0.Free, a0.Defs, a0.Code, a0.Main⟩ : CodeProg), [], [], (aE.none : aE Int CodeLevel), []⟩ : Code_checker).CodeProg).Code), fI (((⟨(⟨a0.Free, a0.Defs, a0.Code, a0.Main⟩ : CodeProg), [], [], (aE.none : aE Int CodeLevel), []⟩ : Code_checker).CodeProg).Main), fSl tI ((⟨(⟨a0.Free, a0.Defs, a0.Code, a0.Main⟩ : CodeProg), [], [], (aE.none : aE Int CodeLevel), []⟩ : Code_checker).begins), fEq (.slice none 0 0), fEq (.map (some b4)), fEq (.slice none 0 0)]) (aJ.cons Ent.rfl (aJ.cons Ent.rfl (aJ.cons Ent.rfl (aJ.cons Ent.rfl (aJ.cons iJ (aJ.cons Ent.rfl (aJ.cons Ent.rfl (aJ.cons Ent.rfl aJ.nil)))))))) ?_
 refine aL ?_
 refine cG ?_
 refine aU ?_
 refine aV ?_
 refine bF ?_
 refine bF ?_
 refine cD (x := (⟨(⟨a0.Free, a0.Defs, a0.Code, a0.Main⟩ : CodeProg), [], [], (aE.none : aE Int CodeLevel), []⟩ : Code_checker)) ?_
 revert H; refine bs fun y1 h1 H => ?_
 refine Tc (qO _ _ _ _ h1) ?_
 refine cS (fun v3 v4 v5 => ?_)
 refine aU ?_
 refine cQ (fun b7 h2 => ?_); subst h2
 refine aB 2 rfl (fun hc_v3 => ?_)
 refine aB 3 rfl (fun hc_v5 => ?_)
 revert H; refine B1 fun y2 h3 H => ?_
 rcases y2 with y2 | pv1 <;> dsimp only at H
 refine Tc (aN _ _ h3).s ?_
 refine Z1 ?_
 refine aD [1, 4, 5, 6, 0, 2, 3] (by decide) ?_
 exact Tm ((y1.1.CodeProg.Free, y1.1.CodeProg.Defs, y1.1.CodeProg.Code, y1.1.CodeProg.Main, y1.1.begins, y1.1.last, y1.1.levels, y1.1.todo, v3, b7, v5)) (ij H)
 refine Tp (aN _ _ h3).pan ?_
 revert H; refine B1 fun r1 H e1 => ?_
 cases e1; cases Hr1
 have H0 := H; clear H; obtain ⟨e2, h4, H⟩ := bind_some H0; clear H0; have hv_e2 := gY h4; subst hv_e2
 cases H
 refine aD [4, 5] (by decide) ?_
 exact hZ (gQ (vs := [ptr b2, ptr b3]) (u := .panicking [{ v := .iface 163 (.agg #[]), recovered := false }]) (by simp) (cb rfl) (hJ _ _ _ _) rfl (gR rfl rfl rfl (sc rfl) (sc rfl) hO Ent.rfl))
 revert H; refine B5 fun y3 h5 H => ?_
 rcases y3 with y3 | pv2 <;> dsimp only at H
 refine Tc (aN _ _ h5).s ?_
 refine Z1 ?_
 refine fD tI 3 ?_
 refine fD tI 3 ?_
 refine bF ?_
 refine oG (ψs := [fI a0.Free, fSl aF a0.Defs, fSl aG a0.Code, fI a0.Main, fSl tI [], fEq (.slice none 0 0), fEq (.map (some b4)), fEq (.slice none 0 0)]) (aJ.cons Ent.rfl (aJ.cons Ent.rfl (aJ.cons Ent.rfl (aJ.cons Ent.rfl (aJ.cons iJ (aJ.cons Ent.rfl (aJ.cons Ent.rfl (aJ.cons Ent.rfl aJ.nil)))))))) ?_
 refine aD [0, 3, 5, 6, 4, 2, 1] (by decide) ?_
 exact Tm ((a0.Free, a0.Defs, a0.Code, a0.Main, [], [], (aE.none : aE Int CodeLevel), [], (.slice none 0 0), b4, (.slice none 0 0))) (ij H)
 refine Tp (aN _ _ h5).pan ?_
 revert H; refine B1 fun r2 H e3 => ?_
 cases e3; cases Hr1
 have H0 := H; clear H; obtain ⟨e4, h6, H⟩ := bind_some H0; clear H0; have hv_e4 := gY h6; subst hv_e4
 cases H
 refine aD [0, 3] (by decide) ?_
 exact hZ (gQ (vs := [ptr b2, ptr b3]) (u := .panicking [{ v := .iface 163 (.agg #[]), recovered := false }]) (by simp) (cb rfl) (hJ _ _ _ _) rfl (gR rfl rfl rfl (sc rfl) (sc rfl) hO Ent.rfl))
 revert H; refine B11 fun y4 h7 H => ?_
 rcases y4 with y4 | pv3 <;> dsimp only at H
 refine Tc (aN _ _ h7).s ?_
 refine Z1 ?_
 refine fD tI 3 ?_
 refine fD tI 3 ?_
 refine bF ?_
 refine oG (ψs := [fI a0.Free, fSl aF a0.Defs, fSl aG a0.Code, fI a0.Main, fSl tI [], fEq (.slice none 0 0), fEq (.map (some b4)), fEq (.slice none 0 0)]) (aJ.cons Ent.rfl (aJ.cons Ent.rfl (aJ.cons Ent.rfl (aJ.cons Ent.rfl (aJ.cons iJ (aJ.cons Ent.rfl (aJ.cons Ent.rfl (aJ.cons Ent.rfl aJ.nil)))))))) ?_
 refine aD [0, 3, 5, 6, 4, 2, 1] (by decide) ?_
 exact Tm ((a0.Free, a0.Defs, a0.Code, a0.Main, [], [], (aE.none : aE Int CodeLevel), [], (.slice none 0 0), b4, (.slice none 0 0))) (ij H)
 refine Tp (aN _ _ h7).pan ?_
 revert H; refine B1 fun r3 H e5 => ?_
 cases e5; cases Hr1
 have H0 := H; clear H; obtain ⟨e6, h8, H⟩ := bind_some H0; clear H0; have hv_e6 := gY h8; subst hv_e6
 cases H
 refine aD [0, 3] (by decide) ?_
 exact hZ (gQ (vs := [ptr b2, ptr b3]) (u := .panicking [{ v := .iface 163 (.agg #[]), recovered := false }]) (by simp) (cb rfl) (hJ _ _ _ _) rfl (gR rfl rfl rfl (sc rfl) (sc rfl) hO Ent.rfl))
 refine Z12 ?_
 revert H; refine B5 fun y5 h9 H => ?_
 rcases y5 with y5 | pv4 <;> dsimp only at H
 refine Tc (aN _ _ h9).s ?_
 refine Z1 ?_
 refine fD tI 3 ?_
 refine fD tI 3 ?_
 refine bF ?_
 refine oG (ψs := [fI a0.Free, fSl aF a0.Defs, fSl aG a0.Code, fI a0.Main, fSl tI [], fEq (.slice none 0 0), fEq (.map (some b4)), fEq (.slice none 0 0)]) (aJ.cons Ent.rfl (aJ.cons Ent.rfl (aJ.cons Ent.rfl (aJ.cons Ent.rfl (aJ.cons iJ (aJ.cons Ent.rfl (aJ.cons Ent.rfl (aJ.cons Ent.rfl aJ.nil)))))))) ?_
 refine aD [0, 3, 5, 6, 4, 2, 1] (by decide) ?_
 exact Tm ((a0.Free, a0.Defs, a0.Code, a0.Main, [], [], (aE.none : aE Int CodeLevel), [], (.slice none 0 0), b4, (.slice none 0 0))) (ij H)
 refine Tp (aN _ _ h9).pan ?_
 revert H; refine B1 fun r4 H e7 => ?_
 cases e7; cases Hr1
 have H0 := H; clear H; obtain ⟨e8, h10, H⟩ := bind_some H0; clear H0; have hv_e8 := gY h10; subst hv_e8
 cases H
 refine aD [0, 3] (by decide) ?_
 exact hZ (gQ (vs := [ptr b2, ptr b3]) (u := .panicking [{ v := .iface 163 (.agg #[]), recovered := false }]) (by simp) (cb rfl) (hJ _ _ _ _) rfl (gR rfl rfl rfl (sc rfl) (sc rfl) hO Ent.rfl))
 refine Z12 ?_
 revert H; refine B11 fun y6 h11 H => ?_
 rcases y6 with y6 | pv5 <;> dsimp only at H
 refine Tc (aN _ _ h11).s ?_
 refine Z1 ?_
 refine fD tI 3 ?_
 refine fD tI 3 ?_
 refine bF ?_
 refine oG (ψs := [fI a0.Free, fSl aF a0.Defs, fSl aG a0.Code, fI a0.Main, fSl tI [], fEq (.slice none 0 0), fEq (.map (some b4)), fEq (.slice none 0 0)]) (aJ.cons Ent.rfl (aJ.cons Ent.rfl (aJ.cons Ent.rfl (aJ.cons Ent.rfl (aJ.cons iJ (aJ.cons Ent.rfl (aJ.cons Ent.rfl (aJ.cons Ent.rfl aJ.nil)))))))) ?_
 refine aD [0, 3, 5, 6, 4, 2, 1] (by decide) ?_
 exact Tm ((a0.Free, a0.Defs, a0.Code, a0.Main, [], [], (aE.none : aE Int CodeLevel), [], (.slice none 0 0), b4, (.slice none 0 0))) (ij H)
 refine Tp (aN _ _ h11).pan ?_
 revert H; refine B1 fun r5 H e9 => ?_
 cases e9; cases Hr1
 have H0 := H; clear H; obtain ⟨e10, h12, H⟩ := bind_some H0; clear H0; have hv_e10 := gY h12; subst hv_e10
 cases H
 refine aD [0, 3] (by decide) ?_
 exact hZ (gQ (vs := [ptr b2, ptr b3]) (u := .panicking [{ v := .iface 163 (.agg #[]), recovered := false }]) (by simp) (cb rfl) (hJ _ _ _ _) rfl (gR rfl rfl rfl (sc rfl) (sc rfl) hO Ent.rfl))
 refine Z12 ?_
 refine Z12 ?_
 revert H; refine B4 fun y7 h13 H => ?_
 rcases y7 with y7 | pv6 <;> dsimp only at H
 refine Tc (aN _ _ h13).s ?_
 refine Z1 ?_
 refine fD tI 3 ?_
 refine fD tI 3 ?_
 refine bF ?_
 refine oG (ψs := [fI a0.Free, fSl aF a0.Defs, fSl aG a0.Code, fI a0.Main, fSl tI [], fEq (.slice none 0 0), fEq (.map (some b4)), fEq (.slice none 0 0)]) (aJ.cons Ent.rfl (aJ.cons Ent.rfl (aJ.cons Ent.rfl (aJ.cons Ent.rfl (aJ.cons iJ (aJ.cons Ent.rfl (aJ.cons Ent.rfl (aJ.cons Ent.rfl aJ.nil)))))))) ?_
 refine aD [0, 3, 5, 6, 4, 2, 1] (by decide) ?_
 exact Tm ((a0.Free, a0.Defs, a0.Code, a0.Main, [], [], (aE.none : aE Int CodeLevel), [], (.slice none 0 0), b4, (.slice none 0 0))) (ij H)
 refine Tp (aN _ _ h13).pan ?_
 revert H; refine B1 fun r6 H e11 => ?_
 cases e11; cases Hr1
 have H0 := H; clear H; obtain ⟨e12, h14, H⟩ := bind_some H0; clear H0; have hv_e12 := gY h14; subst hv_e12
 cases H
 refine aD [0, 3] (by decide) ?_
 exact hZ (gQ (vs := [ptr b2, ptr b3]) (u := .panicking [{ v := .iface 163 (.agg #[]), recovered := false }]) (by simp) (cb rfl) (hJ _ _ _ _) rfl (gR rfl rfl rfl (sc rfl) (sc rfl) hO Ent.rfl))
 clear H; intro i hi; obtain ⟨x1, x2, x3, x4, x5, x6, x7, x8, v1, b6, v2⟩ := i; subst o1; have H := Hr1; clear Hr1; try dsimp only at H
 try dsimp only
 refine aB 5 rfl (fun hc_v1 => ?_)
 refine aB 6 rfl (fun hc_v2 => ?_)
 revert H; refine bs fun o2 H Hr2 => ?_
 refine aQ (ι := Int × List ScopeDef × List CodeIns × Int × List Int × List Int × aE Int CodeLevel × List Int × Value × Nat × Value) (fun i => o2 = Sum.inl (i.1, i.2.1, i.2.2.1, i.2.2.2.1, i.2.2.2.2.1, i.2.2.2.2.2.1, i.2.2.2.2.2.2.1, i.2.2.2.2.2.2.2.1)) (fun i => [(1, fEq (ptr b1)), (2, fEq (ptr b2)), (3, fEq (ptr b3))]) (fun i => [aA b5 90 [fI i.1, fSl aF i.2.1, fSl aG i.2.2.1, fI i.2.2.2.1, fSl tI i.2.2.2.2.1, fEq i.2.2.2.2.2.2.2.2.1, fEq (.map (some i.2.2.2.2.2.2.2.2.2.1)), fEq i.2.2.2.2.2.2.2.2.2.2], aA b2 85 [fEq (ptr b5)], aA b3 4 [aH false], aA b1 25 [fI a0.Free, fSl aF a0.Defs, fSl aG a0.Code, fI a0.Main], bB aX (fun y => fSt aO y) i.2.2.2.2.2.2.2.2.2.1 i.2.2.2.2.2.2.1, aC i.2.2.2.2.2.2.2.2.1 3 tI i.2.2.2.2.2.1, aC i.2.2.2.2.2.2.2.2.2.2 3 tI i.2.2.2.2.2.2.2.1]) ?_ ?_
 refine Z7 ?_
 refine Tl (ι := Nat × Int × Int × List ScopeDef × List CodeIns × Int × List Int × List Int × aE Int CodeLevel × List Int × Value × Nat × Value) (fun i => lH fuel a0 i.1 i.2.1 i.2.2.1 i.2.2.2.1 i.2.2.2.2.1 i.2.2.2.2.2.1 i.2.2.2.2.2.2.1 i.2.2.2.2.2.2.2.1 i.2.2.2.2.2.2.2.2.1 i.2.2.2.2.2.2.2.2.2.1 = _) (fun i => i.1) (fun i => [(1, fEq (ptr b1)), (2, fEq (ptr b2)), (3, fEq (ptr b3)), (46, fSl aF a0.Defs), (47, fI (a0.Defs.length : Int)), (48, fI i.2.1)]) (fun i => [aA b5 90 [fI i.2.2.1, fSl aF i.2.2.2.1, fSl aG i.2.2.2.2.1, fI i.2.2.2.2.2.1, fSl tI i.2.2.2.2.2.2.1, fEq i.2.2.2.2.2.2.2.2.2.2.1, fEq (.map (some i.2.2.2.2.2.2.2.2.2.2.2.1)), fEq i.2.2.2.2.2.2.2.2.2.2.2.2], aA b2 85 [fEq (ptr b5)], aA b3 4 [aH false], aA b1 25 [fI a0.Free, fSl aF a0.Defs, fSl aG a0.Code, fI a0.Main], bB aX (fun y => fSt aO y) i.2.2.2.2.2.2.2.2.2.2.2.1 i.2.2.2.2.2.2.2.2.1, aC i.2.2.2.2.2.2.2.2.2.2.1 3 tI i.2.2.2.2.2.2.2.1, aC i.2.2.2.2.2.2.2.2.2.2.2.2 3 tI i.2.2.2.2.2.2.2.2.2.1]) (fuel, 0, x1, x2, x3, x4, x5, x6, x7, x8, v1, b6, v2) H ?_
 clear H; rintro ⟨k1, x26, x27, x28, x29, x30, x31, x32, x33, x34, v10, b10, v11⟩ H
 replace H : lH fuel a0 k1 x26 x27 x28 x29 x30 x31 x32 x33 x34 = _ := H
 try dsimp only
 obtain _ | k1 := k1
 rw [lH] at H; cases H
 rw [lH] at H
 refine aB 5 rfl (fun hc_v10 => ?_)
 refine aB 6 rfl (fun hc_v11 => ?_)
 refine Z3 ?_
 refine aM ?_
 revert H; refine is (fun c6 H => ?_) fun c6 H => ?_
 refine Z3 ?_
 refine aM ?_
 revert H; refine B2 fun y8 h15 H => ?_
 refine Z2 ?_
 refine Tn (dL rfl xE rfl) fun b11 => ?_
 refine dH (φs' := [fSl bG y8.Chans, fSl bM y8.Spots, fSl bN y8.Rules]) trivial rfl rfl (has rfl) (has rfl) (aP (dT) (aP (dT) (aP (dT) bY))) (sz rfl) rfl rfl rfl ?_
 refine Z4 ?_
 refine fF ?_
 refine cG ?_
 refine T_fr7 ?_
 refine aV ?_
 refine T_fr7 ?_
 refine aL ?_
 refine cD (x := (⟨(⟨x27, x28, x29, x30⟩ : CodeProg), x31, x32, x33, x34⟩ : Code_checker)) ?_
 revert H; refine bs fun y9 h16 H => ?_
 rcases y9 with y9 | pv7 <;> dsimp only at H
 refine Tc (aCe _ _ _ _ _ h16).s ?_
 refine cS (fun v12 v13 v14 => ?_)
 refine aU ?_
 refine cQ (fun b12 h17 => ?_); subst h17
 refine aB 2 rfl (fun hc_v12 => ?_)
 refine aB 3 rfl (fun hc_v14 => ?_)
 revert H; refine B4 fun z1 h18 H => ?_
 refine Z3 ?_
 refine aD [1, 5, 6, 7, 0, 2, 3] (by decide) ?_
 exact Tm ((k1, z1, y9.CodeProg.Free, y9.CodeProg.Defs, y9.CodeProg.Code, y9.CodeProg.Main, y9.begins, y9.last, y9.levels, y9.todo, v12, b12, v14)) ⟨H, ls⟩
 refine Tp (aCe _ _ _ _ _ h16).pan ?_
 revert H; refine B5 fun r7 H e13 => ?_
 cases e13; cases Hr2
 have H0 := H; clear H; obtain ⟨e14, h19, H⟩ := bind_some H0; clear H0; have hv_e14 := gY h19; subst hv_e14
 cases H
 refine aD [1, 2] (by decide) ?_
 exact hZ (gQ (vs := [ptr b2, ptr b3]) (u := .panicking [{ v := .iface 163 (.agg #[]), recovered := false }]) (by simp) (cb rfl) (hJ _ _ _ _) rfl (gR rfl rfl rfl (sc rfl) (sc rfl) hO Ent.rfl))
 refine Z6 ?_
 exact Tm ((x27, x28, x29, x30, x31, x32, x33, x34, v10, b10, v11)) (ij H)
 clear H; intro i hi; obtain ⟨x9, x10, x11, x12, x13, x14, x15, x16, v6, b8, v7⟩ := i; subst o2; have H := Hr2; clear Hr2; try dsimp only at H
 try dsimp only
 refine aB 5 rfl (fun hc_v6 => ?_)
 refine aB 6 rfl (fun hc_v7 => ?_)
 refine Z2 ?_
 refine aL ?_
 refine cG ?_
 refine nU ?_
 refine aV ?_
 refine nU ?_
 refine bF ?_
 refine cD (x := (⟨(⟨x9, x10, x11, x12⟩ : CodeProg), x13, x14, x15, x16⟩ : Code_checker)) ?_
 revert H; refine bs fun y10 h20 H => ?_
 rcases y10 with y10 | pv8 <;> dsimp only at H
 refine Tc (aCA _ _ _ _ h20).s ?_
 refine cS (fun v15 v16 v17 => ?_)
 refine aU ?_
 refine cQ (fun b13 h21 => ?_); subst h21
 refine aB 2 rfl (fun hc_v15 => ?_)
 refine aB 3 rfl (fun hc_v17 => ?_)
 refine Z3 ?_
 refine cG ?_
 refine bF ?_
 refine aV ?_
 refine bF ?_
 refine bF ?_
 refine cD (x := (⟨(⟨y10.CodeProg.Free, y10.CodeProg.Defs, y10.CodeProg.Code, y10.CodeProg.Main⟩ : CodeProg), y10.begins, y10.last, y10.levels, y10.todo⟩ : Code_checker)) ?_
 revert H; refine bs fun y11 h22 H => ?_
 rcases y11 with y11 | pv9 <;> dsimp only at H
 refine Tc (aCj _ _ _ _ h22).s ?_
 refine cS (fun v18 v19 v20 => ?_)
 refine aU ?_
 refine cQ (fun b14 h23 => ?_); subst h23
 refine aB 2 rfl (fun hc_v18 => ?_)
 refine aB 3 rfl (fun hc_v20 => ?_)
 refine Z7 ?_
 refine Yy (iG (ψs := [fI 0, fI a0.Free]) rfl mQ rfl (bO.cons (has rfl) (dU (aK trivial)) bO.nil) rfl) ?_
 refine cG ?_
 refine bF ?_
 refine aV ?_
 refine bF ?_
 refine bF ?_
 refine cD (x := (⟨(⟨y11.CodeProg.Free, y11.CodeProg.Defs, y11.CodeProg.Code, y11.CodeProg.Main⟩ : CodeProg), y11.begins, y11.last, y11.levels, y11.todo⟩ : Code_checker)) ?_
 revert H; refine bs fun y12 h24 H => ?_
 rcases y12 with y12 | pv10 <;> dsimp only at H
 refine Tc (gA _ _ _ _ _ h24).s ?_
 refine cS (fun v21 v22 v23 => ?_)
 refine aU ?_
 refine cQ (fun b15 h25 => ?_); subst h25
 refine aB 2 rfl (fun hc_v21 => ?_)
 refine aB 3 rfl (fun hc_v23 => ?_)
 revert H; refine B1 fun o3 H Hr3 => ?_
 refine aQ (ι := Int × List ScopeDef × List CodeIns × Int × List Int × List Int × aE Int CodeLevel × List Int × Value × Nat × Value) (fun i => o3 = Sum.inl (i.1, i.2.1, i.2.2.1, i.2.2.2.1, i.2.2.2.2.1, i.2.2.2.2.2.1, i.2.2.2.2.2.2.1, i.2.2.2.2.2.2.2.1)) (fun i => [(1, fEq (ptr b1)), (2, fEq (ptr b2)), (3, fEq (ptr b3))]) (fun i => [aA b5 90 [fI i.1, fSl aF i.2.1, fSl aG i.2.2.1, fI i.2.2.2.1, fSl tI i.2.2.2.2.1, fEq i.2.2.2.2.2.2.2.2.1, fEq (.map (some i.2.2.2.2.2.2.2.2.2.1)), fEq i.2.2.2.2.2.2.2.2.2.2], aA b2 85 [fEq (ptr b5)], aA b3 4 [aH false], aA b1 25 [fI a0.Free, fSl aF a0.Defs, fSl aG a0.Code, fI a0.Main], bB aX (fun y => fSt aO y) i.2.2.2.2.2.2.2.2.2.1 i.2.2.2.2.2.2.1, aC i.2.2.2.2.2.2.2.2.1 3 tI i.2.2.2.2.2.1, aC i.2.2.2.2.2.2.2.2.2.2 3 tI i.2.2.2.2.2.2.2.1]) ?_ ?_
 refine Z1 ?_
 refine aD [1, 4, 5, 6, 0, 2, 3] (by decide) ?_
 refine Tl (ι := Nat × Int × List ScopeDef × List CodeIns × Int × List Int × List Int × aE Int CodeLevel × List Int × Value × Nat × Value) (fun i => gV fuel i.1 i.2.1 i.2.2.1 i.2.2.2.1 i.2.2.2.2.1 i.2.2.2.2.2.1 i.2.2.2.2.2.2.1 i.2.2.2.2.2.2.2.1 i.2.2.2.2.2.2.2.2.1 = _) (fun i => i.1) (fun i => [(1, fEq (ptr b1)), (2, fEq (ptr b2)), (3, fEq (ptr b3))]) (fun i => [aA b5 90 [fI i.2.1, fSl aF i.2.2.1, fSl aG i.2.2.2.1, fI i.2.2.2.2.1, fSl tI i.2.2.2.2.2.1, fEq i.2.2.2.2.2.2.2.2.2.1, fEq (.map (some i.2.2.2.2.2.2.2.2.2.2.1)), fEq i.2.2.2.2.2.2.2.2.2.2.2], aA b2 85 [fEq (ptr b5)], aA b3 4 [aH false], aA b1 25 [fI a0.Free, fSl aF a0.Defs, fSl aG a0.Code, fI a0.Main], bB aX (fun y => fSt aO y) i.2.2.2.2.2.2.2.2.2.2.1 i.2.2.2.2.2.2.2.1, aC i.2.2.2.2.2.2.2.2.2.1 3 tI i.2.2.2.2.2.2.1, aC i.2.2.2.2.2.2.2.2.2.2.2 3 tI i.2.2.2.2.2.2.2.2.1]) (fuel, y12.CodeProg.Free, y12.CodeProg.Defs, y12.CodeProg.Code, y12.CodeProg.Main, y12.begins, y12.last, y12.levels, y12.todo, v21, b15, v23) H ?_
 clear H; rintro ⟨k2, x51, x52, x53, x54, x55, x56, x57, x58, v28, b18, v29⟩ H
 replace H : gV fuel k2 x51 x52 x53 x54 x55 x56 x57 x58 = _ := H
 try dsimp only
 obtain _ | k2 := k2
 rw [gV] at H; cases H
 rw [gV] at H
 refine aB 5 rfl (fun hc_v28 => ?_)
 refine aB 6 rfl (fun hc_v29 => ?_)
 refine aM ?_
 revert H; refine I8 (fun c7 H => ?_) fun c7 H => ?_
 refine Z4 ?_
 refine aM ?_
 revert H; refine bs fun z2 h26 H => ?_
 revert H; refine bs fun y13 h27 H => ?_
 apply cL (ods := [_, _, _, _, _, _, _, _, _, _, _, _, _]) 13 0 7 cK rfl rfl rfl
 refine ND ?_
 refine M8 ?_
 intros
 refine M3 ?_
 intros
 refine Mo 6 rfl (iQ rfl rfl hh (sc rfl) (dF h27) rfl) fun _ => ?_
 refine M1 ?_
 intros
 refine Z2 ?_
 refine aM ?_
 revert H; refine bs fun z3 h28 H => ?_
 revert H; refine bs fun y14 h29 H => ?_
 apply cL (ods := [_, _, _, _, _, _, _, _, _, _, _, _, _, _]) 14 0 7 cK rfl rfl rfl
 refine ND ?_
 refine M8 ?_
 intros
 refine M3 ?_
 intros
 refine Mo 6 rfl (aCl rfl hh hh (el rfl) h29) fun _ => ?_
 refine M2 ?_
 intros
 refine Z1 ?_
 refine nU ?_
 refine T_cut 96 rfl h29 (fun v30 => ?_)
 refine aB 0 rfl (fun hc_v30 => ?_)
 refine aV ?_
 refine dJ (φs' := [fI x51, fSl aF x52, fSl aG x53, fI x54, fSl tI x55, fEq v28, fEq (.map (some b18)), fEq v30]) trivial rfl rfl (has rfl) (has rfl) (aK hc_v30) (sz rfl) rfl rfl ?_
 refine Z4 ?_
 refine fF ?_
 refine cG ?_
 refine aU ?_
 refine aV ?_
 refine nU ?_
 refine bF ?_
 refine cD (x := (⟨(⟨x51, x52, x53, x54⟩ : CodeProg), x55, x56, x57, y14⟩ : Code_checker)) ?_
 revert H; refine bs fun y15 h30 H => ?_
 rcases y15 with y15 | pv11 <;> dsimp only at H
 refine Tc (aAy _ _ _ _ _ h30).s ?_
 refine cS (fun v31 v32 v33 => ?_)
 refine aU ?_
 refine cQ (fun b19 h31 => ?_); subst h31
 refine aB 2 rfl (fun hc_v31 => ?_)
 refine aB 3 rfl (fun hc_v33 => ?_)
 refine Z3 ?_
 refine aD [1, 4, 5, 6, 0, 2, 3] (by decide) ?_
 exact Tm ((k2, y15.CodeProg.Free, y15.CodeProg.Defs, y15.CodeProg.Code, y15.CodeProg.Main, y15.begins, y15.last, y15.levels, y15.todo, v31, b19, v33)) ⟨H, ls⟩
 refine Tp (aAy _ _ _ _ _ h30).pan ?_
 revert H; refine B4 fun r8 H e15 => ?_
 cases e15; cases Hr3
 have H0 := H; clear H; obtain ⟨e16, h32, H⟩ := bind_some H0; clear H0; have hv_e16 := gY h32; subst hv_e16
 cases H
 refine aD [0, 1] (by decide) ?_
 exact hZ (gQ (vs := [ptr b2, ptr b3]) (u := .panicking [{ v := .iface 163 (.agg #[]), recovered := false }]) (by simp) (cb rfl) (hJ _ _ _ _) rfl (gR rfl rfl rfl (sc rfl) (sc rfl) hO Ent.rfl))
 exact fk
 kernel_rfl
 exact fk
 kernel_rfl
 refine Z6 ?_
 exact Tm ((x51, x52, x53, x54, x55, x56, x57, x58, v28, b18, v29)) (ij H)
 clear H; intro i hi; obtain ⟨x35, x36, x37, x38, x39, x40, x41, x42, v24, b16, v25⟩ := i; subst o3; have H := Hr3; clear Hr3; try dsimp only at H
 try dsimp only
 refine aB 5 rfl (fun hc_v24 => ?_)
 refine aB 6 rfl (fun hc_v25 => ?_)
 refine aM ?_
 apply cL (ods := [_, _, _, _, _, _, _, _, _]) 9 0 7 cK rfl rfl rfl
 refine ND ?_
 refine M4 ?_
 intros
 refine Mo 4 rfl (zM rfl hh rH) fun _ => ?_
 refine M4 ?_
 intros
 revert H; refine B1 fun y16 h33 H => ?_
 rcases y16 with y16 | pv12 <;> dsimp only at H
 refine Tc (aN _ _ h33).s ?_
 refine Z3 ?_
 refine aV ?_
 refine dJ (φs' := [fEq (ptr b5)]) trivial rfl rfl (has rfl) (has rfl) (aK trivial) (sz rfl) rfl rfl ?_
 refine aU ?_
 refine dJ (φs' := [aH true]) trivial rfl rfl (has rfl) (has rfl) (aK trivial) (sz rfl) rfl rfl ?_
 refine Z2 ?_
 refine fF ?_
 refine iT (φ := fSl tI x40) (v := v24) [] nB (fun _ h => nomatch h) ?_
 refine bF ?_
 refine aV ?_
 refine qE (φs' := [fI x35, fSl aF x36, fSl aG x37, fI x38, fSl tI x39, fSl tI x40, fEq (.map (some b16)), fEq v25]) (i := 5) rfl rfl ?_
 refine iI ?_
 refine aL ?_
 refine iT (φ := fMap aX (fun y => fSt aO y) x41) (v := .map (some b16)) [105] frz_map fz ?_
 refine qE (φs' := [fI x35, fSl aF x36, fSl aG x37, fI x38, fSl tI x39, fSl tI x40, fMap aX (fun y => fSt aO y) x41, fEq v25]) (i := 6) rfl rfl ?_
 refine iI ?_
 refine aL ?_
 refine iT (φ := fSl tI x42) (v := v25) [] nB (fun _ h => nomatch h) ?_
 refine qE (φs' := [fI x35, fSl aF x36, fSl aG x37, fI x38, fSl tI x39, fSl tI x40, fMap aX (fun y => fSt aO y) x41, fSl tI x42]) (i := 7) rfl rfl ?_
 refine iI ?_
 refine iT (φ := bI vP (⟨(⟨x35, x36, x37, x38⟩ : CodeProg), x39, x40, x41, x42⟩ : Code_checker)) (v := ptr b5) [102, 103, 112] (wH aJ.rfl) fz ?_
 refine aU ?_
 refine aV ?_
 refine qE (φs' := [bI vP (⟨(⟨x35, x36, x37, x38⟩ : CodeProg), x39, x40, x41, x42⟩ : Code_checker)]) (i := 0) rfl rfl ?_
 refine iI ?_
 cases H
 refine aD [0, 1] (by decide) ?_
 exact aDf (gQ (vs := [ptr b2, ptr b3]) (u := .returning) (by simp) (cb rfl) (aEc _ _ _ _) rfl (gR rfl rfl rfl (sc rfl) (sc rfl) aAP Ent.rfl))
 refine Tp (aN _ _ h33).pan ?_
 refine Z1 ?_
 have H0 := H; clear H; obtain ⟨e17, h34, H⟩ := bind_some H0; clear H0; have hv_e17 := gY h34; subst hv_e17
 cases H
 refine aD [1, 2] (by decide) ?_
 exact hZ (gQ (vs := [ptr b2, ptr b3]) (u := .panicking [{ v := .iface 163 (.agg #[]), recovered := false }]) (by simp) (cb rfl) (hJ _ _ _ _) rfl (gR rfl rfl rfl (sc rfl) (sc rfl) hO Ent.rfl))
 exact fk
 kernel_rfl
 refine Tp (gA _ _ _ _ _ h24).pan ?_
 refine Z1 ?_
 have H0 := H; clear H; obtain ⟨e18, h35, H⟩ := bind_some H0; clear H0; have hv_e18 := gY h35; subst hv_e18
 cases H
 refine aD [0, 1] (by decide) ?_
 exact hZ (gQ (vs := [ptr b2, ptr b3]) (u := .panicking [{ v := .iface 163 (.agg #[]), recovered := false }]) (by simp) (cb rfl) (hJ _ _ _ _) rfl (gR rfl rfl rfl (sc rfl) (sc rfl) hO Ent.rfl))
 refine Tp (aCj _ _ _ _ h22).pan ?_
 refine Z1 ?_
 have H0 := H; clear H; obtain ⟨e19, h36, H⟩ := bind_some H0; clear H0; have hv_e19 := gY h36; subst hv_e19
 cases H
 refine aD [0, 1] (by decide) ?_
 exact hZ (gQ (vs := [ptr b2, ptr b3]) (u := .panicking [{ v := .iface 163 (.agg #[]), recovered := false }]) (by simp) (cb rfl) (hJ _ _ _ _) rfl (gR rfl rfl rfl (sc rfl) (sc rfl) hO Ent.rfl))
 refine Tp (aCA _ _ _ _ h20).pan ?_
 refine Z1 ?_
 have H0 := H; clear H; obtain ⟨e20, h37, H⟩ := bind_some H0; clear H0; have hv_e20 := gY h37; subst hv_e20
 cases H
 refine aD [0, 1] (by decide) ?_
 exact hZ (gQ (vs := [ptr b2, ptr b3]) (u := .panicking [{ v := .iface 163 (.agg #[]), recovered := false }]) (by simp) (cb rfl) (hJ _ _ _ _) rfl (gR rfl rfl rfl (sc rfl) (sc rfl) hO Ent.rfl))
def kB (a0 : CodeProg) (y1 : (Option Code_checker) × Bool) : Nat → (List CodeLevel) → Int → Option (List CodeLevel)
| 0, _, _ => none
| k + 1, x4, x5 =>
 if x5 < (a0.Code.length : Int) then
  (y1.1).bind fun y2 =>
  (eK (x4 ++ [((y2.levels.get x5).getD (⟨0, 0⟩ : CodeLevel))])).bind fun z1 =>
  (chk (x5 + 1)).bind fun z2 =>
  kB a0 y1 k z1 z2
 else
  some x4
def oD (fuel : Nat) (a0 : CodeProg) : Option ((List CodeLevel) × Int) :=
 (dY fuel (⟨a0.Free, a0.Defs, a0.Code, a0.Main⟩ : CodeProg)).bind fun y1 =>
 bif y1.2 then
  (kB a0 y1 fuel [] 0).bind fun x1 =>
  some (x1, 0)
 else
  some ([], 2)
theorem aEM (fuel : Nat)  (a0 : CodeProg) (r : (List CodeLevel) × Int) (H : oD fuel a0 = some r) : FnS Tryz.prog 10 [fSt eR a0] [] (dQ [fSl aO r.1, fI r.2]) (fun _ => []) := by
 unfold oD at H
 refine cF Tryz.func10 rfl Tryz.ntmps10 rfl (fun β => ?_)
 refine Z1 ?_
 refine Tn (dD rfl hh cV) fun b1 => ?_
 revert H; refine B5 fun y1 h1 H => ?_
 refine Tc (aAG _ _ _ h1) ?_
 refine Z6 ?_
 refine aM ?_
 refine Z4 ?_
 revert H; refine cs (fun c1 H => ?_) fun c1 H => ?_
 revert H; refine B6 fun o1 H Hr1 => ?_
 refine aQ (ι := List CodeLevel × Value) (fun i => o1 = i.1) (fun i => [(6, fEq i.2)]) (fun i => [aA b1 25 [fI a0.Free, fSl aF a0.Defs, fSl aG a0.Code, fI a0.Main], aC i.2 79 aO i.1]) ?_ ?_
 refine Z7 ?_
 refine fD aO 79 ?_
 refine aD [1, 0] (by decide) ?_
 refine Tl (ι := Nat × List CodeLevel × Int × Value) (fun i => kB a0 y1 i.1 i.2.1 i.2.2.1 = _) (fun i => i.1) (fun i => [(4, fOpt vP y1.1), (6, fEq i.2.2.2), (17, fI (a0.Code.length : Int)), (18, fI i.2.2.1)]) (fun i => [aA b1 25 [fI a0.Free, fSl aF a0.Defs, fSl aG a0.Code, fI a0.Main], aC i.2.2.2 79 aO i.2.1]) (fuel, [], 0, (.slice none 0 0)) H ?_
 clear H; rintro ⟨k1, x4, x5, v3⟩ H
 replace H : kB a0 y1 k1 x4 x5 = _ := H
 try dsimp only
 obtain _ | k1 := k1
 rw [kB] at H; cases H
 rw [kB] at H
 refine aB 1 rfl (fun hc_v3 => ?_)
 refine Z3 ?_
 refine aM ?_
 revert H; refine is (fun c2 H => ?_) fun c2 H => ?_
 refine Z3 ?_
 refine aM ?_
 revert H; refine B8 fun y2 h2 H => ?_
 refine uA 4 rfl (aBT h2) ?_
 refine uA 22 rfl (aBT h2) ?_
 refine Z1 ?_
 refine Yy (fY (t' := (tMapD aX (fun y => fSt aO y))) (z := y2.levels) rfl (has rfl) (fa rfl) rfl) ?_
 refine Z2 ?_
 refine Yy (o_lookup (zα := (⟨0, 0⟩ : CodeLevel)) (k := x5) rfl hh hh rfl rH (pV [(.int .i64 0), (.int .i64 0)])) ?_
 refine Tn (gJ (t := aO) (xs := [((y2.levels.get x5).getD (⟨0, 0⟩ : CodeLevel))]) rfl (et rfl) (cB.cons rfl hh cV cB.nil) rfl rfl rfl) fun b2 => ?_
 generalize (Value.slice (some ⟨b2, 0, none⟩) _ _) = v4
 refine aB 0 rfl (fun hc_v4 => ?_)
 revert H; refine bs fun z1 h3 H => ?_
 refine aU ?_
 refine aV ?_
 refine jR trivial rfl rfl rfl (has rfl) (has rfl) (et rfl) rfl h3 (fun v5 => ?_)
 refine aB 0 rfl (fun hc_v5 => ?_)
 revert H; refine B5 fun z2 h4 H => ?_
 refine Z3 ?_
 refine aD [1, 0] (by decide) ?_
 exact cE ((k1, z1, z2, v5)) ⟨H, ls⟩ (bE.cons (hasSE rfl (aDr h2)) (Sc (Sc (Sc bE.nil)))) rfl
 refine Z6 ?_
 exact Tm ((x4, v3)) (ij H)
 clear H; intro i hi; obtain ⟨x1, v1⟩ := i; subst o1; have H := Hr1; clear Hr1; try dsimp only at H
 try dsimp only
 refine aB 1 rfl (fun hc_v1 => ?_)
 refine Z6 ?_
 refine aV ?_
 refine iT (φ := fSl aO x1) (v := v1) [6, 31, 2] nB fz ?_
 refine iI ?_
 cases H
 refine aD [] (by decide) ?_
 exact sY rfl (cP rfl) (cP rfl) rfl
 refine Z6 ?_
 cases H
 refine aD [] (by decide) ?_
 exact sY rfl (hasSE rfl iJ) (cP rfl) rfl
def kM (a0 : List Int) (a1 : Int) : Nat → Int → Option ((Unit) ⊕ (Bool))
| 0, _ => none
| k + 1, x2 =>
 if x2 < (a0.length : Int) then
  (idx a0 x2).bind fun y1 =>
  if y1 = a1 then
   (some true).bind fun r => some (Sum.inr r)
  else
   (chk (x2 + 1)).bind fun z1 =>
   kM a0 a1 k z1
 else
  some (Sum.inl ())
def qZ (fuel : Nat) (a0 : List Int) (a1 : Int) : Option (Bool) :=
 (kM a0 a1 fuel 0).bind fun o => match o with
 | Sum.inr r => some r
 | Sum.inl _ =>
 some false
theorem aB3 (fuel : Nat)  (a0 : List Int) (a1 : Int) (r : Bool) (H : qZ fuel a0 a1 = some r) : FnS Tryz.prog 54 [fSl tI a0, fI a1] [] (aH r) (fun _ => []) := by
 unfold qZ at H
 refine cF Tryz.func54 rfl Tryz.ntmps54 rfl (fun β => ?_)
 revert H; refine B3 fun o1 H Hr1 => ?_
 refine aQ (ι := Unit) (fun i => o1 = Sum.inl ()) (fun i => []) (fun i => []) ?_ ?_
 refine Z4 ?_
 refine Tl (ι := Nat × Int) (fun i => kM a0 a1 i.1 i.2 = _) (fun i => i.1) (fun i => [(0, fSl tI a0), (1, fI a1), (5, fI i.2)]) (fun i => []) (fuel, 0) H ?_
 clear H; rintro ⟨k1, x2⟩ H
 replace H : kM a0 a1 k1 x2 = _ := H
 try dsimp only
 obtain _ | k1 := k1
 rw [kM] at H; cases H
 rw [kM] at H
 refine aM ?_
 revert H; refine I6 (fun c1 H => ?_) fun c1 H => ?_
 refine Z3 ?_
 refine aM ?_
 revert H; refine B4 fun y1 h1 H => ?_
 revert H; refine I5 (fun c2 H => ?_) fun c2 H => ?_
 revert H; refine B10 fun r1 H e1 => ?_
 cases e1; cases Hr1
 cases H
 exact To
 revert H; refine B6 fun z1 h2 H => ?_
 refine Z3 ?_
 exact Tm ((k1, z1)) ⟨H, ls⟩
 refine Z6 ?_
 exact Tm (()) (ij H)
 clear H; intro i hi; subst o1; have H := Hr1; clear Hr1; try dsimp only at H
 try dsimp only
 refine Z4 ?_
 cases H
 exact To
open Go.SX Go.SW Go.Dt
def lO (a0 : ScopeDef) : Nat → Int → Option ((Unit) ⊕ (Bool))
| 0, _ => none
| k + 1, x2 =>
 if x2 < (a0.Chans.length : Int) then
  (idx a0.Chans x2).bind fun y2 =>
  if y2.At < 0 then
   (some false).bind fun r => some (Sum.inr r)
  else
   (idx a0.Chans x2).bind fun y3 =>
   if (a0.Spots.length : Int) < y3.At then
    (some false).bind fun r => some (Sum.inr r)
   else
    (idx a0.Chans x2).bind fun y4 =>
    if y4.Many < 0 then
     (some false).bind fun r => some (Sum.inr r)
    else
     (idx a0.Chans x2).bind fun y5 =>
     if 3 < y5.Many then
      (some false).bind fun r => some (Sum.inr r)
     else
      (chk (x2 + 1)).bind fun z1 =>
      lO a0 k z1
 else
  some (Sum.inl ())
def lM (a0 : ScopeDef) : Nat → Int → Option ((Unit) ⊕ (Bool))
| 0, _ => none
| k + 1, x4 =>
 if x4 < (a0.Spots.length : Int) then
  (idx a0.Spots x4).bind fun y6 =>
  if y6.In < 0 then
   (some false).bind fun r => some (Sum.inr r)
  else
   (idx a0.Spots x4).bind fun y7 =>
   if x4 < y7.In then
    (some false).bind fun r => some (Sum.inr r)
   else
    (chk (x4 + 1)).bind fun z2 =>
    lM a0 k z2
 else
  some (Sum.inl ())
def lP (fuel : Nat) (a0 : ScopeDef) (y8 : ScopeRule) : Nat → (List Bool) → Int → Option ((List Bool) ⊕ ((List Bool) ⊕ (Bool)))
| 0, _, _ => none
| k + 1, x13, x14 =>
 if x14 < (y8.Joins.length : Int) then
  (idx y8.Joins x14).bind fun y9 =>
  if y9 < 0 then
   ((some false).bind fun r => some (Sum.inr r)).bind fun r => some (Sum.inr r)
  else
   if (a0.Chans.length : Int) ≤ y9 then
    ((some false).bind fun r => some (Sum.inr r)).bind fun r => some (Sum.inr r)
   else
    (slc y8.Joins 0 x14).bind fun y10 =>
    (qZ fuel y10 y9).bind fun y11 =>
    bif y11 then
     ((some false).bind fun r => some (Sum.inr r)).bind fun r => some (Sum.inr r)
    else
     (idx a0.Chans y9).bind fun y12 =>
     if y12.At ≠ y8.At then
      ((some false).bind fun r => some (Sum.inr r)).bind fun r => some (Sum.inr r)
     else
      (idx x13 y9).bind fun y13 =>
      (chk (x14 + 1)).bind fun z3 =>
      lP fuel a0 y8 k (x13.set y9.toNat true) z3
 else
  some (Sum.inl x13)
def kY (fuel : Nat) (a0 : ScopeDef) : Nat → (List Bool) → Int → Option ((List Bool) ⊕ (Bool))
| 0, _, _ => none
| k + 1, x8, x9 =>
 if x9 < (a0.Rules.length : Int) then
  ((idx a0.Rules x9).bind fun y8 =>
  if y8.At < 0 then
   ((some false).bind fun r => some (Sum.inr r)).bind fun r => some (Sum.inr r)
  else
   if (a0.Spots.length : Int) < y8.At then
    ((some false).bind fun r => some (Sum.inr r)).bind fun r => some (Sum.inr r)
   else
    if (y8.Joins.length : Int) < 1 then
     ((some false).bind fun r => some (Sum.inr r)).bind fun r => some (Sum.inr r)
    else
     if 3 < (y8.Joins.length : Int) then
      ((some false).bind fun r => some (Sum.inr r)).bind fun r => some (Sum.inr r)
     else
      lP fuel a0 y8 fuel x8 0).bind fun o => match o with
  | Sum.inr r => some r
  | Sum.inl x10 =>
  (chk (x9 + 1)).bind fun z4 =>
  kY fuel a0 k x10 z4
 else
  some (Sum.inl x8)
def jZ (x5 : List Bool) : Nat → Int → Option ((Unit) ⊕ (Bool))
| 0, _ => none
| k + 1, x16 =>
 if x16 < (x5.length : Int) then
  (idx x5 x16).bind fun y14 =>
  bif y14 then
   (chk (x16 + 1)).bind fun z5 =>
   jZ x5 k z5
  else
   (some false).bind fun r => some (Sum.inr r)
 else
  some (Sum.inl ())
def rT (fuel : Nat) (a0 : ScopeDef) : Option (Bool) :=
 if 30 < (a0.Chans.length : Int) then
  some false
 else
  if 30 < (a0.Spots.length : Int) then
   some false
  else
   if 30 < (a0.Rules.length : Int) then
    some false
   else
    (mk false (a0.Chans.length : Int)).bind fun y1 =>
    (lO a0 fuel 0).bind fun o => match o with
    | Sum.inr r => some r
    | Sum.inl _ =>
    (lM a0 fuel 0).bind fun o => match o with
    | Sum.inr r => some r
    | Sum.inl _ =>
    (kY fuel a0 fuel y1 0).bind fun o => match o with
    | Sum.inr r => some r
    | Sum.inl x5 =>
    (jZ x5 fuel 0).bind fun o => match o with
    | Sum.inr r => some r
    | Sum.inl _ =>
    some true
theorem aDs (fuel : Nat)  (a0 : ScopeDef) (r : Bool) (H : rT fuel a0 = some r) : FnS Tryz.prog 76 [fSt aF a0] [] (aH r) (fun _ => []) := by
 unfold rT at H
 refine cF Tryz.func76 rfl Tryz.ntmps76 rfl (fun β => ?_)
 refine Z1 ?_
 refine pM trivial rfl rfl (dD rfl (has rfl) cV) (fun b1 => ?_)
 refine Z2 ?_
 refine aM ?_
 refine Z6 ?_
 revert H; refine is (fun c1 H => ?_) fun c1 H => ?_
 refine Yt c1 ?_
 refine Yt c1 ?_
 refine Yt c1 ?_
 refine Yt c1 ?_
 refine Yy (dC rfl hh c1 hh) ?_
 refine Z12 ?_
 cases H
 refine aD [] (by decide) ?_
 exact eC rfl (cP rfl) rfl
 refine Yg c1 (bZ 1 rfl hh (fa rfl) rfl) ?_
 refine Yh 0 rfl c1 (bX rfl hh (sc rfl) rfl Ent.rfl) ?_
 refine Yg c1 (gU rfl hh (us rfl)) ?_
 refine Yg c1 (fK rfl hh hh) ?_
 refine Yy (bS rfl hh c1 hh) ?_
 refine Z1 ?_
 revert H; refine is (fun c2 H => ?_) fun c2 H => ?_
 refine Yt c2 ?_
 refine Yt c2 ?_
 refine Yt c2 ?_
 refine Yt c2 ?_
 refine Yy (dC rfl hh c2 hh) ?_
 refine Z6 ?_
 cases H
 refine aD [] (by decide) ?_
 exact eC rfl (cP rfl) rfl
 refine Yg c2 (bZ 2 rfl hh (fa rfl) rfl) ?_
 refine Yh 0 rfl c2 (bX rfl hh (sc rfl) rfl Ent.rfl) ?_
 refine Yg c2 (gU rfl hh (us rfl)) ?_
 refine Yg c2 (fK rfl hh hh) ?_
 refine Yy (bS rfl hh c2 hh) ?_
 refine Z1 ?_
 revert H; refine is (fun c3 H => ?_) fun c3 H => ?_
 refine dA hh c3 ?_
 refine Z4 ?_
 cases H
 refine aD [] (by decide) ?_
 exact eC rfl (cP rfl) rfl
 refine cX hh c3 ?_
 refine Z6 ?_
 revert H; refine bs fun y1 h1 H => ?_
 refine pM trivial rfl rfl (vB (t := eQ) (z := false) rfl (has rfl) (et rfl) rfl vO rfl h1) (fun b2 => ?_)
 generalize (Value.slice (some ⟨b2, 0, none⟩) _ _) = v1
 refine aB 0 rfl (fun hc_v1 => ?_)
 refine Z2 ?_
 revert H; refine bs fun o1 H Hr1 => ?_
 refine aQ (ι := Unit) (fun i => o1 = Sum.inl ()) (fun i => [(1, fEq (ptr b1)), (3, fEq v1)]) (fun i => [aA b1 63 [fSl bG a0.Chans, fSl bM a0.Spots, fSl bN a0.Rules], aC v1 4 eQ y1]) ?_ ?_
 refine Z4 ?_
 refine aD [1, 0] (by decide) ?_
 refine oP (ι := Nat × Int) (fun i => lO a0 i.1 i.2 = _) (fun i => i.1) (fun i => [(1, fEq (ptr b1)), (3, fEq v1), (4, fI i.2)]) (fun i => [aA b1 63 [fSl bG a0.Chans, fSl bM a0.Spots, fSl bN a0.Rules], aC v1 4 eQ y1]) (fuel, 0) H (Sc (Sc (Sc bE.nil))) rfl ?_
 clear H; rintro ⟨k1, x2⟩ H
 replace H : lO a0 k1 x2 = _ := H
 try dsimp only
 obtain _ | k1 := k1
 rw [lO] at H; cases H
 rw [lO] at H
 refine aM ?_
 refine Z7 ?_
 revert H; refine is (fun c4 H => ?_) fun c4 H => ?_
 refine dA hh c4 ?_
 refine Z2 ?_
 refine aM ?_
 refine Z1 ?_
 refine aM ?_
 revert H; refine bs fun y2 h2 H => ?_
 revert H; refine is (fun c5 H => ?_) fun c5 H => ?_
 apply cL (ods := [_, _, _, _, _, _, _, _, _, _, _, _, _, _, _, _, _, _, _, _, _, _, _, _, _, _, _, _, _, _, _, _, _, _, _, _, _]) 37 0 2 cK rfl rfl rfl
 refine ND ?_
 refine M3 ?_
 intros
 refine My (eE rfl hh hh (el rfl) h2) fun _ => ?_
 refine M4 ?_
 intros
 refine Mt c5 fun _ => ?_
 refine Mt c5 fun _ => ?_
 refine Mt c5 fun _ => ?_
 refine Mt c5 fun _ => ?_
 refine Mt c5 fun _ => ?_
 refine Mt c5 fun _ => ?_
 refine Mt c5 fun _ => ?_
 refine Mt c5 fun _ => ?_
 refine Mt c5 fun _ => ?_
 refine Mt c5 fun _ => ?_
 refine My (dC rfl hh c5 hh) fun _ => ?_
 refine M8 ?_
 intros
 refine M8 ?_
 intros
 refine M2 ?_
 intros
 refine Z12 ?_
 revert H; refine bs fun r1 H e1 => ?_
 have e1 := Option.some.inj e1; subst e1; have Hr1 := Option.some.inj Hr1; subst Hr1
 cases H
 refine aD [] (by decide) ?_
 exact eC rfl (cP rfl) rfl
 exact fk
 kernel_rfl
 revert H; refine bs fun y3 h3 H => ?_
 revert H; refine is (fun c6 H => ?_) fun c6 H => ?_
 apply cL (ods := [_, _, _, _, _, _, _, _, _, _, _, _, _, _, _, _, _, _, _, _, _, _, _, _, _, _, _, _, _, _, _, _, _, _, _, _, _]) 37 0 2 cK rfl rfl rfl
 refine ND ?_
 refine M3 ?_
 intros
 refine My (eE rfl hh hh (el rfl) h2) fun _ => ?_
 refine M4 ?_
 intros
 refine Mg c5 (bZ 0 rfl hh (fa rfl) rfl) fun _ => ?_
 refine eD (od := odC [0] false (fSl bG a0.Chans) [dE]) (ps := [0]) (φ := fSl bG a0.Chans) rfl (fun _ => rfl) ⟨_, _, rfl, rfl, c5⟩ rfl rfl (bX rfl hh (sc rfl) rfl Ent.rfl) (fun _ => ?_)
 refine Mg c5 (cU rfl hh) fun _ => ?_
 refine Mg c5 (eE rfl hh hh (el rfl) h3) fun _ => ?_
 refine Mg c5 (fY (t' := tI) (z := y3.At) rfl hh (fa rfl) rfl) fun _ => ?_
 refine Mg c5 (kA rfl hh (sc rfl) rfl) fun _ => ?_
 refine Mg c5 (bZ 1 rfl hh (fa rfl) rfl) fun _ => ?_
 refine eD (od := odC [0] false (fSl bM a0.Spots) [dE]) (ps := [0]) (φ := fSl bM a0.Spots) rfl (fun _ => rfl) ⟨_, _, rfl, rfl, c5⟩ rfl rfl (bX rfl hh (sc rfl) rfl Ent.rfl) (fun _ => ?_)
 refine Mg c5 (gU rfl hh (us rfl)) fun _ => ?_
 refine Mg c5 (fK rfl hh hh) fun _ => ?_
 refine My (bS rfl hh c5 hh) fun _ => ?_
 refine M1 ?_
 intros
 refine Mt c6 fun _ => ?_
 refine Mt c6 fun _ => ?_
 refine Mt c6 fun _ => ?_
 refine Mt c6 fun _ => ?_
 refine Mt c6 fun _ => ?_
 refine Mt c6 fun _ => ?_
 refine Mt c6 fun _ => ?_
 refine My (dC rfl hh c6 hh) fun _ => ?_
 refine M8 ?_
 intros
 refine M1 ?_
 intros
 refine Z12 ?_
 revert H; refine bs fun r2 H e2 => ?_
 have e2 := Option.some.inj e2; subst e2; have Hr1 := Option.some.inj Hr1; subst Hr1
 cases H
 refine aD [] (by decide) ?_
 exact eC rfl (cP rfl) rfl
 exact fk
 kernel_rfl
 revert H; refine bs fun y4 h4 H => ?_
 revert H; refine is (fun c7 H => ?_) fun c7 H => ?_
 apply cL (ods := [_, _, _, _, _, _, _, _, _, _, _, _, _, _, _, _, _, _, _, _, _, _, _, _, _, _, _, _, _, _, _, _, _, _, _, _, _]) 37 0 2 cK rfl rfl rfl
 refine ND ?_
 refine M3 ?_
 intros
 refine My (eE rfl hh hh (el rfl) h2) fun _ => ?_
 refine M4 ?_
 intros
 refine Mg c5 (bZ 0 rfl hh (fa rfl) rfl) fun _ => ?_
 refine eD (od := odC [0] false (fSl bG a0.Chans) [dE]) (ps := [0]) (φ := fSl bG a0.Chans) rfl (fun _ => rfl) ⟨_, _, rfl, rfl, c5⟩ rfl rfl (bX rfl hh (sc rfl) rfl Ent.rfl) (fun _ => ?_)
 refine Mg c5 (cU rfl hh) fun _ => ?_
 refine Mg c5 (eE rfl hh hh (el rfl) h3) fun _ => ?_
 refine Mg c5 (fY (t' := tI) (z := y3.At) rfl hh (fa rfl) rfl) fun _ => ?_
 refine Mg c5 (kA rfl hh (sc rfl) rfl) fun _ => ?_
 refine Mg c5 (bZ 1 rfl hh (fa rfl) rfl) fun _ => ?_
 refine eD (od := odC [0] false (fSl bM a0.Spots) [dE]) (ps := [0]) (φ := fSl bM a0.Spots) rfl (fun _ => rfl) ⟨_, _, rfl, rfl, c5⟩ rfl rfl (bX rfl hh (sc rfl) rfl Ent.rfl) (fun _ => ?_)
 refine Mg c5 (gU rfl hh (us rfl)) fun _ => ?_
 refine Mg c5 (fK rfl hh hh) fun _ => ?_
 refine My (bS rfl hh c5 hh) fun _ => ?_
 refine M1 ?_
 intros
 refine Mg c6 (bZ 0 rfl hh (fa rfl) rfl) fun _ => ?_
 refine eD (od := odC [0] false (fSl bG a0.Chans) [dE]) (ps := [0]) (φ := fSl bG a0.Chans) rfl (fun _ => rfl) ⟨_, _, rfl, rfl, c6⟩ rfl rfl (bX rfl hh (sc rfl) rfl Ent.rfl) (fun _ => ?_)
 refine Mg c6 (cU rfl hh) fun _ => ?_
 refine Mg c6 (eE rfl hh hh (el rfl) h4) fun _ => ?_
 refine Mg c6 (fY (t' := tI) (z := y4.Many) rfl hh (fa rfl) rfl) fun _ => ?_
 refine Mg c6 (kA rfl hh (sc rfl) rfl) fun _ => ?_
 refine Mg c6 (o_lss rfl hh hh) fun _ => ?_
 refine My (bS rfl hh c6 hh) fun _ => ?_
 refine M1 ?_
 intros
 refine Mt c7 fun _ => ?_
 refine Mt c7 fun _ => ?_
 refine Mt c7 fun _ => ?_
 refine Mt c7 fun _ => ?_
 refine Mt c7 fun _ => ?_
 refine Mt c7 fun _ => ?_
 refine Mt c7 fun _ => ?_
 refine My (dC rfl hh c7 hh) fun _ => ?_
 refine Z12 ?_
 revert H; refine bs fun r3 H e3 => ?_
 have e3 := Option.some.inj e3; subst e3; have Hr1 := Option.some.inj Hr1; subst Hr1
 cases H
 refine aD [] (by decide) ?_
 exact eC rfl (cP rfl) rfl
 exact fk
 kernel_rfl
 revert H; refine bs fun y5 h5 H => ?_
 apply cL (ods := [_, _, _, _, _, _, _, _, _, _, _, _, _, _, _, _, _, _, _, _, _, _, _, _, _, _, _, _, _, _, _, _, _, _, _, _, _]) 37 0 2 cK rfl rfl rfl
 refine ND ?_
 refine M3 ?_
 intros
 refine My (eE rfl hh hh (el rfl) h2) fun _ => ?_
 refine M4 ?_
 intros
 refine Mg c5 (bZ 0 rfl hh (fa rfl) rfl) fun _ => ?_
 refine eD (od := odC [0] false (fSl bG a0.Chans) [dE]) (ps := [0]) (φ := fSl bG a0.Chans) rfl (fun _ => rfl) ⟨_, _, rfl, rfl, c5⟩ rfl rfl (bX rfl hh (sc rfl) rfl Ent.rfl) (fun _ => ?_)
 refine Mg c5 (cU rfl hh) fun _ => ?_
 refine Mg c5 (eE rfl hh hh (el rfl) h3) fun _ => ?_
 refine Mg c5 (fY (t' := tI) (z := y3.At) rfl hh (fa rfl) rfl) fun _ => ?_
 refine Mg c5 (kA rfl hh (sc rfl) rfl) fun _ => ?_
 refine Mg c5 (bZ 1 rfl hh (fa rfl) rfl) fun _ => ?_
 refine eD (od := odC [0] false (fSl bM a0.Spots) [dE]) (ps := [0]) (φ := fSl bM a0.Spots) rfl (fun _ => rfl) ⟨_, _, rfl, rfl, c5⟩ rfl rfl (bX rfl hh (sc rfl) rfl Ent.rfl) (fun _ => ?_)
 refine Mg c5 (gU rfl hh (us rfl)) fun _ => ?_
 refine Mg c5 (fK rfl hh hh) fun _ => ?_
 refine My (bS rfl hh c5 hh) fun _ => ?_
 refine M1 ?_
 intros
 refine Mg c6 (bZ 0 rfl hh (fa rfl) rfl) fun _ => ?_
 refine eD (od := odC [0] false (fSl bG a0.Chans) [dE]) (ps := [0]) (φ := fSl bG a0.Chans) rfl (fun _ => rfl) ⟨_, _, rfl, rfl, c6⟩ rfl rfl (bX rfl hh (sc rfl) rfl Ent.rfl) (fun _ => ?_)
 refine Mg c6 (cU rfl hh) fun _ => ?_
 refine Mg c6 (eE rfl hh hh (el rfl) h4) fun _ => ?_
 refine Mg c6 (fY (t' := tI) (z := y4.Many) rfl hh (fa rfl) rfl) fun _ => ?_
 refine Mg c6 (kA rfl hh (sc rfl) rfl) fun _ => ?_
 refine Mg c6 (o_lss rfl hh hh) fun _ => ?_
 refine My (bS rfl hh c6 hh) fun _ => ?_
 refine M1 ?_
 intros
 refine Mg c7 (bZ 0 rfl hh (fa rfl) rfl) fun _ => ?_
 refine eD (od := odC [0] false (fSl bG a0.Chans) [dE]) (ps := [0]) (φ := fSl bG a0.Chans) rfl (fun _ => rfl) ⟨_, _, rfl, rfl, c7⟩ rfl rfl (bX rfl hh (sc rfl) rfl Ent.rfl) (fun _ => ?_)
 refine Mg c7 (cU rfl hh) fun _ => ?_
 refine Mg c7 (eE rfl hh hh (el rfl) h5) fun _ => ?_
 refine Mg c7 (fY (t' := tI) (z := y5.Many) rfl hh (fa rfl) rfl) fun _ => ?_
 refine Mg c7 (kA rfl hh (sc rfl) rfl) fun _ => ?_
 refine Mg c7 (fK rfl hh hh) fun _ => ?_
 refine My (bS rfl hh c7 hh) fun _ => ?_
 refine Z2 ?_
 revert H; refine is (fun c8 H => ?_) fun c8 H => ?_
 refine dA hh c8 ?_
 refine Z9 ?_
 revert H; refine bs fun r4 H e4 => ?_
 have e4 := Option.some.inj e4; subst e4; have Hr1 := Option.some.inj Hr1; subst Hr1
 cases H
 refine aD [] (by decide) ?_
 exact eC rfl (cP rfl) rfl
 refine cX hh c8 ?_
 refine Z5 ?_
 revert H; refine bs fun z1 h6 H => ?_
 refine Yy (eW rfl hh hh h6) ?_
 refine Z2 ?_
 exact cE ((k1, z1)) ⟨H, Nat.lt_succ_self _⟩ (Sc (Sc (Sc bE.nil))) rfl
 exact fk
 kernel_rfl
 refine cX hh c4 ?_
 refine Z5 ?_
 exact cE (()) (Option.some.inj H).symm (Sc (Sc bE.nil)) rfl
 clear H; intro i hi; subst o1; have H := Hr1; clear Hr1; try dsimp only at H
 try dsimp only
 revert H; refine bs fun o2 H Hr2 => ?_
 refine aQ (ι := Unit) (fun i => o2 = Sum.inl ()) (fun i => [(1, fEq (ptr b1)), (3, fEq v1)]) (fun i => [aA b1 63 [fSl bG a0.Chans, fSl bM a0.Spots, fSl bN a0.Rules], aC v1 4 eQ y1]) ?_ ?_
 refine Z4 ?_
 refine oP (ι := Nat × Int) (fun i => lM a0 i.1 i.2 = _) (fun i => i.1) (fun i => [(1, fEq (ptr b1)), (3, fEq v1), (5, fI i.2)]) (fun i => [aA b1 63 [fSl bG a0.Chans, fSl bM a0.Spots, fSl bN a0.Rules], aC v1 4 eQ y1]) (fuel, 0) H (Sc (Sc (Sc bE.nil))) rfl ?_
 clear H; rintro ⟨k2, x4⟩ H
 replace H : lM a0 k2 x4 = _ := H
 try dsimp only
 obtain _ | k2 := k2
 rw [lM] at H; cases H
 rw [lM] at H
 refine aM ?_
 refine Z7 ?_
 revert H; refine is (fun c9 H => ?_) fun c9 H => ?_
 refine dA hh c9 ?_
 refine Z2 ?_
 refine aM ?_
 refine Z5 ?_
 revert H; refine bs fun y6 h7 H => ?_
 refine Yy (eE rfl hh hh (el rfl) h7) ?_
 refine Z4 ?_
 revert H; refine is (fun c10 H => ?_) fun c10 H => ?_
 refine Yt c10 ?_
 refine Yt c10 ?_
 refine Yt c10 ?_
 refine Yt c10 ?_
 refine Yt c10 ?_
 refine Yt c10 ?_
 refine Yt c10 ?_
 refine Yt c10 ?_
 refine Yy (dC rfl hh c10 hh) ?_
 refine Z11 ?_
 revert H; refine bs fun r5 H e5 => ?_
 have e5 := Option.some.inj e5; subst e5; have Hr2 := Option.some.inj Hr2; subst Hr2
 cases H
 refine aD [] (by decide) ?_
 exact eC rfl (cP rfl) rfl
 refine Yg c10 (bZ 1 rfl hh (fa rfl) rfl) ?_
 refine Yh 0 rfl c10 (bX rfl hh (sc rfl) rfl Ent.rfl) ?_
 refine Yg c10 (cU rfl hh) ?_
 revert H; refine bs fun y7 h8 H => ?_
 refine Yg c10 (eE rfl hh hh (el rfl) h8) ?_
 refine Yg c10 (fY (t' := tI) (z := y7.In) rfl hh (fa rfl) rfl) ?_
 refine Yg c10 (kA rfl hh (sc rfl) rfl) ?_
 refine Yg c10 (cU rfl hh) ?_
 refine Yg c10 (fK rfl hh hh) ?_
 refine Yy (bS rfl hh c10 hh) ?_
 refine Z1 ?_
 revert H; refine is (fun c11 H => ?_) fun c11 H => ?_
 refine dA hh c11 ?_
 refine Z9 ?_
 revert H; refine bs fun r6 H e6 => ?_
 have e6 := Option.some.inj e6; subst e6; have Hr2 := Option.some.inj Hr2; subst Hr2
 cases H
 refine aD [] (by decide) ?_
 exact eC rfl (cP rfl) rfl
 refine cX hh c11 ?_
 refine Z5 ?_
 revert H; refine bs fun z2 h9 H => ?_
 refine Yy (eW rfl hh hh h9) ?_
 refine Z2 ?_
 exact cE ((k2, z2)) ⟨H, Nat.lt_succ_self _⟩ (Sc (Sc (Sc bE.nil))) rfl
 refine cX hh c9 ?_
 refine Z5 ?_
 exact cE (()) (Option.some.inj H).symm (Sc (Sc bE.nil)) rfl
 clear H; intro i hi; subst o2; have H := Hr2; clear Hr2; try dsimp only at H
 try dsimp only
 revert H; refine bs fun o3 H Hr3 => ?_
 refine aQ (ι := List Bool) (fun i => o3 = Sum.inl i) (fun i => [(3, fEq v1)]) (fun i => [aA b1 63 [fSl bG a0.Chans, fSl bM a0.Spots, fSl bN a0.Rules], aC v1 4 eQ i]) ?_ ?_
 refine Z4 ?_
 refine oP (ι := Nat × List Bool × Int) (fun i => kY fuel a0 i.1 i.2.1 i.2.2 = _) (fun i => i.1) (fun i => [(1, fEq (ptr b1)), (3, fEq v1), (6, fI i.2.2)]) (fun i => [aA b1 63 [fSl bG a0.Chans, fSl bM a0.Spots, fSl bN a0.Rules], aC v1 4 eQ i.2.1]) (fuel, y1, 0) H (Sc (Sc (Sc bE.nil))) rfl ?_
 clear H; rintro ⟨k3, x8, x9⟩ H
 replace H : kY fuel a0 k3 x8 x9 = _ := H
 try dsimp only
 obtain _ | k3 := k3
 rw [kY] at H; cases H
 rw [kY] at H
 refine aM ?_
 refine Z7 ?_
 revert H; refine is (fun c12 H => ?_) fun c12 H => ?_
 refine dA hh c12 ?_
 refine Z2 ?_
 revert H; refine bs fun o4 H Hr4 => ?_
 refine aQ (ι := List Bool) (fun i => o4 = Sum.inl i) (fun i => [(1, fEq (ptr b1)), (3, fEq v1), (6, fI x9)]) (fun i => [aA b1 63 [fSl bG a0.Chans, fSl bM a0.Spots, fSl bN a0.Rules], aC v1 4 eQ i]) ?_ ?_
 refine Z5 ?_
 revert H; refine bs fun y8 h10 H => ?_
 refine Yy (eE rfl hh hh (el rfl) h10) ?_
 refine Z1 ?_
 refine pM trivial rfl rfl (dL rfl vJ rfl) (fun b3 => ?_)
 refine dH (φs' := [fI y8.At, fSl tI y8.Joins, fI y8.Node]) trivial rfl rfl (has rfl) (has rfl) (aP (aK trivial) (aP (dT) (aP (aK trivial) bY))) (sz rfl) rfl rfl rfl ?_
 refine Z1 ?_
 refine aM ?_
 refine Z5 ?_
 revert H; refine is (fun c13 H => ?_) fun c13 H => ?_
 refine Yt c13 ?_
 refine Yt c13 ?_
 refine Yt c13 ?_
 refine Yt c13 ?_
 refine Yt c13 ?_
 refine Yt c13 ?_
 refine Yy (dC rfl hh c13 hh) ?_
 refine Z12 ?_
 refine Z8 ?_
 revert H; refine bs fun r7 H e7 => ?_
 have e7 := Option.some.inj e7; subst e7; have Hr4 := Option.some.inj Hr4; subst Hr4
 refine Z3 ?_
 revert H; refine bs fun r8 H e8 => ?_
 have e8 := Option.some.inj e8; subst e8; have Hr3 := Option.some.inj Hr3; subst Hr3
 cases H
 refine aD [] (by decide) ?_
 exact eC rfl (cP rfl) rfl
 refine Yg c13 (bZ 0 rfl hh (fa rfl) rfl) ?_
 refine Yh 0 rfl c13 (bX rfl hh (sc rfl) rfl Ent.rfl) ?_
 refine Yg c13 (bZ 1 rfl hh (fa rfl) rfl) ?_
 refine Yh 1 rfl c13 (bX rfl hh (sc rfl) rfl Ent.rfl) ?_
 refine Yg c13 (gU rfl hh (us rfl)) ?_
 refine Yg c13 (fK rfl hh hh) ?_
 refine Yy (bS rfl hh c13 hh) ?_
 refine Z1 ?_
 revert H; refine is (fun c14 H => ?_) fun c14 H => ?_
 refine Yt c14 ?_
 refine Yt c14 ?_
 refine Yt c14 ?_
 refine Yt c14 ?_
 refine Yy (dC rfl hh c14 hh) ?_
 refine Z12 ?_
 refine Z2 ?_
 revert H; refine bs fun r9 H e9 => ?_
 have e9 := Option.some.inj e9; subst e9; have Hr4 := Option.some.inj Hr4; subst Hr4
 refine Z3 ?_
 revert H; refine bs fun r10 H e10 => ?_
 have e10 := Option.some.inj e10; subst e10; have Hr3 := Option.some.inj Hr3; subst Hr3
 cases H
 refine aD [] (by decide) ?_
 exact eC rfl (cP rfl) rfl
 refine Yg c14 (bZ 1 rfl hh (fa rfl) rfl) ?_
 refine Yh 0 rfl c14 (bX rfl hh (sc rfl) rfl Ent.rfl) ?_
 refine Yg c14 (gU rfl hh (us rfl)) ?_
 refine Yg c14 (o_lss rfl hh hh) ?_
 refine Yy (bS rfl hh c14 hh) ?_
 refine Z1 ?_
 revert H; refine is (fun c15 H => ?_) fun c15 H => ?_
 refine Yt c15 ?_
 refine Yt c15 ?_
 refine Yt c15 ?_
 refine Yt c15 ?_
 refine Yy (dC rfl hh c15 hh) ?_
 refine Z8 ?_
 revert H; refine bs fun r11 H e11 => ?_
 have e11 := Option.some.inj e11; subst e11; have Hr4 := Option.some.inj Hr4; subst Hr4
 refine Z3 ?_
 revert H; refine bs fun r12 H e12 => ?_
 have e12 := Option.some.inj e12; subst e12; have Hr3 := Option.some.inj Hr3; subst Hr3
 cases H
 refine aD [] (by decide) ?_
 exact eC rfl (cP rfl) rfl
 refine Yg c15 (bZ 1 rfl hh (fa rfl) rfl) ?_
 refine Yh 0 rfl c15 (bX rfl hh (sc rfl) rfl Ent.rfl) ?_
 refine Yg c15 (gU rfl hh (us rfl)) ?_
 refine Yg c15 (fK rfl hh hh) ?_
 refine Yy (bS rfl hh c15 hh) ?_
 refine Z1 ?_
 revert H; refine is (fun c16 H => ?_) fun c16 H => ?_
 refine dA hh c16 ?_
 refine Z6 ?_
 revert H; refine bs fun r13 H e13 => ?_
 have e13 := Option.some.inj e13; subst e13; have Hr4 := Option.some.inj Hr4; subst Hr4
 refine Z3 ?_
 revert H; refine bs fun r14 H e14 => ?_
 have e14 := Option.some.inj e14; subst e14; have Hr3 := Option.some.inj Hr3; subst Hr3
 cases H
 refine aD [] (by decide) ?_
 exact eC rfl (cP rfl) rfl
 refine cX hh c16 ?_
 refine Z6 ?_
 refine oP (ι := Nat × List Bool × Int) (fun i => lP fuel a0 y8 i.1 i.2.1 i.2.2 = _) (fun i => i.1) (fun i => [(1, fEq (ptr b1)), (3, fEq v1), (6, fI x9), (7, fEq (ptr b3)), (8, fI i.2.2)]) (fun i => [aA b3 114 [fI y8.At, fSl tI y8.Joins, fI y8.Node], aA b1 63 [fSl bG a0.Chans, fSl bM a0.Spots, fSl bN a0.Rules], aC v1 4 eQ i.2.1]) (fuel, x8, 0) H (Sc (Sc (Sc (Sc (Sc bE.nil))))) rfl ?_
 clear H; rintro ⟨k4, x13, x14⟩ H
 replace H : lP fuel a0 y8 k4 x13 x14 = _ := H
 try dsimp only
 obtain _ | k4 := k4
 rw [lP] at H; cases H
 rw [lP] at H
 refine aM ?_
 refine Z7 ?_
 revert H; refine is (fun c17 H => ?_) fun c17 H => ?_
 refine dA hh c17 ?_
 refine Z2 ?_
 refine aM ?_
 refine Z5 ?_
 revert H; refine bs fun y9 h11 H => ?_
 refine Yy (eE rfl hh hh (el rfl) h11) ?_
 refine Z3 ?_
 refine aM ?_
 refine aM ?_
 revert H; refine is (fun c18 H => ?_) fun c18 H => ?_
 apply cL (ods := [_, _, _, _, _, _, _, _, _, _, _, _, _, _, _, _, _, _, _, _, _, _, _, _, _, _, _, _]) 28 0 3 cK rfl rfl rfl
 refine ND ?_
 refine M3 ?_
 intros
 refine Mt c18 fun _ => ?_
 refine Mt c18 fun _ => ?_
 refine Mt c18 fun _ => ?_
 refine Mt c18 fun _ => ?_
 refine Mt c18 fun _ => ?_
 refine My (dC rfl hh c18 hh) fun _ => ?_
 refine M8 ?_
 intros
 refine M8 ?_
 intros
 refine M3 ?_
 intros
 refine Z12 ?_
 refine Z1 ?_
 revert H; refine bs fun r15 H e15 => ?_
 have e15 := Option.some.inj e15; subst e15; have Hr4 := Option.some.inj Hr4; subst Hr4
 refine Z3 ?_
 revert H; refine bs fun r16 H e16 => ?_
 have e16 := Option.some.inj e16; subst e16; have Hr3 := Option.some.inj Hr3; subst Hr3
 cases H
 refine aD [] (by decide) ?_
 exact eC rfl (cP rfl) rfl
 exact fk
 kernel_rfl
 revert H; refine is (fun c19 H => ?_) fun c19 H => ?_
 apply cL (ods := [_, _, _, _, _, _, _, _, _, _, _, _, _, _, _, _, _, _, _, _, _, _, _, _, _, _, _, _]) 28 0 3 cK rfl rfl rfl
 refine ND ?_
 refine M3 ?_
 intros
 refine Mg c18 (cU rfl hh) fun _ => ?_
 refine Mg c18 (bZ 0 rfl hh (fa rfl) rfl) fun _ => ?_
 refine eD (od := odC [1] false (fSl bG a0.Chans) [dE]) (ps := [1]) (φ := fSl bG a0.Chans) rfl (fun _ => rfl) ⟨_, _, rfl, rfl, c18⟩ rfl rfl (bX rfl hh (sc rfl) rfl Ent.rfl) (fun _ => ?_)
 refine Mg c18 (gU rfl hh (us rfl)) fun _ => ?_
 refine Mg c18 (pR rfl hh hh) fun _ => ?_
 refine My (bS rfl hh c18 hh) fun _ => ?_
 refine M1 ?_
 intros
 refine Mt c19 fun _ => ?_
 refine Mt c19 fun _ => ?_
 refine Mt c19 fun _ => ?_
 refine Mt c19 fun _ => ?_
 refine Mt c19 fun _ => ?_
 refine Mt c19 fun _ => ?_
 refine My (dC rfl hh c19 hh) fun _ => ?_
 refine M8 ?_
 intros
 refine M3 ?_
 intros
 refine Z12 ?_
 refine Z1 ?_
 revert H; refine bs fun r17 H e17 => ?_
 have e17 := Option.some.inj e17; subst e17; have Hr4 := Option.some.inj Hr4; subst Hr4
 refine Z3 ?_
 revert H; refine bs fun r18 H e18 => ?_
 have e18 := Option.some.inj e18; subst e18; have Hr3 := Option.some.inj Hr3; subst Hr3
 cases H
 refine aD [] (by decide) ?_
 exact eC rfl (cP rfl) rfl
 exact fk
 kernel_rfl
 revert H; refine bs fun y10 h12 H => ?_
 revert H; refine bs fun y11 h13 H => ?_
 revert H; refine cs (fun c20 H => ?_) fun c20 H => ?_
 apply cL (ods := [_, _, _, _, _, _, _, _, _, _, _, _, _, _, _, _, _, _, _, _, _, _, _, _, _, _, _, _]) 28 0 3 cK rfl rfl rfl
 refine ND ?_
 refine M3 ?_
 intros
 refine Mg c18 (cU rfl hh) fun _ => ?_
 refine Mg c18 (bZ 0 rfl hh (fa rfl) rfl) fun _ => ?_
 refine eD (od := odC [1] false (fSl bG a0.Chans) [dE]) (ps := [1]) (φ := fSl bG a0.Chans) rfl (fun _ => rfl) ⟨_, _, rfl, rfl, c18⟩ rfl rfl (bX rfl hh (sc rfl) rfl Ent.rfl) (fun _ => ?_)
 refine Mg c18 (gU rfl hh (us rfl)) fun _ => ?_
 refine Mg c18 (pR rfl hh hh) fun _ => ?_
 refine My (bS rfl hh c18 hh) fun _ => ?_
 refine M1 ?_
 intros
 refine Mg c19 (bZ 1 rfl hh (fa rfl) rfl) fun _ => ?_
 refine eD (od := odC [0] false (fSl tI y8.Joins) [dE]) (ps := [0]) (φ := fSl tI y8.Joins) rfl (fun _ => rfl) ⟨_, _, rfl, rfl, c19⟩ rfl rfl (bX rfl hh (sc rfl) rfl Ent.rfl) (fun _ => ?_)
 refine Mg c19 (cU rfl hh) fun _ => ?_
 refine Mg c19 (xL (t := tI) rfl hh yV (xM hh) (el rfl) h12) fun _ => ?_
 refine Mg c19 (cU rfl hh) fun _ => ?_
 refine zY (od := odC [] true (aH y11) []) (Φ := aH y11) rfl (fun _ => rfl) ⟨_, _, rfl, rfl, c19⟩ rfl rfl (has rfl) (aI.cons (has rfl) (aI.cons (has rfl) aI.nil)) rfl (cb rfl) (aB3 fuel y10 y9 y11 h13) (fun _ => ?_)
 refine My (bS rfl hh c19 hh) fun _ => ?_
 refine M1 ?_
 intros
 refine Mt c20 fun _ => ?_
 refine Mt c20 fun _ => ?_
 refine Mt c20 fun _ => ?_
 refine Mt c20 fun _ => ?_
 refine Mt c20 fun _ => ?_
 refine Mt c20 fun _ => ?_
 refine Mt c20 fun _ => ?_
 refine Mt c20 fun _ => ?_
 refine Mt c20 fun _ => ?_
 refine My (dC rfl hh c20 hh) fun _ => ?_
 refine Z12 ?_
 refine Z1 ?_
 revert H; refine bs fun r19 H e19 => ?_
 have e19 := Option.some.inj e19; subst e19; have Hr4 := Option.some.inj Hr4; subst Hr4
 refine Z3 ?_
 revert H; refine bs fun r20 H e20 => ?_
 have e20 := Option.some.inj e20; subst e20; have Hr3 := Option.some.inj Hr3; subst Hr3
 cases H
 refine aD [] (by decide) ?_
 exact eC rfl (cP rfl) rfl
 exact fk
 kernel_rfl
 revert H; refine bs fun y12 h14 H => ?_
 apply cL (ods := [_, _, _, _, _, _, _, _, _, _, _, _, _, _, _, _, _, _, _, _, _, _, _, _, _, _, _, _]) 28 0 3 cK rfl rfl rfl
 refine ND ?_
 refine M3 ?_
 intros
 refine Mg c18 (cU rfl hh) fun _ => ?_
 refine Mg c18 (bZ 0 rfl hh (fa rfl) rfl) fun _ => ?_
 refine eD (od := odC [1] false (fSl bG a0.Chans) [dE]) (ps := [1]) (φ := fSl bG a0.Chans) rfl (fun _ => rfl) ⟨_, _, rfl, rfl, c18⟩ rfl rfl (bX rfl hh (sc rfl) rfl Ent.rfl) (fun _ => ?_)
 refine Mg c18 (gU rfl hh (us rfl)) fun _ => ?_
 refine Mg c18 (pR rfl hh hh) fun _ => ?_
 refine My (bS rfl hh c18 hh) fun _ => ?_
 refine M1 ?_
 intros
 refine Mg c19 (bZ 1 rfl hh (fa rfl) rfl) fun _ => ?_
 refine eD (od := odC [0] false (fSl tI y8.Joins) [dE]) (ps := [0]) (φ := fSl tI y8.Joins) rfl (fun _ => rfl) ⟨_, _, rfl, rfl, c19⟩ rfl rfl (bX rfl hh (sc rfl) rfl Ent.rfl) (fun _ => ?_)
 refine Mg c19 (cU rfl hh) fun _ => ?_
 refine Mg c19 (xL (t := tI) rfl hh yV (xM hh) (el rfl) h12) fun _ => ?_
 refine Mg c19 (cU rfl hh) fun _ => ?_
 refine zY (od := odC [] true (aH y11) []) (Φ := aH y11) rfl (fun _ => rfl) ⟨_, _, rfl, rfl, c19⟩ rfl rfl (has rfl) (aI.cons (has rfl) (aI.cons (has rfl) aI.nil)) rfl (cb rfl) (aB3 fuel y10 y9 y11 h13) (fun _ => ?_)
 refine My (bS rfl hh c19 hh) fun _ => ?_
 refine M1 ?_
 intros
 refine Mg c20 (bZ 0 rfl hh (fa rfl) rfl) fun _ => ?_
 refine eD (od := odC [1] false (fSl bG a0.Chans) [dE]) (ps := [1]) (φ := fSl bG a0.Chans) rfl (fun _ => rfl) ⟨_, _, rfl, rfl, c20⟩ rfl rfl (bX rfl hh (sc rfl) rfl Ent.rfl) (fun _ => ?_)
 refine Mg c20 (cU rfl hh) fun _ => ?_
 refine Mg c20 (eE rfl hh hh (el rfl) h14) fun _ => ?_
 refine Mg c20 (fY (t' := tI) (z := y12.At) rfl hh (fa rfl) rfl) fun _ => ?_
 refine Mg c20 (kA rfl hh (sc rfl) rfl) fun _ => ?_
 refine Mg c20 (bZ 0 rfl hh (fa rfl) rfl) fun _ => ?_
 refine eD (od := odC [0] false (fI y8.At) [dE]) (ps := [0]) (φ := fI y8.At) rfl (fun _ => rfl) ⟨_, _, rfl, rfl, c20⟩ rfl rfl (bX rfl hh (sc rfl) rfl Ent.rfl) (fun _ => ?_)
 refine Mg c20 (o_neq rfl hh hh) fun _ => ?_
 refine My (bS rfl hh c20 hh) fun _ => ?_
 refine Z2 ?_
 revert H; refine is (fun c21 H => ?_) fun c21 H => ?_
 refine dA hh c21 ?_
 refine Z10 ?_
 revert H; refine bs fun r21 H e21 => ?_
 have e21 := Option.some.inj e21; subst e21; have Hr4 := Option.some.inj Hr4; subst Hr4
 refine Z3 ?_
 revert H; refine bs fun r22 H e22 => ?_
 have e22 := Option.some.inj e22; subst e22; have Hr3 := Option.some.inj Hr3; subst Hr3
 cases H
 refine aD [] (by decide) ?_
 exact eC rfl (cP rfl) rfl
 refine cX hh c21 ?_
 refine Z5 ?_
 revert H; refine bs fun y13 h15 H => ?_
 refine Yo 2 rfl (qD rfl hh hh (el rfl) h15) ?_
 refine aU ?_
 refine vX (z' := true) trivial rfl rfl rfl (has rfl) (has rfl) (aK trivial) (sz rfl) (dF h15) rfl rfl ?_
 refine Z5 ?_
 revert H; refine bs fun z3 h16 H => ?_
 refine Yy (eW rfl hh hh h16) ?_
 refine Z2 ?_
 refine aD [1, 2, 0] (by decide) ?_
 exact cE ((k4, x13.set y9.toNat true, z3)) ⟨H, Nat.lt_succ_self _⟩ (Sc (Sc (Sc (Sc (Sc bE.nil))))) rfl
 exact fk
 kernel_rfl
 refine cX hh c17 ?_
 refine Z6 ?_
 refine aD [1, 2] (by decide) ?_
 exact cE (x13) (Option.some.inj H).symm (Sc (Sc (Sc bE.nil))) rfl
 clear H; intro x10 hi; subst o4; have H := Hr4; clear Hr4; try dsimp only at H
 try dsimp only
 refine Z2 ?_
 revert H; refine bs fun z4 h17 H => ?_
 refine Yy (eW rfl hh hh h17) ?_
 refine Z2 ?_
 exact cE ((k3, x10, z4)) ⟨H, Nat.lt_succ_self _⟩ (Sc (Sc (Sc bE.nil))) rfl
 refine cX hh c12 ?_
 refine Z5 ?_
 exact cE (x8) (Option.some.inj H).symm (Sc bE.nil) rfl
 clear H; intro x5 hi; subst o3; have H := Hr3; clear Hr3; try dsimp only at H
 try dsimp only
 revert H; refine bs fun o5 H Hr5 => ?_
 refine aQ (ι := Unit) (fun i => o5 = Sum.inl ()) (fun i => []) (fun i => [aA b1 63 [fSl bG a0.Chans, fSl bM a0.Spots, fSl bN a0.Rules]]) ?_ ?_
 refine Z4 ?_
 refine oP (ι := Nat × Int) (fun i => jZ x5 i.1 i.2 = _) (fun i => i.1) (fun i => [(3, fEq v1), (10, fI i.2)]) (fun i => [aA b1 63 [fSl bG a0.Chans, fSl bM a0.Spots, fSl bN a0.Rules], aC v1 4 eQ x5]) (fuel, 0) H (Sc (Sc bE.nil)) rfl ?_
 clear H; rintro ⟨k5, x16⟩ H
 replace H : jZ x5 k5 x16 = _ := H
 try dsimp only
 obtain _ | k5 := k5
 rw [jZ] at H; cases H
 rw [jZ] at H
 refine aM ?_
 refine Z6 ?_
 revert H; refine is (fun c22 H => ?_) fun c22 H => ?_
 refine dA hh c22 ?_
 refine Z2 ?_
 refine aM ?_
 refine Z4 ?_
 revert H; refine bs fun y14 h18 H => ?_
 refine Yo 1 rfl (qD rfl hh hh (el rfl) h18) ?_
 refine Yo 1 rfl (iQ rfl rfl hh (sc rfl) (dF h18) rfl) ?_
 refine Z2 ?_
 revert H; refine cs (fun c23 H => ?_) fun c23 H => ?_
 refine cX hh (not_t c23) ?_
 refine Z5 ?_
 revert H; refine bs fun z5 h19 H => ?_
 refine Yy (eW rfl hh hh h19) ?_
 refine Z2 ?_
 exact cE ((k5, z5)) ⟨H, Nat.lt_succ_self _⟩ (Sc (Sc bE.nil)) rfl
 refine dA hh (not_f c23) ?_
 refine Z9 ?_
 revert H; refine bs fun r23 H e23 => ?_
 have e23 := Option.some.inj e23; subst e23; have Hr5 := Option.some.inj Hr5; subst Hr5
 cases H
 refine aD [] (by decide) ?_
 exact eC rfl (cP rfl) rfl
 refine cX hh c22 ?_
 refine Z5 ?_
 refine aD [0] (by decide) ?_
 exact cE (()) (Option.some.inj H).symm bE.nil rfl
 clear H; intro i hi; subst o5; have H := Hr5; clear Hr5; try dsimp only at H
 try dsimp only
 refine Z4 ?_
 cases H
 refine aD [] (by decide) ?_
 exact eC rfl (cP rfl) rfl
open Go.SX Go.SW Go.Dt
def sZ (a0 : Int) : Option (Int) :=
 (if a0 = 1 then
  some (decide (a0 = 1))
 else
  if a0 = 2 then
   some (decide (a0 = 2))
  else
   if a0 = 9 then
    some (decide (a0 = 9))
   else
    if a0 = 10 then
     some (decide (a0 = 10))
    else
     if a0 = 11 then
      some (decide (a0 = 11))
     else
      some (decide (a0 = 12))).bind fun x1 =>
 bif x1 then
  some 1
 else
  (if a0 = 8 then
   some (decide (a0 = 8))
  else
   if a0 = 13 then
    some (decide (a0 = 13))
   else
    some (decide (a0 = 15))).bind fun x2 =>
  bif x2 then
   some 2
  else
   (if a0 = 3 then
    some (decide (a0 = 3))
   else
    if a0 = 4 then
     some (decide (a0 = 4))
    else
     if a0 = 5 then
      some (decide (a0 = 5))
     else
      if a0 = 6 then
       some (decide (a0 = 6))
      else
       if a0 = 7 then
        some (decide (a0 = 7))
       else
        if a0 = 14 then
         some (decide (a0 = 14))
        else
         some (decide (a0 = 16))).bind fun x3 =>
   bif x3 then
    some 0
   else
    some (-1)
theorem aEy  (a0 : Int) (r : Int) (H : sZ a0 = some r) : FnS Tryz.prog 123 [fI a0] [] (fI r) (fun _ => []) := by
 unfold sZ at H
 refine cF Tryz.func123 rfl Tryz.ntmps123 rfl (fun β => ?_)
 refine Z3 ?_
 refine aM ?_
 revert H; refine B4 fun o1 H Hr1 => ?_
 refine aQ (ι := Bool) (fun i => o1 = i) (fun i => [(3, fI a0), (4, aH i)]) (fun i => []) ?_ ?_
 revert H; refine I4 (fun c1 H => ?_) fun c1 H => ?_
 refine Z3 ?_
 exact Tm (decide (a0 = 1)) (ij H)
 revert H; refine I5 (fun c2 H => ?_) fun c2 H => ?_
 refine Z3 ?_
 exact Tm (decide (a0 = 2)) (ij H)
 revert H; refine I5 (fun c3 H => ?_) fun c3 H => ?_
 refine Z3 ?_
 exact Tm (decide (a0 = 9)) (ij H)
 revert H; refine I5 (fun c4 H => ?_) fun c4 H => ?_
 refine Z3 ?_
 exact Tm (decide (a0 = 10)) (ij H)
 revert H; refine I5 (fun c5 H => ?_) fun c5 H => ?_
 refine Z3 ?_
 exact Tm (decide (a0 = 11)) (ij H)
 refine Z5 ?_
 exact Tm (decide (a0 = 12)) (ij H)
 clear H; intro x1 hi; subst o1; have H := Hr1; clear Hr1; try dsimp only at H
 try dsimp only
 revert H; refine cs (fun c6 H => ?_) fun c6 H => ?_
 refine Z7 ?_
 cases H
 exact To
 revert H; refine B1 fun o2 H Hr2 => ?_
 refine aQ (ι := Bool) (fun i => o2 = i) (fun i => [(3, fI a0), (11, aH i)]) (fun i => []) ?_ ?_
 revert H; refine I4 (fun c7 H => ?_) fun c7 H => ?_
 refine Z3 ?_
 exact Tm (decide (a0 = 8)) (ij H)
 revert H; refine I5 (fun c8 H => ?_) fun c8 H => ?_
 refine Z3 ?_
 exact Tm (decide (a0 = 13)) (ij H)
 refine Z5 ?_
 exact Tm (decide (a0 = 15)) (ij H)
 clear H; intro x2 hi; subst o2; have H := Hr2; clear Hr2; try dsimp only at H
 try dsimp only
 revert H; refine cs (fun c9 H => ?_) fun c9 H => ?_
 refine Z7 ?_
 cases H
 exact To
 revert H; refine B1 fun o3 H Hr3 => ?_
 refine aQ (ι := Bool) (fun i => o3 = i) (fun i => [(15, aH i)]) (fun i => []) ?_ ?_
 revert H; refine I4 (fun c10 H => ?_) fun c10 H => ?_
 refine Z3 ?_
 exact Tm (decide (a0 = 3)) (ij H)
 revert H; refine I5 (fun c11 H => ?_) fun c11 H => ?_
 refine Z3 ?_
 exact Tm (decide (a0 = 4)) (ij H)
 revert H; refine I5 (fun c12 H => ?_) fun c12 H => ?_
 refine Z3 ?_
 exact Tm (decide (a0 = 5)) (ij H)
 revert H; refine I5 (fun c13 H => ?_) fun c13 H => ?_
 refine Z3 ?_
 exact Tm (decide (a0 = 6)) (ij H)
 revert H; refine I5 (fun c14 H => ?_) fun c14 H => ?_
 refine Z3 ?_
 exact Tm (decide (a0 = 7)) (ij H)
 revert H; refine I5 (fun c15 H => ?_) fun c15 H => ?_
 refine Z3 ?_
 exact Tm (decide (a0 = 14)) (ij H)
 refine Z5 ?_
 exact Tm (decide (a0 = 16)) (ij H)
 clear H; intro x3 hi; subst o3; have H := Hr3; clear Hr3; try dsimp only at H
 try dsimp only
 revert H; refine cs (fun c16 H => ?_) fun c16 H => ?_
 refine Z7 ?_
 cases H
 exact To
 refine Z8 ?_
 cases H
 exact To
def mJ (a0 : CodeProg) (y1 : CodeIns) : Nat → Int → Option ((Unit) ⊕ ((Unit) ⊕ (Bool)))
| 0, _ => none
| k + 1, x5 =>
 if x5 < y1.A then
  (idx a0.Code x5).bind fun y3 =>
  if y3.Op = 16 then
   ((some false).bind fun r => some (Sum.inr r)).bind fun r => some (Sum.inr r)
  else
   (chk (x5 + 1)).bind fun z1 =>
   mJ a0 y1 k z1
 else
  some (Sum.inl ())
def pY (fuel : Nat) (a0 : CodeProg) (a1 : Int) : Option (Bool) :=
 (idx a0.Code a1).bind fun y1 =>
 (sZ y1.Op).bind fun y2 =>
 (if y2 < 0 then
  (some false).bind fun r => some (Sum.inr r)
 else
  if y2 < 1 then
   if y1.A ≠ 0 then
    (some false).bind fun r => some (Sum.inr r)
   else
    if y2 < 2 then
     if y1.B ≠ 0 then
      (some false).bind fun r => some (Sum.inr r)
     else
      some (Sum.inl ())
    else
     some (Sum.inl ())
  else
   if y2 < 2 then
    if y1.B ≠ 0 then
     (some false).bind fun r => some (Sum.inr r)
    else
     some (Sum.inl ())
   else
    some (Sum.inl ())).bind fun o => match o with
 | Sum.inr r => some r
 | Sum.inl _ =>
 (if y1.Op = 1 then
  (if (-1000000000) ≤ y1.A then
   some (decide (y1.A ≤ 1000000000))
  else
   some false).bind fun x1 =>
  (some x1).bind fun r => some (Sum.inr r)
 else
  if y1.Op = 8 then
   (if 0 ≤ y1.A then
    if 0 ≤ y1.B then
     some (decide (y1.B ≤ 3))
    else
     some false
   else
    some false).bind fun x2 =>
   (some x2).bind fun r => some (Sum.inr r)
  else
   (if y1.Op = 9 then
    some (decide (y1.Op = 9))
   else
    some (decide (y1.Op = 10))).bind fun x3 =>
   bif x3 then
    if y1.A ≤ a1 then
     (some false).bind fun r => some (Sum.inr r)
    else
     if (a0.Code.length : Int) ≤ y1.A then
      (some false).bind fun r => some (Sum.inr r)
     else
      (mJ a0 y1 fuel a1).bind fun o => match o with
      | Sum.inr r => some r
      | Sum.inl _ =>
      (some true).bind fun r => some (Sum.inr r)
   else
    if y1.Op = 11 then
     (if 0 ≤ y1.A then
      some (decide (y1.A < (a0.Defs.length : Int)))
     else
      some false).bind fun x6 =>
     (some x6).bind fun r => some (Sum.inr r)
    else
     some (Sum.inl ())).bind fun o => match o with
 | Sum.inr r => some r
 | Sum.inl _ =>
 (if 0 ≤ y1.A then
  some (decide (0 ≤ y1.B))
 else
  some false).bind fun x7 =>
 some x7
theorem aEu (fuel : Nat)  (a0 : CodeProg) (a1 : Int) (r : Bool) (H : pY fuel a0 a1 = some r) : FnS Tryz.prog 77 [fSt eR a0, fI a1] [] (aH r) (fun _ => []) := by
 unfold pY at H
 refine cF Tryz.func77 rfl Tryz.ntmps77 rfl (fun β => ?_)
 refine Z1 ?_
 refine Tn (dD rfl hh cV) fun b1 => ?_
 revert H; refine B6 fun y1 h1 H => ?_
 refine Z2 ?_
 refine Tn (dL rfl rV rfl) fun b2 => ?_
 refine dH (φs' := [fI y1.Op, fI y1.A, fI y1.B]) trivial rfl rfl (has rfl) (has rfl) (aP (aK trivial) (aP (aK trivial) (aP (aK trivial) bY))) (sz rfl) rfl rfl rfl ?_
 revert H; refine B4 fun y2 h2 H => ?_
 refine Tc (aEy _ _ h2) ?_
 revert H; refine B2 fun o1 H Hr1 => ?_
 refine aQ (ι := Unit) (fun i => o1 = Sum.inl ()) (fun i => [(1, fI a1), (2, fEq (ptr b1)), (5, fEq (ptr b2))]) (fun i => [aA b2 73 [fI y1.Op, fI y1.A, fI y1.B], aA b1 25 [fI a0.Free, fSl aF a0.Defs, fSl aG a0.Code, fI a0.Main]]) ?_ ?_
 revert H; refine I4 (fun c1 H => ?_) fun c1 H => ?_
 refine Z3 ?_
 refine aW (⟨_, _, _, _, rfl, rfl, rfl, nu⟩) rfl rfl ?_
 refine aW (⟨_, _, _, _, rfl, rfl, rfl, nu⟩) rfl rfl ?_
 refine aW (⟨_, _, _, _, rfl, rfl, rfl, nu⟩) rfl rfl ?_
 refine Z6 ?_
 refine aW (⟨_, _, _, _, rfl, rfl, rfl, nu⟩) rfl rfl ?_
 refine aW (⟨_, _, _, _, rfl, rfl, rfl, nu⟩) rfl rfl ?_
 refine aW (⟨_, _, _, _, rfl, rfl, rfl, nu⟩) rfl rfl ?_
 revert H; refine B8 fun r1 H e1 => ?_
 cases e1; cases Hr1
 cases H
 refine aD [] (by decide) ?_
 exact To
 revert H; refine I3 (fun c2 H => ?_) fun c2 H => ?_
 revert H; refine I6 (fun c3 H => ?_) fun c3 H => ?_
 refine Z3 ?_
 refine aW (⟨_, _, _, _, rfl, rfl, rfl, nu⟩) rfl rfl ?_
 refine aW (⟨_, _, _, _, rfl, rfl, rfl, nu⟩) rfl rfl ?_
 refine aW (⟨_, _, _, _, rfl, rfl, rfl, nu⟩) rfl rfl ?_
 revert H; refine B8 fun r2 H e2 => ?_
 cases e2; cases Hr1
 cases H
 refine aD [] (by decide) ?_
 exact To
 revert H; refine I3 (fun c4 H => ?_) fun c4 H => ?_
 revert H; refine I6 (fun c5 H => ?_) fun c5 H => ?_
 revert H; refine B5 fun r3 H e3 => ?_
 cases e3; cases Hr1
 cases H
 refine aD [] (by decide) ?_
 exact To
 refine Z3 ?_
 exact Tm (()) (ij H)
 refine Z9 ?_
 exact Tm (()) (ij H)
 revert H; refine I9 (fun c6 H => ?_) fun c6 H => ?_
 revert H; refine I6 (fun c7 H => ?_) fun c7 H => ?_
 revert H; refine B5 fun r4 H e4 => ?_
 cases e4; cases Hr1
 cases H
 refine aD [] (by decide) ?_
 exact To
 refine Z3 ?_
 exact Tm (()) (ij H)
 refine Z9 ?_
 exact Tm (()) (ij H)
 clear H; intro i hi; subst o1; have H := Hr1; clear Hr1; try dsimp only at H
 try dsimp only
 revert H; refine bs fun o2 H Hr2 => ?_
 refine aQ (ι := Unit) (fun i => o2 = Sum.inl ()) (fun i => [(5, fEq (ptr b2))]) (fun i => [aA b2 73 [fI y1.Op, fI y1.A, fI y1.B], aA b1 25 [fI a0.Free, fSl aF a0.Defs, fSl aG a0.Code, fI a0.Main]]) ?_ ?_
 revert H; refine I9 (fun c8 H => ?_) fun c8 H => ?_
 revert H; refine B1 fun o3 H Hr3 => ?_
 refine aQ (ι := Bool) (fun i => o3 = i) (fun i => [(4, aH i)]) (fun i => [aA b2 73 [fI y1.Op, fI y1.A, fI y1.B], aA b1 25 [fI a0.Free, fSl aF a0.Defs, fSl aG a0.Code, fI a0.Main]]) ?_ ?_
 revert H; refine I5 (fun c9 H => ?_) fun c9 H => ?_
 refine Z6 ?_
 exact Tm (decide (y1.A ≤ 1000000000)) (ij H)
 refine Z6 ?_
 exact Tm (false) (ij H)
 clear H; intro x1 hi; subst o3; have H := Hr3; clear Hr3; try dsimp only at H
 try dsimp only
 revert H; refine B3 fun r5 H e5 => ?_
 cases e5; cases Hr2
 cases H
 refine aD [] (by decide) ?_
 exact To
 revert H; refine I5 (fun c10 H => ?_) fun c10 H => ?_
 revert H; refine B1 fun o4 H Hr4 => ?_
 refine aQ (ι := Bool) (fun i => o4 = i) (fun i => [(4, aH i)]) (fun i => [aA b2 73 [fI y1.Op, fI y1.A, fI y1.B], aA b1 25 [fI a0.Free, fSl aF a0.Defs, fSl aG a0.Code, fI a0.Main]]) ?_ ?_
 revert H; refine I5 (fun c11 H => ?_) fun c11 H => ?_
 revert H; refine I5 (fun c12 H => ?_) fun c12 H => ?_
 refine Z6 ?_
 exact Tm (decide (y1.B ≤ 3)) (ij H)
 refine Z6 ?_
 exact Tm (false) (ij H)
 refine Z11 ?_
 exact Tm (false) (ij H)
 clear H; intro x2 hi; subst o4; have H := Hr4; clear Hr4; try dsimp only at H
 try dsimp only
 revert H; refine B3 fun r6 H e6 => ?_
 cases e6; cases Hr2
 cases H
 refine aD [] (by decide) ?_
 exact To
 revert H; refine B1 fun o5 H Hr5 => ?_
 refine aQ (ι := Bool) (fun i => o5 = i) (fun i => [(1, fI a1), (2, fEq (ptr b1)), (5, fEq (ptr b2)), (37, fI y1.Op), (63, aH i)]) (fun i => [aA b2 73 [fI y1.Op, fI y1.A, fI y1.B], aA b1 25 [fI a0.Free, fSl aF a0.Defs, fSl aG a0.Code, fI a0.Main]]) ?_ ?_
 revert H; refine I4 (fun c13 H => ?_) fun c13 H => ?_
 refine Z3 ?_
 exact Tm (decide (y1.Op = 9)) (ij H)
 refine Z5 ?_
 exact Tm (decide (y1.Op = 10)) (ij H)
 clear H; intro x3 hi; subst o5; have H := Hr5; clear Hr5; try dsimp only at H
 try dsimp only
 revert H; refine cs (fun c14 H => ?_) fun c14 H => ?_
 refine Z1 ?_
 refine aM ?_
 revert H; refine I6 (fun c15 H => ?_) fun c15 H => ?_
 refine Z12 ?_
 revert H; refine B3 fun r7 H e7 => ?_
 cases e7; cases Hr2
 cases H
 refine aD [] (by decide) ?_
 exact To
 revert H; refine I8 (fun c16 H => ?_) fun c16 H => ?_
 revert H; refine B7 fun r8 H e8 => ?_
 cases e8; cases Hr2
 cases H
 refine aD [] (by decide) ?_
 exact To
 revert H; refine B3 fun o6 H Hr6 => ?_
 refine aQ (ι := Unit) (fun i => o6 = Sum.inl ()) (fun i => []) (fun i => [aA b2 73 [fI y1.Op, fI y1.A, fI y1.B], aA b1 25 [fI a0.Free, fSl aF a0.Defs, fSl aG a0.Code, fI a0.Main]]) ?_ ?_
 refine Z5 ?_
 refine Tl (ι := Nat × Int) (fun i => mJ a0 y1 i.1 i.2 = _) (fun i => i.1) (fun i => [(2, fEq (ptr b1)), (5, fEq (ptr b2)), (7, fI i.2)]) (fun i => [aA b2 73 [fI y1.Op, fI y1.A, fI y1.B], aA b1 25 [fI a0.Free, fSl aF a0.Defs, fSl aG a0.Code, fI a0.Main]]) (fuel, a1) H ?_
 clear H; rintro ⟨k1, x5⟩ H
 replace H : mJ a0 y1 k1 x5 = _ := H
 try dsimp only
 obtain _ | k1 := k1
 rw [mJ] at H; cases H
 rw [mJ] at H
 refine aM ?_
 revert H; refine I6 (fun c17 H => ?_) fun c17 H => ?_
 refine Z3 ?_
 refine aM ?_
 revert H; refine B5 fun y3 h3 H => ?_
 revert H; refine I5 (fun c18 H => ?_) fun c18 H => ?_
 revert H; refine B10 fun r9 H e9 => ?_
 cases e9; cases Hr6
 revert H; refine B2 fun r10 H e10 => ?_
 cases e10; cases Hr2
 cases H
 refine aD [] (by decide) ?_
 exact To
 revert H; refine B6 fun z1 h4 H => ?_
 refine Z3 ?_
 exact Tm ((k1, z1)) ⟨H, ls⟩
 refine Z6 ?_
 exact Tm (()) (ij H)
 clear H; intro i hi; subst o6; have H := Hr6; clear Hr6; try dsimp only at H
 try dsimp only
 revert H; refine B6 fun r11 H e11 => ?_
 cases e11; cases Hr2
 cases H
 refine aD [] (by decide) ?_
 exact To
 revert H; refine I5 (fun c19 H => ?_) fun c19 H => ?_
 revert H; refine B1 fun o7 H Hr7 => ?_
 refine aQ (ι := Bool) (fun i => o7 = i) (fun i => [(4, aH i)]) (fun i => [aA b2 73 [fI y1.Op, fI y1.A, fI y1.B], aA b1 25 [fI a0.Free, fSl aF a0.Defs, fSl aG a0.Code, fI a0.Main]]) ?_ ?_
 revert H; refine I5 (fun c20 H => ?_) fun c20 H => ?_
 refine Z9 ?_
 exact Tm (decide (y1.A < (a0.Defs.length : Int))) (ij H)
 refine Z9 ?_
 exact Tm (false) (ij H)
 clear H; intro x6 hi; subst o7; have H := Hr7; clear Hr7; try dsimp only at H
 try dsimp only
 revert H; refine B3 fun r12 H e12 => ?_
 cases e12; cases Hr2
 cases H
 refine aD [] (by decide) ?_
 exact To
 refine Z4 ?_
 exact Tm (()) (ij H)
 clear H; intro i hi; subst o2; have H := Hr2; clear Hr2; try dsimp only at H
 try dsimp only
 revert H; refine bs fun o8 H Hr8 => ?_
 refine aQ (ι := Bool) (fun i => o8 = i) (fun i => [(4, aH i)]) (fun i => [aA b2 73 [fI y1.Op, fI y1.A, fI y1.B], aA b1 25 [fI a0.Free, fSl aF a0.Defs, fSl aG a0.Code, fI a0.Main]]) ?_ ?_
 revert H; refine I5 (fun c21 H => ?_) fun c21 H => ?_
 refine Z6 ?_
 exact Tm (decide (0 ≤ y1.B)) (ij H)
 refine Z6 ?_
 exact Tm (false) (ij H)
 clear H; intro x7 hi; subst o8; have H := Hr8; clear Hr8; try dsimp only at H
 try dsimp only
 refine Z1 ?_
 cases H
 refine aD [] (by decide) ?_
 exact To
def mI (a0 : Int) : Option (Bool) :=
 (if a0 = 13 then
  some true
 else
  some (decide (a0 = 15))).bind fun x1 =>
 some x1
theorem wT  (a0 : Int) (r : Bool) (H : mI a0 = some r) : FnS Tryz.prog 48 [fI a0] [] (aH r) (fun _ => []) := by
 unfold mI at H
 refine cF Tryz.func48 rfl Tryz.ntmps48 rfl (fun β => ?_)
 revert H; refine B3 fun o1 H Hr1 => ?_
 refine aQ (ι := Bool) (fun i => o1 = i) (fun i => [(2, aH i)]) (fun i => []) ?_ ?_
 revert H; refine I4 (fun c1 H => ?_) fun c1 H => ?_
 refine Z5 ?_
 exact Tm (true) (ij H)
 refine Z5 ?_
 exact Tm (decide (a0 = 15)) (ij H)
 clear H; intro x1 hi; subst o1; have H := Hr1; clear Hr1; try dsimp only at H
 try dsimp only
 refine Z1 ?_
 cases H
 exact To
open Go.SX Go.SW Go.Dt
def kU (a0 : CodeProg) (x5 : Int) : Nat → (List Int) → Int → Option (List Int)
| 0, _, _ => none
| k + 1, x10, x11 =>
 (idx a0.Defs x5).bind fun y1 =>
 if x11 < (y1.Rules.length : Int) then
  (idx a0.Defs x5).bind fun y2 =>
  (idx y2.Rules x11).bind fun y3 =>
  (eK (x10 ++ [y3.Node])).bind fun z1 =>
  (chk (x11 + 1)).bind fun z2 =>
  kU a0 x5 k z1 z2
 else
  some x10
def lD (a0 : CodeProg) (x5 : Int) : Nat → (List Int) → Int → Option (List Int)
| 0, _, _ => none
| k + 1, x14, x15 =>
 (idx a0.Defs x5).bind fun y4 =>
 if x15 < (y4.Spots.length : Int) then
  (idx a0.Defs x5).bind fun y5 =>
  (idx y5.Spots x15).bind fun y6 =>
  (eK (x14 ++ [y6.Node])).bind fun z3 =>
  (chk (x15 + 1)).bind fun z4 =>
  lD a0 x5 k z3 z4
 else
  some x14
def lJ (fuel : Nat) (a0 : CodeProg) : Nat → (List Int) → Int → Option (List Int)
| 0, _, _ => none
| k + 1, x4, x5 =>
 if x5 < (a0.Defs.length : Int) then
  ((kU a0 x5 fuel x4 0).bind fun x7 =>
  lD a0 x5 fuel x7 0).bind fun x6 =>
  (chk (x5 + 1)).bind fun z5 =>
  lJ fuel a0 k x6 z5
 else
  some x4
def kR (a0 : CodeProg) : Nat → (List Int) → Int → Option (List Int)
| 0, _, _ => none
| k + 1, x19, x20 =>
 if x20 < (a0.Code.length : Int) then
  ((idx a0.Code x20).bind fun y7 =>
  (mI y7.Op).bind fun y8 =>
  bif y8 then
   (idx a0.Code x20).bind fun y9 =>
   (eK (x19 ++ [y9.B])).bind fun z6 =>
   some z6
  else
   some x19).bind fun x21 =>
  (chk (x20 + 1)).bind fun z7 =>
  kR a0 k x21 z7
 else
  some x19
def rM (fuel : Nat) (a0 : CodeProg) : Option (List Int) :=
 (lJ fuel a0 fuel [a0.Main] 0).bind fun x1 =>
 (kR a0 fuel x1 0).bind fun x16 =>
 some x16
theorem aED (fuel : Nat)  (a0 : CodeProg) (r : List Int) (H : rM fuel a0 = some r) : FnS Tryz.prog 55 [fSt eR a0] [] (fSl tI r) (fun _ => []) := by
 unfold rM at H
 refine cF Tryz.func55 rfl Tryz.ntmps55 rfl (fun β => ?_)
 refine Z1 ?_
 refine Tn (dD rfl hh cV) fun b1 => ?_
 refine Z5 ?_
 refine Tn (gJ (t := tI) (xs := [a0.Main]) rfl (et rfl) (cB.cons rfl (has rfl) (dU (aK trivial)) cB.nil) rfl rfl rfl) fun b2 => ?_
 generalize (Value.slice (some ⟨b2, 0, none⟩) _ _) = v1
 refine aB 0 rfl (fun hc_v1 => ?_)
 revert H; refine B2 fun o1 H Hr1 => ?_
 refine aQ (ι := List Int × Value) (fun i => o1 = i.1) (fun i => [(1, fEq (ptr b1)), (3, fEq i.2)]) (fun i => [aA b1 25 [fI a0.Free, fSl aF a0.Defs, fSl aG a0.Code, fI a0.Main], aC i.2 3 tI i.1]) ?_ ?_
 refine Z4 ?_
 refine aD [1, 0] (by decide) ?_
 refine Tl (ι := Nat × List Int × Int × Value) (fun i => lJ fuel a0 i.1 i.2.1 i.2.2.1 = _) (fun i => i.1) (fun i => [(1, fEq (ptr b1)), (3, fEq i.2.2.2), (4, fI i.2.2.1)]) (fun i => [aA b1 25 [fI a0.Free, fSl aF a0.Defs, fSl aG a0.Code, fI a0.Main], aC i.2.2.2 3 tI i.2.1]) (fuel, [a0.Main], 0, v1) H ?_
 clear H; rintro ⟨k1, x4, x5, v4⟩ H
 replace H : lJ fuel a0 k1 x4 x5 = _ := H
 try dsimp only
 obtain _ | k1 := k1
 rw [lJ] at H; cases H
 rw [lJ] at H
 refine aB 1 rfl (fun hc_v4 => ?_)
 refine aM ?_
 revert H; refine I7 (fun c1 H => ?_) fun c1 H => ?_
 revert H; refine B3 fun o2 H Hr2 => ?_
 refine aQ (ι := List Int × Value) (fun i => o2 = i.1) (fun i => [(1, fEq (ptr b1)), (3, fEq i.2), (4, fI x5)]) (fun i => [aA b1 25 [fI a0.Free, fSl aF a0.Defs, fSl aG a0.Code, fI a0.Main], aC i.2 3 tI i.1]) ?_ ?_
 revert H; refine B1 fun o3 H Hr3 => ?_
 refine aQ (ι := List Int × Value) (fun i => o3 = i.1) (fun i => [(1, fEq (ptr b1)), (3, fEq i.2), (4, fI x5)]) (fun i => [aA b1 25 [fI a0.Free, fSl aF a0.Defs, fSl aG a0.Code, fI a0.Main], aC i.2 3 tI i.1]) ?_ ?_
 refine Z4 ?_
 refine Tl (ι := Nat × List Int × Int × Value) (fun i => kU a0 x5 i.1 i.2.1 i.2.2.1 = _) (fun i => i.1) (fun i => [(1, fEq (ptr b1)), (3, fEq i.2.2.2), (4, fI x5), (5, fI i.2.2.1)]) (fun i => [aA b1 25 [fI a0.Free, fSl aF a0.Defs, fSl aG a0.Code, fI a0.Main], aC i.2.2.2 3 tI i.2.1]) (fuel, x4, 0, v4) H ?_
 clear H; rintro ⟨k2, x10, x11, v8⟩ H
 replace H : kU a0 x5 k2 x10 x11 = _ := H
 try dsimp only
 obtain _ | k2 := k2
 rw [kU] at H; cases H
 rw [kU] at H
 refine aB 1 rfl (fun hc_v8 => ?_)
 refine aM ?_
 revert H; refine B5 fun y1 h1 H => ?_
 revert H; refine I6 (fun c2 H => ?_) fun c2 H => ?_
 refine Z3 ?_
 refine aM ?_
 revert H; refine B6 fun y2 h2 H => ?_
 revert H; refine B4 fun y3 h3 H => ?_
 refine Z3 ?_
 refine Tn (gJ (t := tI) (xs := [y3.Node]) rfl (et rfl) (cB.cons rfl (has rfl) (dU (aK trivial)) cB.nil) rfl rfl rfl) fun b3 => ?_
 generalize (Value.slice (some ⟨b3, 0, none⟩) _ _) = v9
 refine aB 0 rfl (fun hc_v9 => ?_)
 revert H; refine bs fun z1 h4 H => ?_
 refine aU ?_
 refine aV ?_
 refine jR trivial rfl rfl rfl (has rfl) (has rfl) (et rfl) rfl h4 (fun v10 => ?_)
 refine aB 0 rfl (fun hc_v10 => ?_)
 revert H; refine B6 fun z2 h5 H => ?_
 refine Z3 ?_
 refine aD [1, 0] (by decide) ?_
 exact Tm ((k2, z1, z2, v10)) ⟨H, ls⟩
 refine Z6 ?_
 exact Tm ((x10, v8)) (ij H)
 clear H; intro i hi; obtain ⟨x7, v6⟩ := i; subst o3; have H := Hr3; clear Hr3; try dsimp only at H
 try dsimp only
 refine aB 1 rfl (fun hc_v6 => ?_)
 refine Z4 ?_
 refine Tl (ι := Nat × List Int × Int × Value) (fun i => lD a0 x5 i.1 i.2.1 i.2.2.1 = _) (fun i => i.1) (fun i => [(1, fEq (ptr b1)), (3, fEq i.2.2.2), (4, fI x5), (6, fI i.2.2.1)]) (fun i => [aA b1 25 [fI a0.Free, fSl aF a0.Defs, fSl aG a0.Code, fI a0.Main], aC i.2.2.2 3 tI i.2.1]) (fuel, x7, 0, v6) H ?_
 clear H; rintro ⟨k3, x14, x15, v12⟩ H
 replace H : lD a0 x5 k3 x14 x15 = _ := H
 try dsimp only
 obtain _ | k3 := k3
 rw [lD] at H; cases H
 rw [lD] at H
 refine aB 1 rfl (fun hc_v12 => ?_)
 refine aM ?_
 revert H; refine B5 fun y4 h6 H => ?_
 revert H; refine I6 (fun c3 H => ?_) fun c3 H => ?_
 refine Z3 ?_
 refine aM ?_
 revert H; refine B6 fun y5 h7 H => ?_
 revert H; refine B4 fun y6 h8 H => ?_
 refine Z3 ?_
 refine Tn (gJ (t := tI) (xs := [y6.Node]) rfl (et rfl) (cB.cons rfl (has rfl) (dU (aK trivial)) cB.nil) rfl rfl rfl) fun b4 => ?_
 generalize (Value.slice (some ⟨b4, 0, none⟩) _ _) = v13
 refine aB 0 rfl (fun hc_v13 => ?_)
 revert H; refine bs fun z3 h9 H => ?_
 refine aU ?_
 refine aV ?_
 refine jR trivial rfl rfl rfl (has rfl) (has rfl) (et rfl) rfl h9 (fun v14 => ?_)
 refine aB 0 rfl (fun hc_v14 => ?_)
 revert H; refine B6 fun z4 h10 H => ?_
 refine Z3 ?_
 refine aD [1, 0] (by decide) ?_
 exact Tm ((k3, z3, z4, v14)) ⟨H, ls⟩
 refine Z7 ?_
 exact Tm ((x14, v12)) (ij H)
 clear H; intro i hi; obtain ⟨x6, v5⟩ := i; subst o2; have H := Hr2; clear Hr2; try dsimp only at H
 try dsimp only
 refine aB 1 rfl (fun hc_v5 => ?_)
 revert H; refine B2 fun z5 h11 H => ?_
 refine Z3 ?_
 exact Tm ((k1, x6, z5, v5)) ⟨H, ls⟩
 refine Z6 ?_
 exact Tm ((x4, v4)) (ij H)
 clear H; intro i hi; obtain ⟨x1, v2⟩ := i; subst o1; have H := Hr1; clear Hr1; try dsimp only at H
 try dsimp only
 refine aB 1 rfl (fun hc_v2 => ?_)
 revert H; refine bs fun o4 H Hr4 => ?_
 refine aQ (ι := List Int × Value) (fun i => o4 = i.1) (fun i => [(3, fEq i.2)]) (fun i => [aA b1 25 [fI a0.Free, fSl aF a0.Defs, fSl aG a0.Code, fI a0.Main], aC i.2 3 tI i.1]) ?_ ?_
 refine Z4 ?_
 refine Tl (ι := Nat × List Int × Int × Value) (fun i => kR a0 i.1 i.2.1 i.2.2.1 = _) (fun i => i.1) (fun i => [(1, fEq (ptr b1)), (3, fEq i.2.2.2), (7, fI i.2.2.1)]) (fun i => [aA b1 25 [fI a0.Free, fSl aF a0.Defs, fSl aG a0.Code, fI a0.Main], aC i.2.2.2 3 tI i.2.1]) (fuel, x1, 0, v2) H ?_
 clear H; rintro ⟨k4, x19, x20, v17⟩ H
 replace H : kR a0 k4 x19 x20 = _ := H
 try dsimp only
 obtain _ | k4 := k4
 rw [kR] at H; cases H
 rw [kR] at H
 refine aB 1 rfl (fun hc_v17 => ?_)
 refine aM ?_
 revert H; refine I7 (fun c4 H => ?_) fun c4 H => ?_
 revert H; refine B3 fun o5 H Hr5 => ?_
 refine aQ (ι := List Int × Value) (fun i => o5 = i.1) (fun i => [(1, fEq (ptr b1)), (7, fI x20), (3, fEq i.2)]) (fun i => [aA b1 25 [fI a0.Free, fSl aF a0.Defs, fSl aG a0.Code, fI a0.Main], aC i.2 3 tI i.1]) ?_ ?_
 revert H; refine B5 fun y7 h12 H => ?_
 revert H; refine B3 fun y8 h13 H => ?_
 refine Tc (wT _ _ h13) ?_
 refine Z1 ?_
 revert H; refine cs (fun c5 H => ?_) fun c5 H => ?_
 revert H; refine B6 fun y9 h14 H => ?_
 refine Z3 ?_
 refine Tn (gJ (t := tI) (xs := [y9.B]) rfl (et rfl) (cB.cons rfl (has rfl) (dU (aK trivial)) cB.nil) rfl rfl rfl) fun b5 => ?_
 generalize (Value.slice (some ⟨b5, 0, none⟩) _ _) = v19
 refine aB 0 rfl (fun hc_v19 => ?_)
 revert H; refine bs fun z6 h15 H => ?_
 refine aU ?_
 refine aV ?_
 refine jR trivial rfl rfl rfl (has rfl) (has rfl) (et rfl) rfl h15 (fun v20 => ?_)
 refine aB 0 rfl (fun hc_v20 => ?_)
 refine Z4 ?_
 refine aD [1, 0] (by decide) ?_
 exact Tm ((z6, v20)) (ij H)
 refine Z4 ?_
 exact Tm ((x19, v17)) (ij H)
 clear H; intro i hi; obtain ⟨x21, v18⟩ := i; subst o5; have H := Hr5; clear Hr5; try dsimp only at H
 try dsimp only
 refine aB 1 rfl (fun hc_v18 => ?_)
 revert H; refine B2 fun z7 h16 H => ?_
 refine Z3 ?_
 exact Tm ((k4, x21, z7, v18)) ⟨H, ls⟩
 refine Z6 ?_
 exact Tm ((x19, v17)) (ij H)
 clear H; intro i hi; obtain ⟨x16, v15⟩ := i; subst o4; have H := Hr4; clear Hr4; try dsimp only at H
 try dsimp only
 refine aB 1 rfl (fun hc_v15 => ?_)
 refine Z5 ?_
 refine aV ?_
 refine iT (φ := fSl tI x16) (v := v15) [3, 89, 2] nB fz ?_
 refine iI ?_
 cases H
 refine aD [] (by decide) ?_
 exact To
def jD (a0 : CodeProg) (y1 : List Int) : Nat → (List Bool) → Int → Option ((Unit) ⊕ (Bool))
| 0, _, _ => none
| k + 1, x3, x4 =>
 if x4 < (y1.length : Int) then
  (idx y1 x4).bind fun y3 =>
  (if y3 < 0 then
   ((some false).bind fun r => some (Sum.inr r)).bind fun r => some (Sum.inr r)
  else
   if (a0.Code.length : Int) ≤ y3 then
    ((some false).bind fun r => some (Sum.inr r)).bind fun r => some (Sum.inr r)
   else
    (idx x3 y3).bind fun y4 =>
    bif y4 then
     ((some false).bind fun r => some (Sum.inr r)).bind fun r => some (Sum.inr r)
    else
     if 0 < y3 then
      (chk (y3 - 1)).bind fun z1 =>
      (idx a0.Code z1).bind fun y5 =>
      if y5.Op ≠ 16 then
       ((some false).bind fun r => some (Sum.inr r)).bind fun r => some (Sum.inr r)
      else
       some (Sum.inl ())
     else
      some (Sum.inl ())).bind fun o => match o with
  | Sum.inr r => some r
  | Sum.inl _ =>
  (idx x3 y3).bind fun y6 =>
  (chk (x4 + 1)).bind fun z2 =>
  jD a0 y1 k (x3.set y3.toNat true) z2
 else
  some (Sum.inl ())
def kW (a0 : CodeProg) : Nat → Int → Int → Option (Int)
| 0, _, _ => none
| k + 1, x8, x9 =>
 if x9 < (a0.Code.length : Int) then
  ((idx a0.Code x9).bind fun y7 =>
  if y7.Op = 16 then
   (chk (x8 + 1)).bind fun z3 =>
   some z3
  else
   some x8).bind fun x10 =>
  (chk (x9 + 1)).bind fun z4 =>
  kW a0 k x10 z4
 else
  some x8
def sL (fuel : Nat) (a0 : CodeProg) : Option (Bool) :=
 (rM fuel (⟨a0.Free, a0.Defs, a0.Code, a0.Main⟩ : CodeProg)).bind fun y1 =>
 (mk false (a0.Code.length : Int)).bind fun y2 =>
 (jD a0 y1 fuel y2 0).bind fun o => match o with
 | Sum.inr r => some r
 | Sum.inl _ =>
 (kW a0 fuel 0 0).bind fun x5 =>
 (if x5 = (y1.length : Int) then
  (chk ((a0.Code.length : Int) - 1)).bind fun z5 =>
  (idx a0.Code z5).bind fun y8 =>
  some (decide (y8.Op = 16))
 else
  some false).bind fun x11 =>
 some x11
theorem aDk (fuel : Nat)  (a0 : CodeProg) (r : Bool) (H : sL fuel a0 = some r) : FnS Tryz.prog 78 [fSt eR a0] [] (aH r) (fun _ => []) := by
 unfold sL at H
 refine cF Tryz.func78 rfl Tryz.ntmps78 rfl (fun β => ?_)
 refine Z1 ?_
 refine Tn (dD rfl hh cV) fun b1 => ?_
 revert H; refine B4 fun y1 h1 H => ?_
 refine Tc (aED _ _ _ h1) ?_
 revert H; refine B6 fun y2 h2 H => ?_
 refine Tn (vB (t := eQ) (z := false) rfl hh (et rfl) rfl vO rfl h2) fun b2 => ?_
 generalize (Value.slice (some ⟨b2, 0, none⟩) _ _) = v1
 refine aB 0 rfl (fun hc_v1 => ?_)
 revert H; refine B2 fun o1 H Hr1 => ?_
 refine aQ (ι := Unit) (fun i => o1 = Sum.inl ()) (fun i => [(1, fEq (ptr b1)), (3, fSl tI y1)]) (fun i => [aA b1 25 [fI a0.Free, fSl aF a0.Defs, fSl aG a0.Code, fI a0.Main]]) ?_ ?_
 refine Z4 ?_
 refine aD [1, 0] (by decide) ?_
 refine Tl (ι := Nat × List Bool × Int) (fun i => jD a0 y1 i.1 i.2.1 i.2.2 = _) (fun i => i.1) (fun i => [(1, fEq (ptr b1)), (3, fSl tI y1), (4, fEq v1), (5, fI i.2.2)]) (fun i => [aA b1 25 [fI a0.Free, fSl aF a0.Defs, fSl aG a0.Code, fI a0.Main], aC v1 4 eQ i.2.1]) (fuel, y2, 0) H ?_
 clear H; rintro ⟨k1, x3, x4⟩ H
 replace H : jD a0 y1 k1 x3 x4 = _ := H
 try dsimp only
 obtain _ | k1 := k1
 rw [jD] at H; cases H
 rw [jD] at H
 refine aM ?_
 revert H; refine I6 (fun c1 H => ?_) fun c1 H => ?_
 refine Z3 ?_
 refine aM ?_
 revert H; refine B4 fun y3 h3 H => ?_
 revert H; refine B4 fun o2 H Hr2 => ?_
 refine aQ (ι := Unit) (fun i => o2 = Sum.inl ()) (fun i => [(1, fEq (ptr b1)), (3, fSl tI y1), (4, fEq v1), (5, fI x4), (6, fI y3)]) (fun i => [aA b1 25 [fI a0.Free, fSl aF a0.Defs, fSl aG a0.Code, fI a0.Main], aC v1 4 eQ x3]) ?_ ?_
 revert H; refine I4 (fun c2 H => ?_) fun c2 H => ?_
 refine Z12 ?_
 refine Z4 ?_
 refine aW (⟨_, _, _, _, rfl, rfl, rfl, nu⟩) rfl rfl ?_
 refine aW (⟨_, _, _, _, rfl, rfl, rfl, nu⟩) rfl rfl ?_
 refine aW (⟨_, _, _, _, rfl, rfl, rfl, nu⟩) rfl rfl ?_
 refine aW (⟨_, _, _, _, rfl, rfl, rfl, nu⟩) rfl rfl ?_
 refine aW (⟨_, _, _, _, rfl, rfl, rfl, nu⟩) rfl rfl ?_
 refine aW (⟨_, _, _, _, rfl, rfl, rfl, nu⟩) rfl rfl ?_
 refine aW (⟨_, _, _, _, rfl, rfl, rfl, nu⟩) rfl rfl ?_
 refine aW (⟨_, _, _, _, rfl, rfl, rfl, nu⟩) rfl rfl ?_
 revert H; refine B8 fun r1 H e1 => ?_
 cases e1; cases Hr2
 revert H; refine B5 fun r2 H e2 => ?_
 cases e2; cases Hr1
 cases H
 refine aD [] (by decide) ?_
 exact To
 revert H; refine I7 (fun c3 H => ?_) fun c3 H => ?_
 refine Z9 ?_
 refine aW (⟨_, _, _, _, rfl, rfl, rfl, nu⟩) rfl rfl ?_
 refine aW (⟨_, _, _, _, rfl, rfl, rfl, nu⟩) rfl rfl ?_
 refine aW (⟨_, _, _, _, rfl, rfl, rfl, nu⟩) rfl rfl ?_
 refine aW (⟨_, _, _, _, rfl, rfl, rfl, nu⟩) rfl rfl ?_
 refine aW (⟨_, _, _, _, rfl, rfl, rfl, nu⟩) rfl rfl ?_
 refine aW (⟨_, _, _, _, rfl, rfl, rfl, nu⟩) rfl rfl ?_
 refine aW (⟨_, _, _, _, rfl, rfl, rfl, nu⟩) rfl rfl ?_
 refine aW (⟨_, _, _, _, rfl, rfl, rfl, nu⟩) rfl rfl ?_
 revert H; refine B8 fun r3 H e3 => ?_
 cases e3; cases Hr2
 revert H; refine B5 fun r4 H e4 => ?_
 cases e4; cases Hr1
 cases H
 refine aD [] (by decide) ?_
 exact To
 revert H; refine B2 fun y4 h4 H => ?_
 refine Z1 ?_
 refine Yh 1 rfl c3 (iQ rfl rfl hh (sc rfl) (dF h4) rfl) ?_
 refine Z2 ?_
 revert H; refine cs (fun c4 H => ?_) fun c4 H => ?_
 refine Z3 ?_
 refine aW (⟨_, _, _, _, rfl, rfl, rfl, nu⟩) rfl rfl ?_
 refine aW (⟨_, _, _, _, rfl, rfl, rfl, nu⟩) rfl rfl ?_
 refine aW (⟨_, _, _, _, rfl, rfl, rfl, nu⟩) rfl rfl ?_
 refine aW (⟨_, _, _, _, rfl, rfl, rfl, nu⟩) rfl rfl ?_
 refine aW (⟨_, _, _, _, rfl, rfl, rfl, nu⟩) rfl rfl ?_
 refine aW (⟨_, _, _, _, rfl, rfl, rfl, nu⟩) rfl rfl ?_
 refine aW (⟨_, _, _, _, rfl, rfl, rfl, nu⟩) rfl rfl ?_
 refine aW (⟨_, _, _, _, rfl, rfl, rfl, nu⟩) rfl rfl ?_
 revert H; refine B8 fun r5 H e5 => ?_
 cases e5; cases Hr2
 revert H; refine B5 fun r6 H e6 => ?_
 cases e6; cases Hr1
 cases H
 refine aD [] (by decide) ?_
 exact To
 revert H; refine I3 (fun c5 H => ?_) fun c5 H => ?_
 revert H; refine B3 fun z1 h5 H => ?_
 revert H; refine B1 fun y5 h6 H => ?_
 revert H; refine I7 (fun c6 H => ?_) fun c6 H => ?_
 revert H; refine B5 fun r7 H e7 => ?_
 cases e7; cases Hr2
 revert H; refine B5 fun r8 H e8 => ?_
 cases e8; cases Hr1
 cases H
 refine aD [] (by decide) ?_
 exact To
 refine Z3 ?_
 exact Tm (()) (ij H)
 refine Z12 ?_
 refine Z2 ?_
 exact Tm (()) (ij H)
 clear H; intro i hi; subst o2; have H := Hr2; clear Hr2; try dsimp only at H
 try dsimp only
 revert H; refine B3 fun y6 h7 H => ?_
 refine Z1 ?_
 refine aV ?_
 refine vX (z' := true) trivial rfl rfl rfl (has rfl) (has rfl) (aK trivial) (sz rfl) (dF h7) rfl rfl ?_
 revert H; refine B5 fun z2 h8 H => ?_
 refine Z3 ?_
 refine aD [1, 0] (by decide) ?_
 exact Tm ((k1, x3.set y3.toNat true, z2)) ⟨H, ls⟩
 refine Z6 ?_
 refine aD [0] (by decide) ?_
 exact Tm (()) (ij H)
 clear H; intro i hi; subst o1; have H := Hr1; clear Hr1; try dsimp only at H
 try dsimp only
 revert H; refine B3 fun o3 H Hr3 => ?_
 refine aQ (ι := Int) (fun i => o3 = i) (fun i => [(1, fEq (ptr b1)), (3, fSl tI y1), (7, fI i)]) (fun i => [aA b1 25 [fI a0.Free, fSl aF a0.Defs, fSl aG a0.Code, fI a0.Main]]) ?_ ?_
 refine Z4 ?_
 refine Tl (ι := Nat × Int × Int) (fun i => kW a0 i.1 i.2.1 i.2.2 = _) (fun i => i.1) (fun i => [(1, fEq (ptr b1)), (3, fSl tI y1), (7, fI i.2.1), (8, fI i.2.2)]) (fun i => [aA b1 25 [fI a0.Free, fSl aF a0.Defs, fSl aG a0.Code, fI a0.Main]]) (fuel, 0, 0) H ?_
 clear H; rintro ⟨k2, x8, x9⟩ H
 replace H : kW a0 k2 x8 x9 = _ := H
 try dsimp only
 obtain _ | k2 := k2
 rw [kW] at H; cases H
 rw [kW] at H
 refine aM ?_
 revert H; refine I7 (fun c7 H => ?_) fun c7 H => ?_
 revert H; refine B3 fun o4 H Hr4 => ?_
 refine aQ (ι := Int) (fun i => o4 = i) (fun i => [(1, fEq (ptr b1)), (3, fSl tI y1), (7, fI i), (8, fI x9)]) (fun i => [aA b1 25 [fI a0.Free, fSl aF a0.Defs, fSl aG a0.Code, fI a0.Main]]) ?_ ?_
 revert H; refine B5 fun y7 h9 H => ?_
 revert H; refine I5 (fun c8 H => ?_) fun c8 H => ?_
 revert H; refine B3 fun z3 h10 H => ?_
 refine Z5 ?_
 exact Tm (z3) (ij H)
 refine Z4 ?_
 exact Tm (x8) (ij H)
 clear H; intro x10 hi; subst o4; have H := Hr4; clear Hr4; try dsimp only at H
 try dsimp only
 revert H; refine B2 fun z4 h11 H => ?_
 refine Z3 ?_
 exact Tm ((k2, x10, z4)) ⟨H, ls⟩
 refine Z6 ?_
 exact Tm (x8) (ij H)
 clear H; intro x5 hi; subst o3; have H := Hr3; clear Hr3; try dsimp only at H
 try dsimp only
 revert H; refine bs fun o5 H Hr5 => ?_
 refine aQ (ι := Bool) (fun i => o5 = i) (fun i => [(2, aH i)]) (fun i => [aA b1 25 [fI a0.Free, fSl aF a0.Defs, fSl aG a0.Code, fI a0.Main]]) ?_ ?_
 revert H; refine I6 (fun c9 H => ?_) fun c9 H => ?_
 revert H; refine B5 fun z5 h12 H => ?_
 revert H; refine B1 fun y8 h13 H => ?_
 refine Z7 ?_
 exact Tm (decide (y8.Op = 16)) (ij H)
 refine Z12 ?_
 refine Z1 ?_
 exact Tm (false) (ij H)
 clear H; intro x11 hi; subst o5; have H := Hr5; clear Hr5; try dsimp only at H
 try dsimp only
 refine Z1 ?_
 cases H
 refine aD [] (by decide) ?_
 exact To
def iB (a0 : CodeProg) : Nat → (List Bool) → Int → Int → Option ((List Bool × Int) ⊕ (Bool))
| 0, _, _, _ => none
| k + 1, x6, x7, x8 =>
 if x8 < (a0.Code.length : Int) then
  ((idx a0.Code x8).bind fun y2 =>
  if y2.Op = 11 then
   (idx a0.Code x8).bind fun y3 =>
   (idx x6 y3.A).bind fun y4 =>
   bif y4 then
    ((some false).bind fun r => some (Sum.inr r)).bind fun r => some (Sum.inr r)
   else
    (idx a0.Code x8).bind fun y5 =>
    (idx x6 y5.A).bind fun y6 =>
    (chk (x7 + 1)).bind fun z1 =>
    some (Sum.inl (x6.set y5.A.toNat true, z1))
  else
   some (Sum.inl (x6, x7))).bind fun o => match o with
  | Sum.inr r => some r
  | Sum.inl (x9, x10) =>
  (chk (x8 + 1)).bind fun z2 =>
  iB a0 k x9 x10 z2
 else
  some (Sum.inl (x6, x7))
def rQ (fuel : Nat) (a0 : CodeProg) : Option (Bool) :=
 (mk false (a0.Defs.length : Int)).bind fun y1 =>
 (iB a0 fuel y1 0 0).bind fun o => match o with
 | Sum.inr r => some r
 | Sum.inl (x1, x2) =>
 some (decide (x2 = (x1.length : Int)))
theorem aFo (fuel : Nat)  (a0 : CodeProg) (r : Bool) (H : rQ fuel a0 = some r) : FnS Tryz.prog 79 [fSt eR a0] [] (aH r) (fun _ => []) := by
 unfold rQ at H
 refine cF Tryz.func79 rfl Tryz.ntmps79 rfl (fun β => ?_)
 refine Z1 ?_
 refine Tn (dD rfl hh cV) fun b1 => ?_
 revert H; refine B6 fun y1 h1 H => ?_
 refine Tn (vB (t := eQ) (z := false) rfl hh (et rfl) rfl vO rfl h1) fun b2 => ?_
 generalize (Value.slice (some ⟨b2, 0, none⟩) _ _) = v1
 refine aB 0 rfl (fun hc_v1 => ?_)
 revert H; refine B5 fun o1 H Hr1 => ?_
 refine aQ (ι := List Bool × Int) (fun i => o1 = Sum.inl (i.1, i.2)) (fun i => [(3, fEq v1), (4, fI i.2)]) (fun i => [aA b1 25 [fI a0.Free, fSl aF a0.Defs, fSl aG a0.Code, fI a0.Main], aC v1 4 eQ i.1]) ?_ ?_
 refine Z4 ?_
 refine aD [1, 0] (by decide) ?_
 refine Tl (ι := Nat × List Bool × Int × Int) (fun i => iB a0 i.1 i.2.1 i.2.2.1 i.2.2.2 = _) (fun i => i.1) (fun i => [(1, fEq (ptr b1)), (3, fEq v1), (4, fI i.2.2.1), (5, fI i.2.2.2)]) (fun i => [aA b1 25 [fI a0.Free, fSl aF a0.Defs, fSl aG a0.Code, fI a0.Main], aC v1 4 eQ i.2.1]) (fuel, y1, 0, 0) H ?_
 clear H; rintro ⟨k1, x6, x7, x8⟩ H
 replace H : iB a0 k1 x6 x7 x8 = _ := H
 try dsimp only
 obtain _ | k1 := k1
 rw [iB] at H; cases H
 rw [iB] at H
 refine aM ?_
 revert H; refine I7 (fun c1 H => ?_) fun c1 H => ?_
 revert H; refine B3 fun o2 H Hr2 => ?_
 refine aQ (ι := List Bool × Int) (fun i => o2 = Sum.inl (i.1, i.2)) (fun i => [(1, fEq (ptr b1)), (3, fEq v1), (4, fI i.2), (5, fI x8)]) (fun i => [aA b1 25 [fI a0.Free, fSl aF a0.Defs, fSl aG a0.Code, fI a0.Main], aC v1 4 eQ i.1]) ?_ ?_
 revert H; refine B5 fun y2 h2 H => ?_
 revert H; refine I5 (fun c2 H => ?_) fun c2 H => ?_
 refine Z1 ?_
 refine aM ?_
 revert H; refine B5 fun y3 h3 H => ?_
 revert H; refine B3 fun y4 h4 H => ?_
 refine Z1 ?_
 refine Yo 1 rfl (iQ rfl rfl hh (sc rfl) (dF h4) rfl) ?_
 refine Z1 ?_
 revert H; refine cs (fun c3 H => ?_) fun c3 H => ?_
 revert H; refine B7 fun r1 H e1 => ?_
 cases e1; cases Hr2
 revert H; refine B3 fun r2 H e2 => ?_
 cases e2; cases Hr1
 cases H
 refine aD [] (by decide) ?_
 exact To
 revert H; refine B8 fun y5 h5 H => ?_
 revert H; refine B3 fun y6 h6 H => ?_
 refine Z1 ?_
 refine aV ?_
 refine vX (z' := true) trivial rfl rfl rfl (has rfl) (has rfl) (aK trivial) (sz rfl) (dF h6) rfl rfl ?_
 revert H; refine B3 fun z1 h7 H => ?_
 refine Z5 ?_
 refine aD [1, 0] (by decide) ?_
 exact Tm ((x6.set y5.A.toNat true, z1)) (ij H)
 refine Z4 ?_
 exact Tm ((x6, x7)) (ij H)
 clear H; intro i hi; obtain ⟨x9, x10⟩ := i; subst o2; have H := Hr2; clear Hr2; try dsimp only at H
 try dsimp only
 revert H; refine B2 fun z2 h8 H => ?_
 refine Z3 ?_
 exact Tm ((k1, x9, x10, z2)) ⟨H, ls⟩
 refine Z6 ?_
 exact Tm ((x6, x7)) (ij H)
 clear H; intro i hi; obtain ⟨x1, x2⟩ := i; subst o1; have H := Hr1; clear Hr1; try dsimp only at H
 try dsimp only
 refine Z8 ?_
 cases H
 refine aD [] (by decide) ?_
 exact To
open Go.SX Go.SW Go.Dt
def lF (fuel : Nat) (a0 : CodeProg) : Nat → Int → Option ((Unit) ⊕ (Bool))
| 0, _ => none
| k + 1, x2 =>
 if x2 < (a0.Defs.length : Int) then
  (idx a0.Defs x2).bind fun y1 =>
  (rT fuel y1).bind fun y2 =>
  bif y2 then
   (chk (x2 + 1)).bind fun z1 =>
   lF fuel a0 k z1
  else
   (some false).bind fun r => some (Sum.inr r)
 else
  some (Sum.inl ())
def kD (fuel : Nat) (a0 : CodeProg) : Nat → Int → Option ((Unit) ⊕ (Bool))
| 0, _ => none
| k + 1, x4 =>
 if x4 < (a0.Code.length : Int) then
  (pY fuel (⟨a0.Free, a0.Defs, a0.Code, a0.Main⟩ : CodeProg) x4).bind fun y3 =>
  bif y3 then
   (chk (x4 + 1)).bind fun z2 =>
   kD fuel a0 k z2
  else
   (some false).bind fun r => some (Sum.inr r)
 else
  some (Sum.inl ())
def rN (fuel : Nat) (a0 : CodeProg) : Option (Bool) :=
 if a0.Free < 0 then
  some false
 else
  if 12 < a0.Free then
   some false
  else
   if 12 < (a0.Defs.length : Int) then
    some false
   else
    if (a0.Code.length : Int) < 1 then
     some false
    else
     if 12000 < (a0.Code.length : Int) then
      some false
     else
      (lF fuel a0 fuel 0).bind fun o => match o with
      | Sum.inr r => some r
      | Sum.inl _ =>
      (kD fuel a0 fuel 0).bind fun o => match o with
      | Sum.inr r => some r
      | Sum.inl _ =>
      ((sL fuel (⟨a0.Free, a0.Defs, a0.Code, a0.Main⟩ : CodeProg)).bind fun y4 =>
      bif y4 then
       (rQ fuel (⟨a0.Free, a0.Defs, a0.Code, a0.Main⟩ : CodeProg)).bind fun y5 =>
       some y5
      else
       some false).bind fun x5 =>
      some x5
theorem aDP (fuel : Nat)  (a0 : CodeProg) (r : Bool) (H : rN fuel a0 = some r) : FnS Tryz.prog 32 [fSt eR a0] [] (aH r) (fun _ => []) := by
 unfold rN at H
 refine cF Tryz.func32 rfl Tryz.ntmps32 rfl (fun β => ?_)
 refine Z1 ?_
 refine Tn (dD rfl hh cV) fun b1 => ?_
 refine Z2 ?_
 refine aM ?_
 revert H; refine I5 (fun c1 H => ?_) fun c1 H => ?_
 refine Z12 ?_
 refine Z12 ?_
 refine Z4 ?_
 cases H
 refine aD [] (by decide) ?_
 exact To
 revert H; refine I5 (fun c2 H => ?_) fun c2 H => ?_
 refine Z12 ?_
 refine Z11 ?_
 cases H
 refine aD [] (by decide) ?_
 exact To
 revert H; refine I6 (fun c3 H => ?_) fun c3 H => ?_
 refine Z12 ?_
 refine Z5 ?_
 cases H
 refine aD [] (by decide) ?_
 exact To
 revert H; refine I6 (fun c4 H => ?_) fun c4 H => ?_
 refine Z11 ?_
 cases H
 refine aD [] (by decide) ?_
 exact To
 revert H; refine I6 (fun c5 H => ?_) fun c5 H => ?_
 refine Z5 ?_
 cases H
 refine aD [] (by decide) ?_
 exact To
 revert H; refine B3 fun o1 H Hr1 => ?_
 refine aQ (ι := Unit) (fun i => o1 = Sum.inl ()) (fun i => [(1, fEq (ptr b1))]) (fun i => [aA b1 25 [fI a0.Free, fSl aF a0.Defs, fSl aG a0.Code, fI a0.Main]]) ?_ ?_
 refine Z4 ?_
 refine Tl (ι := Nat × Int) (fun i => lF fuel a0 i.1 i.2 = _) (fun i => i.1) (fun i => [(1, fEq (ptr b1)), (3, fI i.2)]) (fun i => [aA b1 25 [fI a0.Free, fSl aF a0.Defs, fSl aG a0.Code, fI a0.Main]]) (fuel, 0) H ?_
 clear H; rintro ⟨k1, x2⟩ H
 replace H : lF fuel a0 k1 x2 = _ := H
 try dsimp only
 obtain _ | k1 := k1
 rw [lF] at H; cases H
 rw [lF] at H
 refine aM ?_
 revert H; refine I7 (fun c6 H => ?_) fun c6 H => ?_
 refine Z3 ?_
 refine aM ?_
 revert H; refine B5 fun y1 h1 H => ?_
 revert H; refine B2 fun y2 h2 H => ?_
 refine Tc (aDs _ _ _ h2) ?_
 refine Z2 ?_
 revert H; refine cs (fun c7 H => ?_) fun c7 H => ?_
 revert H; refine B6 fun z1 h3 H => ?_
 refine Z3 ?_
 exact Tm ((k1, z1)) ⟨H, ls⟩
 revert H; refine B10 fun r1 H e1 => ?_
 cases e1; cases Hr1
 cases H
 refine aD [] (by decide) ?_
 exact To
 refine Z6 ?_
 exact Tm (()) (ij H)
 clear H; intro i hi; subst o1; have H := Hr1; clear Hr1; try dsimp only at H
 try dsimp only
 revert H; refine bs fun o2 H Hr2 => ?_
 refine aQ (ι := Unit) (fun i => o2 = Sum.inl ()) (fun i => [(1, fEq (ptr b1))]) (fun i => [aA b1 25 [fI a0.Free, fSl aF a0.Defs, fSl aG a0.Code, fI a0.Main]]) ?_ ?_
 refine Z4 ?_
 refine Tl (ι := Nat × Int) (fun i => kD fuel a0 i.1 i.2 = _) (fun i => i.1) (fun i => [(1, fEq (ptr b1)), (4, fI i.2)]) (fun i => [aA b1 25 [fI a0.Free, fSl aF a0.Defs, fSl aG a0.Code, fI a0.Main]]) (fuel, 0) H ?_
 clear H; rintro ⟨k2, x4⟩ H
 replace H : kD fuel a0 k2 x4 = _ := H
 try dsimp only
 obtain _ | k2 := k2
 rw [kD] at H; cases H
 rw [kD] at H
 refine aM ?_
 revert H; refine I7 (fun c8 H => ?_) fun c8 H => ?_
 refine Z3 ?_
 refine aM ?_
 revert H; refine B4 fun y3 h4 H => ?_
 refine Tc (aEu _ _ _ _ h4) ?_
 refine Z2 ?_
 revert H; refine cs (fun c9 H => ?_) fun c9 H => ?_
 revert H; refine B6 fun z2 h5 H => ?_
 refine Z3 ?_
 exact Tm ((k2, z2)) ⟨H, ls⟩
 revert H; refine B10 fun r2 H e2 => ?_
 cases e2; cases Hr2
 cases H
 refine aD [] (by decide) ?_
 exact To
 refine Z6 ?_
 exact Tm (()) (ij H)
 clear H; intro i hi; subst o2; have H := Hr2; clear Hr2; try dsimp only at H
 try dsimp only
 revert H; refine bs fun o3 H Hr3 => ?_
 refine aQ (ι := Bool) (fun i => o3 = i) (fun i => [(2, aH i)]) (fun i => [aA b1 25 [fI a0.Free, fSl aF a0.Defs, fSl aG a0.Code, fI a0.Main]]) ?_ ?_
 revert H; refine B2 fun y4 h6 H => ?_
 refine Tc (aDk _ _ _ h6) ?_
 refine Z1 ?_
 revert H; refine cs (fun c10 H => ?_) fun c10 H => ?_
 revert H; refine B1 fun y5 h7 H => ?_
 refine Tc (aFo _ _ _ h7) ?_
 refine Z3 ?_
 exact Tm (y5) (ij H)
 refine Z5 ?_
 exact Tm (false) (ij H)
 clear H; intro x5 hi; subst o3; have H := Hr3; clear Hr3; try dsimp only at H
 try dsimp only
 refine Z1 ?_
 cases H
 refine aD [] (by decide) ?_
 exact To
def eM (a0 : Ref09_flow) (a1 : Int) (a2 : Int) (a3 : Int) : Option (Ref09_flow) :=
 (idx a0.levels a1).bind fun y1 =>
 if y1.Stack < 0 then
  (idx a0.levels a1).bind fun y2 =>
  (eK (a0.wait ++ [a1])).bind fun z1 =>
  some (⟨a0.levels.set a1.toNat (⟨a2, a3⟩ : CodeLevel), z1, a0.wrong⟩ : Ref09_flow)
 else
  bif a0.wrong then
   some (⟨a0.levels, a0.wait, true⟩ : Ref09_flow)
  else
   (idx a0.levels a1).bind fun y3 =>
   some (⟨a0.levels, a0.wait, !(decide (y3.Stack = a2) && decide (y3.Slots = a3))⟩ : Ref09_flow)
theorem fZ (p0 : Nat) (a0 : Ref09_flow) (a1 : Int) (a2 : Int) (a3 : Int) (r : Ref09_flow) (H : eM a0 a1 a2 a3 = some r) : FnS Tryz.prog 33 [fEq (.pointer (some ⟨p0, 0, none⟩)), fI a1, fI a2, fI a3] [mB p0 a0] (dQ []) (fun _ => [mB p0 r]) := by
 unfold eM at H
 refine cF Tryz.func33 rfl Tryz.ntmps33 rfl (fun β => ?_)
 refine eH (fun v1 v2 => ?_)
 refine aB 1 rfl (fun hc_v1 => ?_)
 refine aB 2 rfl (fun hc_v2 => ?_)
 refine aM ?_
 revert H; refine B6 fun y1 h1 H => ?_
 refine Z1 ?_
 refine Yy (vR 0 rfl hh (fa rfl) rfl) ?_
 refine Yo 1 rfl (iQ rfl rfl hh (sc rfl) (dF h1) rfl) ?_
 revert H; refine I2 (fun c1 H => ?_) fun c1 H => ?_
 refine Z9 ?_
 refine Yy (iG (ψs := [fI a2, fI a3]) rfl mQ rfl (bO.cons (has rfl) (dU (aK trivial)) (bO.cons (has rfl) (dU (aK trivial)) bO.nil)) rfl) ?_
 revert H; refine bs fun y2 h2 H => ?_
 refine Z1 ?_
 refine aV ?_
 refine aEU (z := (⟨a2, a3⟩ : CodeLevel)) trivial rfl rfl rfl (has rfl) (has rfl) (sz rfl) (List.getElem?_eq_some_iff.1 (dF h2)).1 ?_
 refine Z8 ?_
 refine Tn (gJ (t := tI) (xs := [a1]) rfl (et rfl) (cB.cons rfl (has rfl) (dU (aK trivial)) cB.nil) rfl rfl rfl) fun b1 => ?_
 generalize (Value.slice (some ⟨b1, 0, none⟩) _ _) = v3
 refine aB 0 rfl (fun hc_v3 => ?_)
 revert H; refine bs fun z1 h3 H => ?_
 refine bF ?_
 refine aV ?_
 refine jR trivial rfl rfl rfl (has rfl) (has rfl) (et rfl) rfl h3 (fun v4 => ?_)
 refine aB 0 rfl (fun hc_v4 => ?_)
 refine Z2 ?_
 refine aU ?_
 refine dJ (φs' := [fEq v1, fEq v4, aH a0.wrong]) trivial rfl rfl (has rfl) (has rfl) (aK hc_v4) (sz rfl) rfl rfl ?_
 refine Z2 ?_
 refine aV ?_
 refine aU ?_
 refine aU ?_
 refine bW (x := (⟨a0.levels.set a1.toNat (⟨a2, a3⟩ : CodeLevel), z1, a0.wrong⟩ : Ref09_flow)) ?_
 cases H
 exact cJ (.inl rfl) rfl rfl
 refine Z10 ?_
 revert H; refine cs (fun c2 H => ?_) fun c2 H => ?_
 refine Z12 ?_
 refine Z2 ?_
 refine dJ (φs' := [fEq v1, fEq v2, aH true]) trivial rfl rfl (has rfl) (has rfl) (aK trivial) (sz rfl) rfl rfl ?_
 refine Z1 ?_
 refine bW (x := (⟨a0.levels, a0.wait, true⟩ : Ref09_flow)) ?_
 cases H
 exact cJ (.inr rfl) rfl rfl
 revert H; refine B5 fun y3 h4 H => ?_
 refine Z1 ?_
 refine Yh 1 rfl c2 (o_loadRS rfl rfl hh (ag rfl) (dF h4)) ?_
 refine Z2 ?_
 refine Yg c2 (iG (ψs := [fI a2, fI a3]) rfl mQ rfl (bO.cons (has rfl) (dU (aK trivial)) (bO.cons (has rfl) (dU (aK trivial)) bO.nil)) rfl) ?_
 refine Yg c2 (aBd (t := aO) (u := y3) (v := (⟨a2, a3⟩ : CodeLevel)) rfl hh hh rfl rfl wU) ?_
 refine Z3 ?_
 refine dJ (φs' := [fEq v1, fEq v2, aH (!(decide (y3.Stack = a2) && decide (y3.Slots = a3)))]) trivial rfl rfl (has rfl) (has rfl) (aK trivial) (sz rfl) rfl rfl ?_
 refine Z1 ?_
 refine bW (x := (⟨a0.levels, a0.wait, !(decide (y3.Stack = a2) && decide (y3.Slots = a3))⟩ : Ref09_flow)) ?_
 cases H
 exact cJ (.inr rfl) rfl rfl
def pT (a0 : Int) : Option (Bool) :=
 (if 3 ≤ a0 then
  some (decide (a0 ≤ 7))
 else
  some false).bind fun x1 =>
 some x1
theorem aEY  (a0 : Int) (r : Bool) (H : pT a0 = some r) : FnS Tryz.prog 80 [fI a0] [] (aH r) (fun _ => []) := by
 unfold pT at H
 refine cF Tryz.func80 rfl Tryz.ntmps80 rfl (fun β => ?_)
 revert H; refine B3 fun o1 H Hr1 => ?_
 refine aQ (ι := Bool) (fun i => o1 = i) (fun i => [(2, aH i)]) (fun i => []) ?_ ?_
 revert H; refine I4 (fun c1 H => ?_) fun c1 H => ?_
 refine Z5 ?_
 exact Tm (decide (a0 ≤ 7)) (ij H)
 refine Z5 ?_
 exact Tm (false) (ij H)
 clear H; intro x1 hi; subst o1; have H := Hr1; clear Hr1; try dsimp only at H
 try dsimp only
 refine Z1 ?_
 cases H
 exact To
def jV (a1 : ScopeDef) (z2 : Int) : Nat → Int → (List CodeLevel) → (List Int) → Bool → Option (List CodeLevel × List Int × Bool)
| 0, _, _, _, _ => none
| k + 1, x8, x9, x10, x11 =>
 if x8 < (a1.Spots.length : Int) then
  (idx a1.Spots x8).bind fun y1 =>
  (eM (⟨x9, x10, x11⟩ : Ref09_flow) y1.Node 0 z2).bind fun y2 =>
  (chk (x8 + 1)).bind fun z3 =>
  jV a1 z2 k z3 y2.levels y2.wait y2.wrong
 else
  some (x9, x10, x11)
def lB (a1 : ScopeDef) (x16 : Int) : Nat → Int → Int → Option (Int)
| 0, _, _ => none
| k + 1, x26, x27 =>
 (idx a1.Rules x16).bind fun y3 =>
 if x27 < (y3.Joins.length : Int) then
  (idx a1.Rules x16).bind fun y4 =>
  (idx y4.Joins x27).bind fun y5 =>
  (idx a1.Chans y5).bind fun y6 =>
  (chk (x26 + y6.Many)).bind fun z4 =>
  (chk (x27 + 1)).bind fun z5 =>
  lB a1 x16 k z4 z5
 else
  some x26
def lI (fuel : Nat) (a1 : ScopeDef) (z2 : Int) : Nat → Int → (List CodeLevel) → (List Int) → Bool → Option (Ref09_flow)
| 0, _, _, _, _ => none
| k + 1, x16, x17, x18, x19 =>
 if x16 < (a1.Rules.length : Int) then
  ((lB a1 x16 fuel z2 0).bind fun x23 =>
  (idx a1.Rules x16).bind fun y7 =>
  (eM (⟨x17, x18, x19⟩ : Ref09_flow) y7.Node 0 x23).bind fun y8 =>
  some (y8.levels, y8.wait, y8.wrong)).bind fun (x20, x21, x22) =>
  (chk (x16 + 1)).bind fun z6 =>
  lI fuel a1 z2 k z6 x20 x21 x22
 else
  some (⟨x17, x18, x19⟩ : Ref09_flow)
def sK (fuel : Nat) (a0 : Ref09_flow) (a1 : ScopeDef) (a2 : Int) : Option (Ref09_flow) :=
 (chk (a2 + (a1.Chans.length : Int))).bind fun z1 =>
 (chk (z1 + (a1.Spots.length : Int))).bind fun z2 =>
 (jV a1 z2 fuel 0 a0.levels a0.wait a0.wrong).bind fun (x1, x2, x3) =>
 lI fuel a1 z2 fuel 0 x1 x2 x3
theorem aEv (fuel : Nat) (p0 : Nat) (a0 : Ref09_flow) (a1 : ScopeDef) (a2 : Int) (r : Ref09_flow) (H : sK fuel a0 a1 a2 = some r) : FnS Tryz.prog 81 [fEq (.pointer (some ⟨p0, 0, none⟩)), fSt aF a1, fI a2] [mB p0 a0] (dQ []) (fun _ => [mB p0 r]) := by
 unfold sK at H
 refine cF Tryz.func81 rfl Tryz.ntmps81 rfl (fun β => ?_)
 refine eH (fun v1 v2 => ?_)
 refine aB 1 rfl (fun hc_v1 => ?_)
 refine aB 2 rfl (fun hc_v2 => ?_)
 refine Z1 ?_
 refine Tn (dD rfl hh cV) fun b1 => ?_
 revert H; refine B6 fun z1 h1 H => ?_
 revert H; refine B4 fun z2 h2 H => ?_
 revert H; refine B3 fun o1 H Hr1 => ?_
 refine aQ (ι := List CodeLevel × List Int × Bool × Value × Value) (fun i => o1 = (i.1, i.2.1, i.2.2.1)) (fun i => [(0, fEq (ptr p0)), (2, fI z2), (4, fEq (ptr b1))]) (fun i => [aA b1 63 [fSl bG a1.Chans, fSl bM a1.Spots, fSl bN a1.Rules], aA p0 93 [fEq i.2.2.2.1, fEq i.2.2.2.2, aH i.2.2.1], aC i.2.2.2.1 79 aO i.1, aC i.2.2.2.2 3 tI i.2.1]) ?_ ?_
 refine Z4 ?_
 refine Tl (ι := Nat × Int × List CodeLevel × List Int × Bool × Value × Value) (fun i => jV a1 z2 i.1 i.2.1 i.2.2.1 i.2.2.2.1 i.2.2.2.2.1 = _) (fun i => i.1) (fun i => [(0, fEq (ptr p0)), (2, fI z2), (4, fEq (ptr b1)), (6, fI i.2.1)]) (fun i => [aA b1 63 [fSl bG a1.Chans, fSl bM a1.Spots, fSl bN a1.Rules], aA p0 93 [fEq i.2.2.2.2.2.1, fEq i.2.2.2.2.2.2, aH i.2.2.2.2.1], aC i.2.2.2.2.2.1 79 aO i.2.2.1, aC i.2.2.2.2.2.2 3 tI i.2.2.2.1]) (fuel, 0, a0.levels, a0.wait, a0.wrong, v1, v2) H ?_
 clear H; rintro ⟨k1, x8, x9, x10, x11, v7, v8⟩ H
 replace H : jV a1 z2 k1 x8 x9 x10 x11 = _ := H
 try dsimp only
 obtain _ | k1 := k1
 rw [jV] at H; cases H
 rw [jV] at H
 refine aB 2 rfl (fun hc_v7 => ?_)
 refine aB 3 rfl (fun hc_v8 => ?_)
 refine aM ?_
 revert H; refine I7 (fun c1 H => ?_) fun c1 H => ?_
 refine Z3 ?_
 refine aM ?_
 revert H; refine B6 fun y1 h3 H => ?_
 refine Z4 ?_
 refine bF ?_
 refine bF ?_
 refine bF ?_
 refine bW (x := (⟨x9, x10, x11⟩ : Ref09_flow)) ?_
 revert H; refine bs fun y2 h4 H => ?_
 refine Tc (fZ _ _ _ _ _ _ h4) ?_
 refine eH (fun v9 v10 => ?_)
 refine aB 1 rfl (fun hc_v9 => ?_)
 refine aB 2 rfl (fun hc_v10 => ?_)
 revert H; refine B5 fun z3 h5 H => ?_
 refine Z3 ?_
 refine aD [3, 0, 1, 2] (by decide) ?_
 exact Tm ((k1, z3, y2.levels, y2.wait, y2.wrong, v9, v10)) ⟨H, ls⟩
 refine Z6 ?_
 exact Tm ((x9, x10, x11, v7, v8)) (ij H)
 clear H; intro i hi; obtain ⟨x1, x2, x3, v3, v4⟩ := i; subst o1; have H := Hr1; clear Hr1; try dsimp only at H
 try dsimp only
 refine aB 2 rfl (fun hc_v3 => ?_)
 refine aB 3 rfl (fun hc_v4 => ?_)
 refine Z4 ?_
 refine Tl (ι := Nat × Int × List CodeLevel × List Int × Bool × Value × Value) (fun i => lI fuel a1 z2 i.1 i.2.1 i.2.2.1 i.2.2.2.1 i.2.2.2.2.1 = _) (fun i => i.1) (fun i => [(0, fEq (ptr p0)), (2, fI z2), (4, fEq (ptr b1)), (7, fI i.2.1)]) (fun i => [aA b1 63 [fSl bG a1.Chans, fSl bM a1.Spots, fSl bN a1.Rules], aA p0 93 [fEq i.2.2.2.2.2.1, fEq i.2.2.2.2.2.2, aH i.2.2.2.2.1], aC i.2.2.2.2.2.1 79 aO i.2.2.1, aC i.2.2.2.2.2.2 3 tI i.2.2.2.1]) (fuel, 0, x1, x2, x3, v3, v4) H ?_
 clear H; rintro ⟨k2, x16, x17, x18, x19, v13, v14⟩ H
 replace H : lI fuel a1 z2 k2 x16 x17 x18 x19 = _ := H
 try dsimp only
 obtain _ | k2 := k2
 rw [lI] at H; cases H
 rw [lI] at H
 refine aB 2 rfl (fun hc_v13 => ?_)
 refine aB 3 rfl (fun hc_v14 => ?_)
 refine aM ?_
 revert H; refine I7 (fun c2 H => ?_) fun c2 H => ?_
 revert H; refine B3 fun o2 H Hr2 => ?_
 refine aQ (ι := List CodeLevel × List Int × Bool × Value × Value) (fun i => o2 = (i.1, i.2.1, i.2.2.1)) (fun i => [(0, fEq (ptr p0)), (2, fI z2), (4, fEq (ptr b1)), (7, fI x16)]) (fun i => [aA p0 93 [fEq i.2.2.2.1, fEq i.2.2.2.2, aH i.2.2.1], aA b1 63 [fSl bG a1.Chans, fSl bM a1.Spots, fSl bN a1.Rules], aC i.2.2.2.1 79 aO i.1, aC i.2.2.2.2 3 tI i.2.1]) ?_ ?_
 revert H; refine B5 fun o3 H Hr3 => ?_
 refine aQ (ι := Int) (fun i => o3 = i) (fun i => [(0, fEq (ptr p0)), (2, fI z2), (4, fEq (ptr b1)), (7, fI x16), (8, fI i)]) (fun i => [aA b1 63 [fSl bG a1.Chans, fSl bM a1.Spots, fSl bN a1.Rules], aA p0 93 [fEq v13, fEq v14, aH x19], aC v13 79 aO x17, aC v14 3 tI x18]) ?_ ?_
 refine Z4 ?_
 refine Tl (ι := Nat × Int × Int) (fun i => lB a1 x16 i.1 i.2.1 i.2.2 = _) (fun i => i.1) (fun i => [(0, fEq (ptr p0)), (2, fI z2), (4, fEq (ptr b1)), (7, fI x16), (8, fI i.2.1), (9, fI i.2.2)]) (fun i => [aA b1 63 [fSl bG a1.Chans, fSl bM a1.Spots, fSl bN a1.Rules], aA p0 93 [fEq v13, fEq v14, aH x19], aC v13 79 aO x17, aC v14 3 tI x18]) (fuel, z2, 0) H ?_
 clear H; rintro ⟨k3, x26, x27⟩ H
 replace H : lB a1 x16 k3 x26 x27 = _ := H
 try dsimp only
 obtain _ | k3 := k3
 rw [lB] at H; cases H
 rw [lB] at H
 refine aM ?_
 revert H; refine B5 fun y3 h6 H => ?_
 revert H; refine I6 (fun c3 H => ?_) fun c3 H => ?_
 refine Z3 ?_
 refine aM ?_
 revert H; refine B1 fun y4 h7 H => ?_
 revert H; refine bs fun y5 h8 H => ?_
 revert H; refine bs fun y6 h9 H => ?_
 revert H; refine bs fun z4 h10 H => ?_
 apply cL (ods := [_, _, _, _, _, _, _, _, _, _, _, _, _, _, _, _, _]) 17 0 4 cK rfl rfl rfl
 refine ND ?_
 refine M8 ?_
 intros
 refine M8 ?_
 intros
 refine M1 ?_
 intros
 revert H; refine B6 fun z5 h11 H => ?_
 refine Z3 ?_
 exact Tm ((k3, z4, z5)) ⟨H, ls⟩
 exact fk
 kernel_rfl
 refine Z6 ?_
 exact Tm (x26) (ij H)
 clear H; intro x23 hi; subst o3; have H := Hr3; clear Hr3; try dsimp only at H
 try dsimp only
 revert H; refine B5 fun y7 h12 H => ?_
 refine Z4 ?_
 refine bF ?_
 refine bF ?_
 refine bF ?_
 refine bW (x := (⟨x17, x18, x19⟩ : Ref09_flow)) ?_
 revert H; refine bs fun y8 h13 H => ?_
 refine Tc (fZ _ _ _ _ _ _ h13) ?_
 refine eH (fun v17 v18 => ?_)
 refine aB 1 rfl (fun hc_v17 => ?_)
 refine aB 2 rfl (fun hc_v18 => ?_)
 refine Z3 ?_
 refine aD [0, 3, 1, 2] (by decide) ?_
 exact Tm ((y8.levels, y8.wait, y8.wrong, v17, v18)) (ij H)
 clear H; intro i hi; obtain ⟨x20, x21, x22, v15, v16⟩ := i; subst o2; have H := Hr2; clear Hr2; try dsimp only at H
 try dsimp only
 refine aB 2 rfl (fun hc_v15 => ?_)
 refine aB 3 rfl (fun hc_v16 => ?_)
 revert H; refine B2 fun z6 h14 H => ?_
 refine Z3 ?_
 refine aD [1, 0, 2, 3] (by decide) ?_
 exact Tm ((k2, z6, x20, x21, x22, v15, v16)) ⟨H, ls⟩
 refine Z5 ?_
 refine bF ?_
 refine bF ?_
 refine bF ?_
 refine bW (x := (⟨x17, x18, x19⟩ : Ref09_flow)) ?_
 cases H
 refine aD [0] (by decide) ?_
 exact cJ (.inr rfl) rfl rfl
end Go.Proofs.YtjahnkcjbglnoaaGreatDoor
