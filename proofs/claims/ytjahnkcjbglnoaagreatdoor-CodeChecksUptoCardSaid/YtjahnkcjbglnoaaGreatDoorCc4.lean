/- Parts of the proof: lemmas, and the steps through the program. -/
import Derived.Test.YtjahnkcjbglnoaaGreatDoorCc3
import Derived.Test.YtjahnkcjbglnoaaGreatDoorProg
import Derived.KernelRfl
import Derived.ReadAgain
import Derived.ChangeReads
import Derived.ChangeStays
import Derived.ChangeBears
set_option linter.unusedVariables false
set_option linter.unusedSimpArgs false
set_option maxRecDepth 100000
set_option maxHeartbeats 2000000
namespace Go.Proofs.YtjahnkcjbglnoaaGreatDoor
open Go.SX Go.SW Go.Dt
attribute [local irreducible] Code.wpIn wpListIn Exit.then Exit.inBlock
def mD (fuel : Nat) (a0 : Ref09_flow) (a1 : CodeProg) (a2 : Int) : Option (Ref09_flow) :=
 (idx a0.levels a2).bind fun y1 =>
 (idx a0.levels a2).bind fun y2 =>
 (idx a1.Code a2).bind fun y3 =>
 ((pT y3.Op).bind fun y4 =>
 bif y4 then
  some 2
 else
  if y3.Op = 9 then
   some 1
  else
   if y3.Op = 8 then
    some y3.B
   else
    some 0).bind fun x1 =>
 ((mI y3.Op).bind fun y5 =>
 bif y5 then
  some true
 else
  if y3.Op = 14 then
   some true
  else
   if y3.Op = 11 then
    some true
   else
    some (decide (y3.Op = 16))).bind fun x2 =>
 ((mI y3.Op).bind fun y6 =>
 bif y6 then
  some true
 else
  if y3.Op = 2 then
   some true
  else
   some (decide (y3.Op = 8))).bind fun x3 =>
 (if y1.Stack < x1 then
  (some (⟨a0.levels, a0.wait, true⟩ : Ref09_flow)).bind fun r => some (Sum.inr r)
 else
  bif x2 then
   if 0 < y1.Stack then
    (some (⟨a0.levels, a0.wait, true⟩ : Ref09_flow)).bind fun r => some (Sum.inr r)
   else
    bif x3 then
     if y2.Slots ≤ y3.A then
      (some (⟨a0.levels, a0.wait, true⟩ : Ref09_flow)).bind fun r => some (Sum.inr r)
     else
      if y3.Op = 12 then
       if y2.Slots < y3.A then
        (some (⟨a0.levels, a0.wait, true⟩ : Ref09_flow)).bind fun r => some (Sum.inr r)
       else
        some (Sum.inl ())
      else
       some (Sum.inl ())
    else
     if y3.Op = 12 then
      if y2.Slots < y3.A then
       (some (⟨a0.levels, a0.wait, true⟩ : Ref09_flow)).bind fun r => some (Sum.inr r)
      else
       some (Sum.inl ())
     else
      some (Sum.inl ())
  else
   bif x3 then
    if y2.Slots ≤ y3.A then
     (some (⟨a0.levels, a0.wait, true⟩ : Ref09_flow)).bind fun r => some (Sum.inr r)
    else
     if y3.Op = 12 then
      if y2.Slots < y3.A then
       (some (⟨a0.levels, a0.wait, true⟩ : Ref09_flow)).bind fun r => some (Sum.inr r)
      else
       some (Sum.inl ())
     else
      some (Sum.inl ())
   else
    if y3.Op = 12 then
     if y2.Slots < y3.A then
      (some (⟨a0.levels, a0.wait, true⟩ : Ref09_flow)).bind fun r => some (Sum.inr r)
     else
      some (Sum.inl ())
    else
     some (Sum.inl ())).bind fun o => match o with
 | Sum.inr r => some r
 | Sum.inl _ =>
 (if y3.Op = 1 then
  some (decide (y3.Op = 1))
 else
  some (decide (y3.Op = 2))).bind fun x4 =>
 bif x4 then
  (chk (a2 + 1)).bind fun z1 =>
  (chk (y1.Stack + 1)).bind fun z2 =>
  (eM (⟨a0.levels, a0.wait, a0.wrong⟩ : Ref09_flow) z1 z2 y2.Slots).bind fun y7 =>
  some (⟨y7.levels, y7.wait, y7.wrong⟩ : Ref09_flow)
 else
  if y3.Op = 8 then
   (chk (a2 + 1)).bind fun z3 =>
   (chk (y1.Stack - y3.B)).bind fun z4 =>
   (eM (⟨a0.levels, a0.wait, a0.wrong⟩ : Ref09_flow) z3 z4 y2.Slots).bind fun y8 =>
   some (⟨y8.levels, y8.wait, y8.wrong⟩ : Ref09_flow)
  else
   if y3.Op = 9 then
    (chk (a2 + 1)).bind fun z5 =>
    (chk (y1.Stack - 1)).bind fun z6 =>
    (eM (⟨a0.levels, a0.wait, a0.wrong⟩ : Ref09_flow) z5 z6 y2.Slots).bind fun y9 =>
    (chk (y1.Stack - 1)).bind fun z7 =>
    (eM (⟨y9.levels, y9.wait, y9.wrong⟩ : Ref09_flow) y3.A z7 y2.Slots).bind fun y10 =>
    some (⟨y10.levels, y10.wait, y10.wrong⟩ : Ref09_flow)
   else
    if y3.Op = 10 then
     (eM (⟨a0.levels, a0.wait, a0.wrong⟩ : Ref09_flow) y3.A y1.Stack y2.Slots).bind fun y11 =>
     some (⟨y11.levels, y11.wait, y11.wrong⟩ : Ref09_flow)
    else
     if y3.Op = 11 then
      (idx a1.Defs y3.A).bind fun y12 =>
      (sK fuel (⟨a0.levels, a0.wait, a0.wrong⟩ : Ref09_flow) y12 y2.Slots).bind fun y13 =>
      (chk (a2 + 1)).bind fun z8 =>
      (idx a1.Defs y3.A).bind fun y14 =>
      (chk (y2.Slots + (y14.Chans.length : Int))).bind fun z9 =>
      (idx a1.Defs y3.A).bind fun y15 =>
      (chk (z9 + (y15.Spots.length : Int))).bind fun z10 =>
      (eM (⟨y13.levels, y13.wait, y13.wrong⟩ : Ref09_flow) z8 y1.Stack z10).bind fun y16 =>
      some (⟨y16.levels, y16.wait, y16.wrong⟩ : Ref09_flow)
     else
      if y3.Op = 12 then
       (chk (a2 + 1)).bind fun z11 =>
       (eM (⟨a0.levels, a0.wait, a0.wrong⟩ : Ref09_flow) z11 y1.Stack y3.A).bind fun y17 =>
       some (⟨y17.levels, y17.wait, y17.wrong⟩ : Ref09_flow)
      else
       (if y3.Op = 13 then
        some (decide (y3.Op = 13))
       else
        some (decide (y3.Op = 15))).bind fun x5 =>
       bif x5 then
        (eM (⟨a0.levels, a0.wait, a0.wrong⟩ : Ref09_flow) y3.B 0 y2.Slots).bind fun y18 =>
        (chk (a2 + 1)).bind fun z12 =>
        (eM (⟨y18.levels, y18.wait, y18.wrong⟩ : Ref09_flow) z12 y1.Stack y2.Slots).bind fun y19 =>
        some (⟨y19.levels, y19.wait, y19.wrong⟩ : Ref09_flow)
       else
        if y3.Op = 14 then
         (chk (a2 + 1)).bind fun z13 =>
         (eM (⟨a0.levels, a0.wait, a0.wrong⟩ : Ref09_flow) z13 y1.Stack y2.Slots).bind fun y20 =>
         some (⟨y20.levels, y20.wait, y20.wrong⟩ : Ref09_flow)
        else
         if y3.Op = 16 then
          some (⟨a0.levels, a0.wait, a0.wrong⟩ : Ref09_flow)
         else
          (chk (a2 + 1)).bind fun z14 =>
          (chk (y1.Stack - 1)).bind fun z15 =>
          (eM (⟨a0.levels, a0.wait, a0.wrong⟩ : Ref09_flow) z14 z15 y2.Slots).bind fun y21 =>
          some (⟨y21.levels, y21.wait, y21.wrong⟩ : Ref09_flow)
theorem aDE (fuel : Nat) (p0 : Nat) (a0 : Ref09_flow) (a1 : CodeProg) (a2 : Int) (r : Ref09_flow) (H : mD fuel a0 a1 a2 = some r) : FnS Tryz.prog 34 [fEq (.pointer (some ⟨p0, 0, none⟩)), fSt eR a1, fI a2] [mB p0 a0] (dQ []) (fun _ => [mB p0 r]) := by
 unfold mD at H
 refine cF Tryz.func34 rfl Tryz.ntmps34 rfl (fun β => ?_)
 refine eH (fun v1 v2 => ?_)
 refine aB 1 rfl (fun hc_v1 => ?_)
 refine aB 2 rfl (fun hc_v2 => ?_)
 refine Z1 ?_
 refine pM trivial rfl rfl (dD rfl (has rfl) cV) (fun b1 => ?_)
 refine Z1 ?_
 refine aM ?_
 revert H; refine bs fun y1 h1 H => ?_
 revert H; refine bs fun y2 h2 H => ?_
 apply cL (ods := [_, _, _, _, _, _, _, _, _, _, _, _, _, _, _, _, _, _]) 18 0 4 cK rfl rfl rfl
 refine ND ?_
 refine M5 ?_
 intros
 refine Mo 2 rfl (qD rfl hh hh (el rfl) h1) fun _ => ?_
 refine My (vR 0 rfl hh (fa rfl) rfl) fun _ => ?_
 refine Mo 2 rfl (iQ rfl rfl hh (sc rfl) (dF h1) rfl) fun _ => ?_
 refine M5 ?_
 intros
 refine Mo 2 rfl (qD rfl hh hh (el rfl) h2) fun _ => ?_
 refine My (vR 1 rfl hh (fa rfl) rfl) fun _ => ?_
 refine Mo 2 rfl (iQ rfl rfl hh (sc rfl) (dF h2) rfl) fun _ => ?_
 refine M2 ?_
 intros
 refine Z6 ?_
 revert H; refine bs fun y3 h3 H => ?_
 refine Yy (eE rfl hh hh (el rfl) h3) ?_
 refine Z1 ?_
 refine pM trivial rfl rfl (dL rfl rV rfl) (fun b2 => ?_)
 refine dH (φs' := [fI y3.Op, fI y3.A, fI y3.B]) trivial rfl rfl (has rfl) (has rfl) (aP (aK trivial) (aP (aK trivial) (aP (aK trivial) bY))) (sz rfl) rfl rfl rfl ?_
 refine Z4 ?_
 revert H; refine bs fun o1 H Hr1 => ?_
 refine aQ (ι := Int) (fun i => o1 = i) (fun i => [(0, fEq (ptr p0)), (2, fI a2), (4, fEq (ptr b1)), (6, fI y1.Stack), (7, fI y2.Slots), (8, fEq (ptr b2)), (9, fI i)]) (fun i => [aA b2 73 [fI y3.Op, fI y3.A, fI y3.B], aA b1 25 [fI a1.Free, fSl aF a1.Defs, fSl aG a1.Code, fI a1.Main], aA p0 93 [fEq v1, fEq v2, aH a0.wrong], aC v1 79 aO a0.levels, aC v2 3 tI a0.wait]) ?_ ?_
 refine Z4 ?_
 revert H; refine bs fun y4 h4 H => ?_
 refine eU trivial rfl rfl rfl hh (aI.cons hh aI.nil) rfl (cb rfl) (aEY y3.Op y4 h4) rfl ?_
 refine Z2 ?_
 revert H; refine cs (fun c1 H => ?_) fun c1 H => ?_
 refine dA hh c1 ?_
 refine Z5 ?_
 exact cE (2) (Option.some.inj H).symm (Sc (Sc (Sc (Sc (Sc (Sc (Sc bE.nil))))))) rfl
 refine cX hh c1 ?_
 refine Z6 ?_
 revert H; refine is (fun c2 H => ?_) fun c2 H => ?_
 refine dA hh c2 ?_
 refine Z5 ?_
 exact cE (1) (Option.some.inj H).symm (Sc (Sc (Sc (Sc (Sc (Sc (Sc bE.nil))))))) rfl
 refine cX hh c2 ?_
 refine Z6 ?_
 revert H; refine is (fun c3 H => ?_) fun c3 H => ?_
 refine dA hh c3 ?_
 refine Z7 ?_
 exact cE (y3.B) (Option.some.inj H).symm (Sc (Sc (Sc (Sc (Sc (Sc (Sc bE.nil))))))) rfl
 refine cX hh c3 ?_
 refine Z3 ?_
 exact cE (0) (Option.some.inj H).symm (Sc (Sc (Sc (Sc (Sc (Sc (Sc bE.nil))))))) rfl
 clear H; intro x1 hi; subst o1; have H := Hr1; clear Hr1; try dsimp only at H
 try dsimp only
 revert H; refine bs fun o2 H Hr2 => ?_
 refine aQ (ι := Bool) (fun i => o2 = i) (fun i => [(0, fEq (ptr p0)), (2, fI a2), (4, fEq (ptr b1)), (6, fI y1.Stack), (7, fI y2.Slots), (8, fEq (ptr b2)), (9, fI x1), (10, aH i)]) (fun i => [aA b2 73 [fI y3.Op, fI y3.A, fI y3.B], aA b1 25 [fI a1.Free, fSl aF a1.Defs, fSl aG a1.Code, fI a1.Main], aA p0 93 [fEq v1, fEq v2, aH a0.wrong], aC v1 79 aO a0.levels, aC v2 3 tI a0.wait]) ?_ ?_
 refine Z3 ?_
 revert H; refine bs fun y5 h5 H => ?_
 refine eU trivial rfl rfl rfl hh (aI.cons hh aI.nil) rfl (cb rfl) (wT y3.Op y5 h5) rfl ?_
 refine Z1 ?_
 revert H; refine cs (fun c4 H => ?_) fun c4 H => ?_
 refine Yt c4 ?_
 refine Yt c4 ?_
 refine Yt c4 ?_
 refine Yy (dC rfl hh c4 hh) ?_
 refine Z12 ?_
 exact cE (true) (Option.some.inj H).symm (Sc (Sc (Sc (Sc (Sc (Sc (Sc (Sc bE.nil)))))))) rfl
 refine Yg c4 (bZ 0 rfl hh (fa rfl) rfl) ?_
 refine Yh 0 rfl c4 (bX rfl hh (sc rfl) rfl Ent.rfl) ?_
 refine Yg c4 (mO rfl hh hh) ?_
 refine Yy (bS rfl hh c4 hh) ?_
 refine Z1 ?_
 revert H; refine is (fun c5 H => ?_) fun c5 H => ?_
 refine Yt c5 ?_
 refine Yt c5 ?_
 refine Yt c5 ?_
 refine Yy (dC rfl hh c5 hh) ?_
 refine Z7 ?_
 exact cE (true) (Option.some.inj H).symm (Sc (Sc (Sc (Sc (Sc (Sc (Sc (Sc bE.nil)))))))) rfl
 refine Yg c5 (bZ 0 rfl hh (fa rfl) rfl) ?_
 refine Yh 0 rfl c5 (bX rfl hh (sc rfl) rfl Ent.rfl) ?_
 refine Yg c5 (mO rfl hh hh) ?_
 refine Yy (bS rfl hh c5 hh) ?_
 refine Z1 ?_
 revert H; refine is (fun c6 H => ?_) fun c6 H => ?_
 refine Yt c6 ?_
 refine Yt c6 ?_
 refine Yt c6 ?_
 refine Yy (dC rfl hh c6 hh) ?_
 refine Z2 ?_
 exact cE (true) (Option.some.inj H).symm (Sc (Sc (Sc (Sc (Sc (Sc (Sc (Sc bE.nil)))))))) rfl
 refine Yg c6 (bZ 0 rfl hh (fa rfl) rfl) ?_
 refine Yh 0 rfl c6 (bX rfl hh (sc rfl) rfl Ent.rfl) ?_
 refine Yg c6 (mO rfl hh hh) ?_
 refine Yy (bS rfl hh c6 hh) ?_
 refine Z2 ?_
 exact cE (decide (y3.Op = 16)) (Option.some.inj H).symm (Sc (Sc (Sc (Sc (Sc (Sc (Sc (Sc bE.nil)))))))) rfl
 clear H; intro x2 hi; subst o2; have H := Hr2; clear Hr2; try dsimp only at H
 try dsimp only
 revert H; refine bs fun o3 H Hr3 => ?_
 refine aQ (ι := Bool) (fun i => o3 = i) (fun i => [(0, fEq (ptr p0)), (2, fI a2), (4, fEq (ptr b1)), (6, fI y1.Stack), (7, fI y2.Slots), (8, fEq (ptr b2)), (9, fI x1), (10, aH x2), (11, aH i)]) (fun i => [aA b2 73 [fI y3.Op, fI y3.A, fI y3.B], aA b1 25 [fI a1.Free, fSl aF a1.Defs, fSl aG a1.Code, fI a1.Main], aA p0 93 [fEq v1, fEq v2, aH a0.wrong], aC v1 79 aO a0.levels, aC v2 3 tI a0.wait]) ?_ ?_
 refine Z3 ?_
 revert H; refine bs fun y6 h6 H => ?_
 refine eU trivial rfl rfl rfl hh (aI.cons hh aI.nil) rfl (cb rfl) (wT y3.Op y6 h6) rfl ?_
 refine Z1 ?_
 revert H; refine cs (fun c7 H => ?_) fun c7 H => ?_
 refine Yt c7 ?_
 refine Yt c7 ?_
 refine Yt c7 ?_
 refine Yy (dC rfl hh c7 hh) ?_
 refine Z7 ?_
 exact cE (true) (Option.some.inj H).symm (Sc (Sc (Sc (Sc (Sc (Sc (Sc (Sc (Sc bE.nil))))))))) rfl
 refine Yg c7 (bZ 0 rfl hh (fa rfl) rfl) ?_
 refine Yh 0 rfl c7 (bX rfl hh (sc rfl) rfl Ent.rfl) ?_
 refine Yg c7 (mO rfl hh hh) ?_
 refine Yy (bS rfl hh c7 hh) ?_
 refine Z1 ?_
 revert H; refine is (fun c8 H => ?_) fun c8 H => ?_
 refine Yt c8 ?_
 refine Yt c8 ?_
 refine Yt c8 ?_
 refine Yy (dC rfl hh c8 hh) ?_
 refine Z2 ?_
 exact cE (true) (Option.some.inj H).symm (Sc (Sc (Sc (Sc (Sc (Sc (Sc (Sc (Sc bE.nil))))))))) rfl
 refine Yg c8 (bZ 0 rfl hh (fa rfl) rfl) ?_
 refine Yh 0 rfl c8 (bX rfl hh (sc rfl) rfl Ent.rfl) ?_
 refine Yg c8 (mO rfl hh hh) ?_
 refine Yy (bS rfl hh c8 hh) ?_
 refine Z2 ?_
 exact cE (decide (y3.Op = 8)) (Option.some.inj H).symm (Sc (Sc (Sc (Sc (Sc (Sc (Sc (Sc (Sc bE.nil))))))))) rfl
 clear H; intro x3 hi; subst o3; have H := Hr3; clear Hr3; try dsimp only at H
 try dsimp only
 revert H; refine bs fun o4 H Hr4 => ?_
 refine aQ (ι := Unit) (fun i => o4 = Sum.inl ()) (fun i => [(0, fEq (ptr p0)), (2, fI a2), (4, fEq (ptr b1)), (6, fI y1.Stack), (7, fI y2.Slots), (8, fEq (ptr b2))]) (fun i => [aA b2 73 [fI y3.Op, fI y3.A, fI y3.B], aA b1 25 [fI a1.Free, fSl aF a1.Defs, fSl aG a1.Code, fI a1.Main], aA p0 93 [fEq v1, fEq v2, aH a0.wrong], aC v1 79 aO a0.levels, aC v2 3 tI a0.wait]) ?_ ?_
 refine Z5 ?_
 revert H; refine is (fun c9 H => ?_) fun c9 H => ?_
 refine Yt c9 ?_
 refine Yt c9 ?_
 refine aW (⟨_, _, _, _, rfl, rfl, rfl, nu⟩) rfl rfl ?_
 refine aW (⟨_, _, _, _, rfl, rfl, rfl, nu⟩) rfl rfl ?_
 refine Yt c9 ?_
 refine Yy (dC rfl hh c9 hh) ?_
 refine Z3 ?_
 refine aW (⟨_, _, _, _, rfl, rfl, rfl, nu⟩) rfl rfl ?_
 refine aW (⟨_, _, _, _, rfl, rfl, rfl, nu⟩) rfl rfl ?_
 refine aW (⟨_, _, _, _, rfl, rfl, rfl, nu⟩) rfl rfl ?_
 refine aW (⟨_, _, _, _, rfl, rfl, rfl, nu⟩) rfl rfl ?_
 refine Z7 ?_
 refine aW (⟨_, _, _, _, rfl, rfl, rfl, nu⟩) rfl rfl ?_
 refine aW (⟨_, _, _, _, rfl, rfl, rfl, nu⟩) rfl rfl ?_
 refine aW (⟨_, _, _, _, rfl, rfl, rfl, nu⟩) rfl rfl ?_
 refine aW (⟨_, _, _, _, rfl, rfl, rfl, nu⟩) rfl rfl ?_
 refine Z8 ?_
 refine aU ?_
 refine dJ (φs' := [fEq v1, fEq v2, aH true]) trivial rfl rfl (has rfl) (has rfl) (aK trivial) (sz rfl) rfl rfl ?_
 refine Z2 ?_
 revert H; refine bs fun r1 H e1 => ?_
 have e1 := Option.some.inj e1; subst e1; have Hr4 := Option.some.inj Hr4; subst Hr4
 refine aL ?_
 refine aL ?_
 refine aU ?_
 refine bW (x := (⟨a0.levels, a0.wait, true⟩ : Ref09_flow)) ?_
 cases H
 refine aD [0] (by decide) ?_
 exact cJ (.inl rfl) rfl rfl
 refine Yg c9 (cU rfl hh) ?_
 refine Yg c9 (cU rfl hh) ?_
 revert H; refine cs (fun c10 H => ?_) fun c10 H => ?_
 refine Yg c10 (cU rfl hh) ?_
 refine Yg c10 (fK rfl hh hh) ?_
 refine Yg c9 (dC rfl hh c10 hh) ?_
 refine Yy (bS rfl hh c9 hh) ?_
 refine Z1 ?_
 revert H; refine is (fun c11 H => ?_) fun c11 H => ?_
 refine Yt c11 ?_
 refine Yt c11 ?_
 refine aW (⟨_, _, _, _, rfl, rfl, rfl, nu⟩) rfl rfl ?_
 refine aW (⟨_, _, _, _, rfl, rfl, rfl, nu⟩) rfl rfl ?_
 refine aW (⟨_, _, _, _, rfl, rfl, rfl, nu⟩) rfl rfl ?_
 refine aW (⟨_, _, _, _, rfl, rfl, rfl, nu⟩) rfl rfl ?_
 refine Yt c11 ?_
 refine Yy (dC rfl hh c11 hh) ?_
 refine Z5 ?_
 refine aW (⟨_, _, _, _, rfl, rfl, rfl, nu⟩) rfl rfl ?_
 refine aW (⟨_, _, _, _, rfl, rfl, rfl, nu⟩) rfl rfl ?_
 refine aW (⟨_, _, _, _, rfl, rfl, rfl, nu⟩) rfl rfl ?_
 refine aW (⟨_, _, _, _, rfl, rfl, rfl, nu⟩) rfl rfl ?_
 refine Z8 ?_
 refine aU ?_
 refine dJ (φs' := [fEq v1, fEq v2, aH true]) trivial rfl rfl (has rfl) (has rfl) (aK trivial) (sz rfl) rfl rfl ?_
 refine Z2 ?_
 revert H; refine bs fun r2 H e2 => ?_
 have e2 := Option.some.inj e2; subst e2; have Hr4 := Option.some.inj Hr4; subst Hr4
 refine aL ?_
 refine aL ?_
 refine aU ?_
 refine bW (x := (⟨a0.levels, a0.wait, true⟩ : Ref09_flow)) ?_
 cases H
 refine aD [0] (by decide) ?_
 exact cJ (.inl rfl) rfl rfl
 refine Yg c11 (cU rfl hh) ?_
 refine Yg c11 (cU rfl hh) ?_
 revert H; refine cs (fun c12 H => ?_) fun c12 H => ?_
 refine Yg c12 (bZ 1 rfl hh (fa rfl) rfl) ?_
 refine Yh 0 rfl c12 (bX rfl hh (sc rfl) rfl Ent.rfl) ?_
 refine Yg c12 (cU rfl hh) ?_
 refine Yg c12 (pR rfl hh hh) ?_
 refine Yg c11 (dC rfl hh c12 hh) ?_
 refine Yy (bS rfl hh c11 hh) ?_
 refine Z1 ?_
 revert H; refine is (fun c13 H => ?_) fun c13 H => ?_
 refine Yt c13 ?_
 refine Yt c13 ?_
 refine Yt c13 ?_
 refine Yt c13 ?_
 refine aW (⟨_, _, _, _, rfl, rfl, rfl, nu⟩) rfl rfl ?_
 refine aW (⟨_, _, _, _, rfl, rfl, rfl, nu⟩) rfl rfl ?_
 refine aW (⟨_, _, _, _, rfl, rfl, rfl, nu⟩) rfl rfl ?_
 refine aW (⟨_, _, _, _, rfl, rfl, rfl, nu⟩) rfl rfl ?_
 refine Yt c13 ?_
 refine Yy (dC rfl hh c13 hh) ?_
 refine Z6 ?_
 refine aU ?_
 refine dJ (φs' := [fEq v1, fEq v2, aH true]) trivial rfl rfl (has rfl) (has rfl) (aK trivial) (sz rfl) rfl rfl ?_
 refine Z2 ?_
 revert H; refine bs fun r3 H e3 => ?_
 have e3 := Option.some.inj e3; subst e3; have Hr4 := Option.some.inj Hr4; subst Hr4
 refine aL ?_
 refine aL ?_
 refine aU ?_
 refine bW (x := (⟨a0.levels, a0.wait, true⟩ : Ref09_flow)) ?_
 cases H
 refine aD [0] (by decide) ?_
 exact cJ (.inl rfl) rfl rfl
 refine Yg c13 (bZ 0 rfl hh (fa rfl) rfl) ?_
 refine Yh 0 rfl c13 (bX rfl hh (sc rfl) rfl Ent.rfl) ?_
 refine Yg c13 (mO rfl hh hh) ?_
 refine Yg c13 (cU rfl hh) ?_
 revert H; refine is (fun c14 H => ?_) fun c14 H => ?_
 refine Yg c14 (bZ 1 rfl hh (fa rfl) rfl) ?_
 refine Yh 0 rfl c14 (bX rfl hh (sc rfl) rfl Ent.rfl) ?_
 refine Yg c14 (cU rfl hh) ?_
 refine Yg c14 (fK rfl hh hh) ?_
 refine Yg c13 (dC rfl hh c14 hh) ?_
 refine Yy (bS rfl hh c13 hh) ?_
 refine Z1 ?_
 revert H; refine is (fun c15 H => ?_) fun c15 H => ?_
 refine dA hh c15 ?_
 refine Z4 ?_
 refine aU ?_
 refine dJ (φs' := [fEq v1, fEq v2, aH true]) trivial rfl rfl (has rfl) (has rfl) (aK trivial) (sz rfl) rfl rfl ?_
 refine Z2 ?_
 revert H; refine bs fun r4 H e4 => ?_
 have e4 := Option.some.inj e4; subst e4; have Hr4 := Option.some.inj Hr4; subst Hr4
 refine aL ?_
 refine aL ?_
 refine aU ?_
 refine bW (x := (⟨a0.levels, a0.wait, true⟩ : Ref09_flow)) ?_
 cases H
 refine aD [0] (by decide) ?_
 exact cJ (.inl rfl) rfl rfl
 refine cX hh c15 ?_
 refine Z2 ?_
 exact cE (()) (Option.some.inj H).symm (Sc (Sc (Sc (Sc (Sc (Sc bE.nil)))))) rfl
 refine Yf c14 ?_
 refine Yf c14 ?_
 refine Yf c14 ?_
 refine Yf c14 ?_
 refine Yg c13 (bS rfl hh c14 hh) ?_
 refine Yy (bS rfl hh c13 hh) ?_
 refine Z4 ?_
 exact cE (()) (Option.some.inj H).symm (Sc (Sc (Sc (Sc (Sc (Sc bE.nil)))))) rfl
 refine Yf c12 ?_
 refine Yf c12 ?_
 refine Yf c12 ?_
 refine Yf c12 ?_
 refine Yg c11 (bS rfl hh c12 hh) ?_
 refine Yy (bS rfl hh c11 hh) ?_
 refine Z5 ?_
 revert H; refine is (fun c16 H => ?_) fun c16 H => ?_
 refine Yg c16 (bZ 1 rfl hh (fa rfl) rfl) ?_
 refine Yh 0 rfl c16 (bX rfl hh (sc rfl) rfl Ent.rfl) ?_
 refine Yg c16 (cU rfl hh) ?_
 refine Yg c16 (fK rfl hh hh) ?_
 refine Yg rfl (dC rfl hh c16 hh) ?_
 refine Z2 ?_
 revert H; refine is (fun c17 H => ?_) fun c17 H => ?_
 refine dA hh c17 ?_
 refine Z4 ?_
 refine aU ?_
 refine dJ (φs' := [fEq v1, fEq v2, aH true]) trivial rfl rfl (has rfl) (has rfl) (aK trivial) (sz rfl) rfl rfl ?_
 refine Z2 ?_
 revert H; refine bs fun r5 H e5 => ?_
 have e5 := Option.some.inj e5; subst e5; have Hr4 := Option.some.inj Hr4; subst Hr4
 refine aL ?_
 refine aL ?_
 refine aU ?_
 refine bW (x := (⟨a0.levels, a0.wait, true⟩ : Ref09_flow)) ?_
 cases H
 refine aD [0] (by decide) ?_
 exact cJ (.inl rfl) rfl rfl
 refine cX hh c17 ?_
 refine Z2 ?_
 exact cE (()) (Option.some.inj H).symm (Sc (Sc (Sc (Sc (Sc (Sc bE.nil)))))) rfl
 refine Yf c16 ?_
 refine Yf c16 ?_
 refine Yf c16 ?_
 refine Yf c16 ?_
 refine Yg rfl (bS rfl hh c16 hh) ?_
 refine Z5 ?_
 exact cE (()) (Option.some.inj H).symm (Sc (Sc (Sc (Sc (Sc (Sc bE.nil)))))) rfl
 refine Yf c10 ?_
 refine Yf c10 ?_
 refine Yg c9 (bS rfl hh c10 hh) ?_
 refine Yy (bS rfl hh c9 hh) ?_
 refine Z3 ?_
 revert H; refine cs (fun c18 H => ?_) fun c18 H => ?_
 refine Yg c18 (bZ 1 rfl hh (fa rfl) rfl) ?_
 refine Yh 0 rfl c18 (bX rfl hh (sc rfl) rfl Ent.rfl) ?_
 refine Yg c18 (cU rfl hh) ?_
 refine Yg c18 (pR rfl hh hh) ?_
 refine Yg rfl (dC rfl hh c18 hh) ?_
 refine Z2 ?_
 revert H; refine is (fun c19 H => ?_) fun c19 H => ?_
 refine Yt c19 ?_
 refine Yt c19 ?_
 refine Yt c19 ?_
 refine Yt c19 ?_
 refine aW (⟨_, _, _, _, rfl, rfl, rfl, nu⟩) rfl rfl ?_
 refine aW (⟨_, _, _, _, rfl, rfl, rfl, nu⟩) rfl rfl ?_
 refine aW (⟨_, _, _, _, rfl, rfl, rfl, nu⟩) rfl rfl ?_
 refine aW (⟨_, _, _, _, rfl, rfl, rfl, nu⟩) rfl rfl ?_
 refine Yt c19 ?_
 refine Yy (dC rfl hh c19 hh) ?_
 refine Z6 ?_
 refine aU ?_
 refine dJ (φs' := [fEq v1, fEq v2, aH true]) trivial rfl rfl (has rfl) (has rfl) (aK trivial) (sz rfl) rfl rfl ?_
 refine Z2 ?_
 revert H; refine bs fun r6 H e6 => ?_
 have e6 := Option.some.inj e6; subst e6; have Hr4 := Option.some.inj Hr4; subst Hr4
 refine aL ?_
 refine aL ?_
 refine aU ?_
 refine bW (x := (⟨a0.levels, a0.wait, true⟩ : Ref09_flow)) ?_
 cases H
 refine aD [0] (by decide) ?_
 exact cJ (.inl rfl) rfl rfl
 refine Yg c19 (bZ 0 rfl hh (fa rfl) rfl) ?_
 refine Yh 0 rfl c19 (bX rfl hh (sc rfl) rfl Ent.rfl) ?_
 refine Yg c19 (mO rfl hh hh) ?_
 refine Yg c19 (cU rfl hh) ?_
 revert H; refine is (fun c20 H => ?_) fun c20 H => ?_
 refine Yg c20 (bZ 1 rfl hh (fa rfl) rfl) ?_
 refine Yh 0 rfl c20 (bX rfl hh (sc rfl) rfl Ent.rfl) ?_
 refine Yg c20 (cU rfl hh) ?_
 refine Yg c20 (fK rfl hh hh) ?_
 refine Yg c19 (dC rfl hh c20 hh) ?_
 refine Yy (bS rfl hh c19 hh) ?_
 refine Z1 ?_
 revert H; refine is (fun c21 H => ?_) fun c21 H => ?_
 refine dA hh c21 ?_
 refine Z4 ?_
 refine aU ?_
 refine dJ (φs' := [fEq v1, fEq v2, aH true]) trivial rfl rfl (has rfl) (has rfl) (aK trivial) (sz rfl) rfl rfl ?_
 refine Z2 ?_
 revert H; refine bs fun r7 H e7 => ?_
 have e7 := Option.some.inj e7; subst e7; have Hr4 := Option.some.inj Hr4; subst Hr4
 refine aL ?_
 refine aL ?_
 refine aU ?_
 refine bW (x := (⟨a0.levels, a0.wait, true⟩ : Ref09_flow)) ?_
 cases H
 refine aD [0] (by decide) ?_
 exact cJ (.inl rfl) rfl rfl
 refine cX hh c21 ?_
 refine Z2 ?_
 exact cE (()) (Option.some.inj H).symm (Sc (Sc (Sc (Sc (Sc (Sc bE.nil)))))) rfl
 refine Yf c20 ?_
 refine Yf c20 ?_
 refine Yf c20 ?_
 refine Yf c20 ?_
 refine Yg c19 (bS rfl hh c20 hh) ?_
 refine Yy (bS rfl hh c19 hh) ?_
 refine Z4 ?_
 exact cE (()) (Option.some.inj H).symm (Sc (Sc (Sc (Sc (Sc (Sc bE.nil)))))) rfl
 refine Yf c18 ?_
 refine Yf c18 ?_
 refine Yf c18 ?_
 refine Yf c18 ?_
 refine Yg rfl (bS rfl hh c18 hh) ?_
 refine Z6 ?_
 revert H; refine is (fun c22 H => ?_) fun c22 H => ?_
 refine Yg c22 (bZ 1 rfl hh (fa rfl) rfl) ?_
 refine Yh 0 rfl c22 (bX rfl hh (sc rfl) rfl Ent.rfl) ?_
 refine Yg c22 (cU rfl hh) ?_
 refine Yg c22 (fK rfl hh hh) ?_
 refine Yg rfl (dC rfl hh c22 hh) ?_
 refine Z2 ?_
 revert H; refine is (fun c23 H => ?_) fun c23 H => ?_
 refine dA hh c23 ?_
 refine Z4 ?_
 refine aU ?_
 refine dJ (φs' := [fEq v1, fEq v2, aH true]) trivial rfl rfl (has rfl) (has rfl) (aK trivial) (sz rfl) rfl rfl ?_
 refine Z2 ?_
 revert H; refine bs fun r8 H e8 => ?_
 have e8 := Option.some.inj e8; subst e8; have Hr4 := Option.some.inj Hr4; subst Hr4
 refine aL ?_
 refine aL ?_
 refine aU ?_
 refine bW (x := (⟨a0.levels, a0.wait, true⟩ : Ref09_flow)) ?_
 cases H
 refine aD [0] (by decide) ?_
 exact cJ (.inl rfl) rfl rfl
 refine cX hh c23 ?_
 refine Z2 ?_
 exact cE (()) (Option.some.inj H).symm (Sc (Sc (Sc (Sc (Sc (Sc bE.nil)))))) rfl
 refine Yf c22 ?_
 refine Yf c22 ?_
 refine Yf c22 ?_
 refine Yf c22 ?_
 refine Yg rfl (bS rfl hh c22 hh) ?_
 refine Z5 ?_
 exact cE (()) (Option.some.inj H).symm (Sc (Sc (Sc (Sc (Sc (Sc bE.nil)))))) rfl
 clear H; intro i hi; subst o4; have H := Hr4; clear Hr4; try dsimp only at H
 try dsimp only
 refine Z5 ?_
 revert H; refine bs fun o5 H Hr5 => ?_
 refine aQ (ι := Bool) (fun i => o5 = i) (fun i => [(0, fEq (ptr p0)), (2, fI a2), (4, fEq (ptr b1)), (6, fI y1.Stack), (7, fI y2.Slots), (8, fEq (ptr b2)), (112, fI y3.Op), (120, aH i)]) (fun i => [aA b2 73 [fI y3.Op, fI y3.A, fI y3.B], aA b1 25 [fI a1.Free, fSl aF a1.Defs, fSl aG a1.Code, fI a1.Main], aA p0 93 [fEq v1, fEq v2, aH a0.wrong], aC v1 79 aO a0.levels, aC v2 3 tI a0.wait]) ?_ ?_
 refine Z4 ?_
 revert H; refine is (fun c24 H => ?_) fun c24 H => ?_
 refine dA hh c24 ?_
 refine Z2 ?_
 exact cE (decide (y3.Op = 1)) (Option.some.inj H).symm (Sc (Sc (Sc (Sc (Sc (Sc (Sc (Sc bE.nil)))))))) rfl
 refine cX hh c24 ?_
 refine Z4 ?_
 exact cE (decide (y3.Op = 2)) (Option.some.inj H).symm (Sc (Sc (Sc (Sc (Sc (Sc (Sc (Sc bE.nil)))))))) rfl
 clear H; intro x4 hi; subst o5; have H := Hr5; clear Hr5; try dsimp only at H
 try dsimp only
 revert H; refine cs (fun c25 H => ?_) fun c25 H => ?_
 refine dA hh c25 ?_
 refine Z3 ?_
 revert H; refine bs fun z1 h7 H => ?_
 refine Yy (eW rfl hh hh h7) ?_
 refine Z1 ?_
 revert H; refine bs fun z2 h8 H => ?_
 refine Yy (eW rfl hh hh h8) ?_
 refine Z1 ?_
 refine aL ?_
 refine aL ?_
 refine aL ?_
 refine bW (x := (⟨a0.levels, a0.wait, a0.wrong⟩ : Ref09_flow)) ?_
 revert H; refine bs fun y7 h9 H => ?_
 refine eU trivial rfl rfl rfl hh (aI.cons hh (aI.cons hh (aI.cons hh (aI.cons hh aI.nil)))) rfl (cb rfl) (fZ p0 (⟨a0.levels, a0.wait, a0.wrong⟩ : Ref09_flow) z1 z2 y2.Slots y7 h9) rfl ?_
 refine eH (fun v3 v4 => ?_)
 refine aB 1 rfl (fun hc_v3 => ?_)
 refine aB 2 rfl (fun hc_v4 => ?_)
 refine Z2 ?_
 refine bW (x := (⟨y7.levels, y7.wait, y7.wrong⟩ : Ref09_flow)) ?_
 cases H
 refine aD [0] (by decide) ?_
 exact cJ (.inr rfl) rfl rfl
 refine cX hh c25 ?_
 refine Z4 ?_
 revert H; refine is (fun c26 H => ?_) fun c26 H => ?_
 refine dA hh c26 ?_
 refine Z3 ?_
 revert H; refine bs fun z3 h10 H => ?_
 refine Yy (eW rfl hh hh h10) ?_
 refine Z3 ?_
 revert H; refine bs fun z4 h11 H => ?_
 refine Yy (sM rfl hh hh h11) ?_
 refine Z1 ?_
 refine aL ?_
 refine aL ?_
 refine aL ?_
 refine bW (x := (⟨a0.levels, a0.wait, a0.wrong⟩ : Ref09_flow)) ?_
 revert H; refine bs fun y8 h12 H => ?_
 refine eU trivial rfl rfl rfl hh (aI.cons hh (aI.cons hh (aI.cons hh (aI.cons hh aI.nil)))) rfl (cb rfl) (fZ p0 (⟨a0.levels, a0.wait, a0.wrong⟩ : Ref09_flow) z3 z4 y2.Slots y8 h12) rfl ?_
 refine eH (fun v5 v6 => ?_)
 refine aB 1 rfl (fun hc_v5 => ?_)
 refine aB 2 rfl (fun hc_v6 => ?_)
 refine Z2 ?_
 refine bW (x := (⟨y8.levels, y8.wait, y8.wrong⟩ : Ref09_flow)) ?_
 cases H
 refine aD [0] (by decide) ?_
 exact cJ (.inr rfl) rfl rfl
 refine cX hh c26 ?_
 refine Z4 ?_
 revert H; refine is (fun c27 H => ?_) fun c27 H => ?_
 refine dA hh c27 ?_
 refine Z3 ?_
 revert H; refine bs fun z5 h13 H => ?_
 refine Yy (eW rfl hh hh h13) ?_
 refine Z1 ?_
 revert H; refine bs fun z6 h14 H => ?_
 refine Yy (sM rfl hh hh h14) ?_
 refine Z1 ?_
 refine aL ?_
 refine aL ?_
 refine aL ?_
 refine bW (x := (⟨a0.levels, a0.wait, a0.wrong⟩ : Ref09_flow)) ?_
 revert H; refine bs fun y9 h15 H => ?_
 refine eU trivial rfl rfl rfl hh (aI.cons hh (aI.cons hh (aI.cons hh (aI.cons hh aI.nil)))) rfl (cb rfl) (fZ p0 (⟨a0.levels, a0.wait, a0.wrong⟩ : Ref09_flow) z5 z6 y2.Slots y9 h15) rfl ?_
 refine eH (fun v7 v8 => ?_)
 refine aB 1 rfl (fun hc_v7 => ?_)
 refine aB 2 rfl (fun hc_v8 => ?_)
 refine Z6 ?_
 revert H; refine bs fun z7 h16 H => ?_
 refine Yy (sM rfl hh hh h16) ?_
 refine Z1 ?_
 refine bW (x := (⟨y9.levels, y9.wait, y9.wrong⟩ : Ref09_flow)) ?_
 revert H; refine bs fun y10 h17 H => ?_
 refine eU trivial rfl rfl rfl hh (aI.cons hh (aI.cons hh (aI.cons hh (aI.cons hh aI.nil)))) rfl (cb rfl) (fZ p0 (⟨y9.levels, y9.wait, y9.wrong⟩ : Ref09_flow) y3.A z7 y2.Slots y10 h17) rfl ?_
 refine eH (fun v9 v10 => ?_)
 refine aB 1 rfl (fun hc_v9 => ?_)
 refine aB 2 rfl (fun hc_v10 => ?_)
 refine Z2 ?_
 refine bW (x := (⟨y10.levels, y10.wait, y10.wrong⟩ : Ref09_flow)) ?_
 cases H
 refine aD [0] (by decide) ?_
 exact cJ (.inr rfl) rfl rfl
 refine cX hh c27 ?_
 refine Z4 ?_
 revert H; refine is (fun c28 H => ?_) fun c28 H => ?_
 refine dA hh c28 ?_
 refine Z6 ?_
 refine aL ?_
 refine aL ?_
 refine aL ?_
 refine bW (x := (⟨a0.levels, a0.wait, a0.wrong⟩ : Ref09_flow)) ?_
 revert H; refine bs fun y11 h18 H => ?_
 refine eU trivial rfl rfl rfl hh (aI.cons hh (aI.cons hh (aI.cons hh (aI.cons hh aI.nil)))) rfl (cb rfl) (fZ p0 (⟨a0.levels, a0.wait, a0.wrong⟩ : Ref09_flow) y3.A y1.Stack y2.Slots y11 h18) rfl ?_
 refine eH (fun v11 v12 => ?_)
 refine aB 1 rfl (fun hc_v11 => ?_)
 refine aB 2 rfl (fun hc_v12 => ?_)
 refine Z2 ?_
 refine bW (x := (⟨y11.levels, y11.wait, y11.wrong⟩ : Ref09_flow)) ?_
 cases H
 refine aD [0] (by decide) ?_
 exact cJ (.inr rfl) rfl rfl
 refine cX hh c28 ?_
 refine Z4 ?_
 revert H; refine is (fun c29 H => ?_) fun c29 H => ?_
 refine dA hh c29 ?_
 refine Z6 ?_
 revert H; refine bs fun y12 h19 H => ?_
 refine Yy (eE rfl hh hh (el rfl) h19) ?_
 refine Z2 ?_
 refine aL ?_
 refine aL ?_
 refine aL ?_
 refine bW (x := (⟨a0.levels, a0.wait, a0.wrong⟩ : Ref09_flow)) ?_
 revert H; refine bs fun y13 h20 H => ?_
 refine eU trivial rfl rfl rfl hh (aI.cons hh (aI.cons hh (aI.cons hh aI.nil))) rfl (cb rfl) (aEv fuel p0 (⟨a0.levels, a0.wait, a0.wrong⟩ : Ref09_flow) y12 y2.Slots y13 h20) rfl ?_
 refine eH (fun v13 v14 => ?_)
 refine aB 1 rfl (fun hc_v13 => ?_)
 refine aB 2 rfl (fun hc_v14 => ?_)
 refine Z1 ?_
 revert H; refine bs fun z8 h21 H => ?_
 revert H; refine bs fun y14 h22 H => ?_
 revert H; refine bs fun z9 h23 H => ?_
 revert H; refine bs fun y15 h24 H => ?_
 revert H; refine bs fun z10 h25 H => ?_
 apply cL (ods := [_, _, _, _, _, _, _, _, _, _, _, _, _, _, _, _, _, _, _, _, _, _, _]) 23 0 5 cK rfl rfl rfl
 refine ND ?_
 refine M2 ?_
 intros
 refine My (eW rfl hh hh h21) fun _ => ?_
 refine M6 ?_
 intros
 refine My (eE rfl hh hh (el rfl) h22) fun _ => ?_
 refine M3 ?_
 intros
 refine My (eW rfl hh hh h23) fun _ => ?_
 refine M4 ?_
 intros
 refine My (eE rfl hh hh (el rfl) h24) fun _ => ?_
 refine M3 ?_
 intros
 refine My (eW rfl hh hh h25) fun _ => ?_
 refine Z1 ?_
 refine bW (x := (⟨y13.levels, y13.wait, y13.wrong⟩ : Ref09_flow)) ?_
 revert H; refine bs fun y16 h26 H => ?_
 refine eU trivial rfl rfl rfl hh (aI.cons hh (aI.cons hh (aI.cons hh (aI.cons hh aI.nil)))) rfl (cb rfl) (fZ p0 (⟨y13.levels, y13.wait, y13.wrong⟩ : Ref09_flow) z8 y1.Stack z10 y16 h26) rfl ?_
 refine eH (fun v15 v16 => ?_)
 refine aB 1 rfl (fun hc_v15 => ?_)
 refine aB 2 rfl (fun hc_v16 => ?_)
 refine Z2 ?_
 refine bW (x := (⟨y16.levels, y16.wait, y16.wrong⟩ : Ref09_flow)) ?_
 cases H
 refine aD [0] (by decide) ?_
 exact cJ (.inr rfl) rfl rfl
 exact fk
 kernel_rfl
 refine cX hh c29 ?_
 refine Z4 ?_
 revert H; refine is (fun c30 H => ?_) fun c30 H => ?_
 refine dA hh c30 ?_
 refine Z3 ?_
 revert H; refine bs fun z11 h27 H => ?_
 refine Yy (eW rfl hh hh h27) ?_
 refine Z3 ?_
 refine aL ?_
 refine aL ?_
 refine aL ?_
 refine bW (x := (⟨a0.levels, a0.wait, a0.wrong⟩ : Ref09_flow)) ?_
 revert H; refine bs fun y17 h28 H => ?_
 refine eU trivial rfl rfl rfl hh (aI.cons hh (aI.cons hh (aI.cons hh (aI.cons hh aI.nil)))) rfl (cb rfl) (fZ p0 (⟨a0.levels, a0.wait, a0.wrong⟩ : Ref09_flow) z11 y1.Stack y3.A y17 h28) rfl ?_
 refine eH (fun v17 v18 => ?_)
 refine aB 1 rfl (fun hc_v17 => ?_)
 refine aB 2 rfl (fun hc_v18 => ?_)
 refine Z2 ?_
 refine bW (x := (⟨y17.levels, y17.wait, y17.wrong⟩ : Ref09_flow)) ?_
 cases H
 refine aD [0] (by decide) ?_
 exact cJ (.inr rfl) rfl rfl
 refine cX hh c30 ?_
 revert H; refine bs fun o6 H Hr6 => ?_
 refine aQ (ι := Bool) (fun i => o6 = i) (fun i => [(0, fEq (ptr p0)), (2, fI a2), (6, fI y1.Stack), (7, fI y2.Slots), (8, fEq (ptr b2)), (112, fI y3.Op), (209, aH i)]) (fun i => [aA b2 73 [fI y3.Op, fI y3.A, fI y3.B], aA b1 25 [fI a1.Free, fSl aF a1.Defs, fSl aG a1.Code, fI a1.Main], aA p0 93 [fEq v1, fEq v2, aH a0.wrong], aC v1 79 aO a0.levels, aC v2 3 tI a0.wait]) ?_ ?_
 refine Z4 ?_
 revert H; refine is (fun c31 H => ?_) fun c31 H => ?_
 refine dA hh c31 ?_
 refine Z2 ?_
 exact cE (decide (y3.Op = 13)) (Option.some.inj H).symm (Sc (Sc (Sc (Sc (Sc (Sc (Sc bE.nil))))))) rfl
 refine cX hh c31 ?_
 refine Z4 ?_
 exact cE (decide (y3.Op = 15)) (Option.some.inj H).symm (Sc (Sc (Sc (Sc (Sc (Sc (Sc bE.nil))))))) rfl
 clear H; intro x5 hi; subst o6; have H := Hr6; clear Hr6; try dsimp only at H
 try dsimp only
 revert H; refine cs (fun c32 H => ?_) fun c32 H => ?_
 refine dA hh c32 ?_
 refine Z5 ?_
 refine aL ?_
 refine aL ?_
 refine aL ?_
 refine bW (x := (⟨a0.levels, a0.wait, a0.wrong⟩ : Ref09_flow)) ?_
 revert H; refine bs fun y18 h29 H => ?_
 refine eU trivial rfl rfl rfl hh (aI.cons hh (aI.cons hh (aI.cons hh (aI.cons hh aI.nil)))) rfl (cb rfl) (fZ p0 (⟨a0.levels, a0.wait, a0.wrong⟩ : Ref09_flow) y3.B 0 y2.Slots y18 h29) rfl ?_
 refine eH (fun v19 v20 => ?_)
 refine aB 1 rfl (fun hc_v19 => ?_)
 refine aB 2 rfl (fun hc_v20 => ?_)
 refine Z4 ?_
 revert H; refine bs fun z12 h30 H => ?_
 refine Yy (eW rfl hh hh h30) ?_
 refine Z2 ?_
 refine bW (x := (⟨y18.levels, y18.wait, y18.wrong⟩ : Ref09_flow)) ?_
 revert H; refine bs fun y19 h31 H => ?_
 refine eU trivial rfl rfl rfl hh (aI.cons hh (aI.cons hh (aI.cons hh (aI.cons hh aI.nil)))) rfl (cb rfl) (fZ p0 (⟨y18.levels, y18.wait, y18.wrong⟩ : Ref09_flow) z12 y1.Stack y2.Slots y19 h31) rfl ?_
 refine eH (fun v21 v22 => ?_)
 refine aB 1 rfl (fun hc_v21 => ?_)
 refine aB 2 rfl (fun hc_v22 => ?_)
 refine Z2 ?_
 refine bW (x := (⟨y19.levels, y19.wait, y19.wrong⟩ : Ref09_flow)) ?_
 cases H
 refine aD [0] (by decide) ?_
 exact cJ (.inr rfl) rfl rfl
 refine cX hh c32 ?_
 refine Z4 ?_
 revert H; refine is (fun c33 H => ?_) fun c33 H => ?_
 refine dA hh c33 ?_
 refine Z3 ?_
 revert H; refine bs fun z13 h32 H => ?_
 refine Yy (eW rfl hh hh h32) ?_
 refine Z2 ?_
 refine aL ?_
 refine aL ?_
 refine aL ?_
 refine bW (x := (⟨a0.levels, a0.wait, a0.wrong⟩ : Ref09_flow)) ?_
 revert H; refine bs fun y20 h33 H => ?_
 refine eU trivial rfl rfl rfl hh (aI.cons hh (aI.cons hh (aI.cons hh (aI.cons hh aI.nil)))) rfl (cb rfl) (fZ p0 (⟨a0.levels, a0.wait, a0.wrong⟩ : Ref09_flow) z13 y1.Stack y2.Slots y20 h33) rfl ?_
 refine eH (fun v23 v24 => ?_)
 refine aB 1 rfl (fun hc_v23 => ?_)
 refine aB 2 rfl (fun hc_v24 => ?_)
 refine Z2 ?_
 refine bW (x := (⟨y20.levels, y20.wait, y20.wrong⟩ : Ref09_flow)) ?_
 cases H
 refine aD [0] (by decide) ?_
 exact cJ (.inr rfl) rfl rfl
 refine cX hh c33 ?_
 refine Z4 ?_
 revert H; refine is (fun c34 H => ?_) fun c34 H => ?_
 refine dA hh c34 ?_
 refine Z2 ?_
 refine aL ?_
 refine aL ?_
 refine aL ?_
 refine bW (x := (⟨a0.levels, a0.wait, a0.wrong⟩ : Ref09_flow)) ?_
 cases H
 refine aD [0] (by decide) ?_
 exact cJ (.inr rfl) rfl rfl
 refine cX hh c34 ?_
 refine Z3 ?_
 revert H; refine bs fun z14 h34 H => ?_
 refine Yy (eW rfl hh hh h34) ?_
 refine Z1 ?_
 revert H; refine bs fun z15 h35 H => ?_
 refine Yy (sM rfl hh hh h35) ?_
 refine Z1 ?_
 refine aL ?_
 refine aL ?_
 refine aL ?_
 refine bW (x := (⟨a0.levels, a0.wait, a0.wrong⟩ : Ref09_flow)) ?_
 revert H; refine bs fun y21 h36 H => ?_
 refine eU trivial rfl rfl rfl hh (aI.cons hh (aI.cons hh (aI.cons hh (aI.cons hh aI.nil)))) rfl (cb rfl) (fZ p0 (⟨a0.levels, a0.wait, a0.wrong⟩ : Ref09_flow) z14 z15 y2.Slots y21 h36) rfl ?_
 refine eH (fun v25 v26 => ?_)
 refine aB 1 rfl (fun hc_v25 => ?_)
 refine aB 2 rfl (fun hc_v26 => ?_)
 refine Z2 ?_
 refine bW (x := (⟨y21.levels, y21.wait, y21.wrong⟩ : Ref09_flow)) ?_
 cases H
 refine aD [0] (by decide) ?_
 exact cJ (.inr rfl) rfl rfl
 exact fk
 kernel_rfl
open Go.SX Go.SW Go.BX
theorem aDZ : okB (run0 Tryz.prog 1000000 9) true = true := by kernel_rfl
def vI : Option Bool := some true
theorem aBn (r : Bool) (H : vI = some r) : FnS Tryz.prog 9 [] [] (aH r) (fun _ => []) := by
 cases H
 obtain ⟨s, h⟩ := run_true aDZ
 exact aAv (by kernel_rfl) rfl h
open Go.SX Go.SW Go.Dt
def lN (a0 : CodeProg) : Nat → Int → (List CodeLevel) → Option (List CodeLevel)
| 0, _, _ => none
| k + 1, x4, x5 =>
 if x4 < (a0.Code.length : Int) then
  (eK (x5 ++ [(⟨(-1), (-1)⟩ : CodeLevel)])).bind fun z1 =>
  (chk (x4 + 1)).bind fun z2 =>
  lN a0 k z2 z1
 else
  some x5
def fP (fuel : Nat) (a0 : CodeProg) : Nat → (List CodeLevel) → (List Int) → Bool → Option (List CodeLevel × List Int × Bool)
| 0, _, _, _ => none
| k + 1, x12, x13, x14 =>
 if 0 < (x13.length : Int) then
  bif x14 then
   some (x12, x13, x14)
  else
   (chk ((x13.length : Int) - 1)).bind fun z3 =>
   (idx x13 z3).bind fun y3 =>
   (chk ((x13.length : Int) - 1)).bind fun z4 =>
   (slc x13 0 z4).bind fun y4 =>
   (mD fuel (⟨x12, y4, x14⟩ : Ref09_flow) (⟨a0.Free, a0.Defs, a0.Code, a0.Main⟩ : CodeProg) y3).bind fun y5 =>
   fP fuel a0 k y5.levels y5.wait y5.wrong
 else
  some (x12, x13, x14)
def jK (x6 : List CodeLevel) : Nat → Int → Bool → Option (Bool)
| 0, _, _ => none
| k + 1, x18, x19 =>
 if x18 < (x6.length : Int) then
  (bif x19 then
   some true
  else
   (idx x6 x18).bind fun y6 =>
   some (decide (y6.Stack < 0))).bind fun x20 =>
  (chk (x18 + 1)).bind fun z5 =>
  jK x6 k z5 x20
 else
  some x19
def mS (fuel : Nat) (a0 : CodeProg) : Option ((List CodeLevel) × Int) :=
 (rN fuel (⟨a0.Free, a0.Defs, a0.Code, a0.Main⟩ : CodeProg)).bind fun y1 =>
 bif y1 then
  (lN a0 fuel 0 []).bind fun x1 =>
  (eM (⟨x1, [], false⟩ : Ref09_flow) a0.Main 0 a0.Free).bind fun y2 =>
  (fP fuel a0 fuel y2.levels y2.wait y2.wrong).bind fun (x6, x7, x8) =>
  (jK x6 fuel 0 x8).bind fun x15 =>
  bif x15 then
   some ([], 2)
  else
   some (x6, 0)
 else
  some ([], 2)
theorem aFe (fuel : Nat)  (a0 : CodeProg) (r : (List CodeLevel) × Int) (H : mS fuel a0 = some r) : FnS Tryz.prog 11 [fSt eR a0] [] (dQ [fSl aO r.1, fI r.2]) (fun _ => []) := by
 unfold mS at H
 refine cF Tryz.func11 rfl Tryz.ntmps11 rfl (fun β => ?_)
 refine Z1 ?_
 refine Tn (dD rfl hh cV) fun b1 => ?_
 refine Z3 ?_
 refine aM ?_
 revert H; refine B2 fun y1 h1 H => ?_
 refine Tc (aDP _ _ _ h1) ?_
 refine Z2 ?_
 revert H; refine cs (fun c1 H => ?_) fun c1 H => ?_
 refine Z4 ?_
 refine Yy (iG (ψs := [fEq (.slice none 0 0), fEq (.slice none 0 0), aH false]) rfl ty_bu_93 rfl bO.nil rfl) ?_
 refine Tn (dD rfl hh cV) fun b2 => ?_
 revert H; refine B2 fun o1 H Hr1 => ?_
 refine aQ (ι := List CodeLevel × Value) (fun i => o1 = i.1) (fun i => [(1, fEq (ptr b1)), (4, fEq (ptr b2))]) (fun i => [aA b2 93 [fEq i.2, fEq (.slice none 0 0), aH false], aA b1 25 [fI a0.Free, fSl aF a0.Defs, fSl aG a0.Code, fI a0.Main], aC i.2 79 aO i.1]) ?_ ?_
 refine Z4 ?_
 refine fD aO 79 ?_
 refine aD [1, 2, 0] (by decide) ?_
 refine Tl (ι := Nat × Int × List CodeLevel × Value) (fun i => lN a0 i.1 i.2.1 i.2.2.1 = _) (fun i => i.1) (fun i => [(1, fEq (ptr b1)), (4, fEq (ptr b2)), (5, fI i.2.1)]) (fun i => [aA b2 93 [fEq i.2.2.2, fEq (.slice none 0 0), aH false], aA b1 25 [fI a0.Free, fSl aF a0.Defs, fSl aG a0.Code, fI a0.Main], aC i.2.2.2 79 aO i.2.2.1]) (fuel, 0, [], (.slice none 0 0)) H ?_
 clear H; rintro ⟨k1, x4, x5, v3⟩ H
 replace H : lN a0 k1 x4 x5 = _ := H
 try dsimp only
 obtain _ | k1 := k1
 rw [lN] at H; cases H
 rw [lN] at H
 refine aB 2 rfl (fun hc_v3 => ?_)
 refine aM ?_
 revert H; refine I7 (fun c2 H => ?_) fun c2 H => ?_
 refine Z3 ?_
 refine aM ?_
 refine Z7 ?_
 refine Yy (iG (ψs := [fI (-1), fI (-1)]) rfl mQ rfl (bO.cons (has rfl) (dU (aK trivial)) (bO.cons (has rfl) (dU (aK trivial)) bO.nil)) rfl) ?_
 refine Tn (gJ (t := aO) (xs := [(⟨(-1), (-1)⟩ : CodeLevel)]) rfl (et rfl) (cB.cons rfl hh cV cB.nil) rfl rfl rfl) fun b3 => ?_
 generalize (Value.slice (some ⟨b3, 0, none⟩) _ _) = v4
 refine aB 0 rfl (fun hc_v4 => ?_)
 revert H; refine bs fun z1 h2 H => ?_
 refine bF ?_
 refine aV ?_
 refine jR trivial rfl rfl rfl (has rfl) (has rfl) (et rfl) rfl h2 (fun v5 => ?_)
 refine aB 0 rfl (fun hc_v5 => ?_)
 refine Z2 ?_
 refine aV ?_
 refine dJ (φs' := [fEq v5, fEq (.slice none 0 0), aH false]) trivial rfl rfl (has rfl) (has rfl) (aK hc_v5) (sz rfl) rfl rfl ?_
 revert H; refine B5 fun z2 h3 H => ?_
 refine Z3 ?_
 refine aD [0, 2, 1] (by decide) ?_
 exact Tm ((k1, z2, z1, v5)) ⟨H, ls⟩
 refine Z6 ?_
 exact Tm ((x5, v3)) (ij H)
 clear H; intro i hi; obtain ⟨x1, v1⟩ := i; subst o1; have H := Hr1; clear Hr1; try dsimp only at H
 try dsimp only
 refine aB 2 rfl (fun hc_v1 => ?_)
 refine Z6 ?_
 refine fD tI 3 ?_
 refine bF ?_
 refine aU ?_
 refine bW (x := (⟨x1, [], false⟩ : Ref09_flow)) ?_
 revert H; refine bs fun y2 h4 H => ?_
 refine Tc (fZ _ _ _ _ _ _ h4) ?_
 refine eH (fun v6 v7 => ?_)
 refine aB 1 rfl (fun hc_v6 => ?_)
 refine aB 2 rfl (fun hc_v7 => ?_)
 revert H; refine B1 fun o2 H Hr2 => ?_
 refine aQ (ι := List CodeLevel × List Int × Bool × Value × Value) (fun i => o2 = (i.1, i.2.1, i.2.2.1)) (fun i => [(4, fEq (ptr b2))]) (fun i => [aA b2 93 [fEq i.2.2.2.1, fEq i.2.2.2.2, aH i.2.2.1], aA b1 25 [fI a0.Free, fSl aF a0.Defs, fSl aG a0.Code, fI a0.Main], aC i.2.2.2.1 79 aO i.1, aC i.2.2.2.2 3 tI i.2.1]) ?_ ?_
 refine Z1 ?_
 refine aD [0, 3, 1, 2] (by decide) ?_
 refine Tl (ι := Nat × List CodeLevel × List Int × Bool × Value × Value) (fun i => fP fuel a0 i.1 i.2.1 i.2.2.1 i.2.2.2.1 = _) (fun i => i.1) (fun i => [(1, fEq (ptr b1)), (4, fEq (ptr b2))]) (fun i => [aA b2 93 [fEq i.2.2.2.2.1, fEq i.2.2.2.2.2, aH i.2.2.2.1], aA b1 25 [fI a0.Free, fSl aF a0.Defs, fSl aG a0.Code, fI a0.Main], aC i.2.2.2.2.1 79 aO i.2.1, aC i.2.2.2.2.2 3 tI i.2.2.1]) (fuel, y2.levels, y2.wait, y2.wrong, v6, v7) H ?_
 clear H; rintro ⟨k2, x12, x13, x14, v12, v13⟩ H
 replace H : fP fuel a0 k2 x12 x13 x14 = _ := H
 try dsimp only
 obtain _ | k2 := k2
 rw [fP] at H; cases H
 rw [fP] at H
 refine aB 2 rfl (fun hc_v12 => ?_)
 refine aB 3 rfl (fun hc_v13 => ?_)
 refine aM ?_
 revert H; refine I8 (fun c3 H => ?_) fun c3 H => ?_
 refine Z7 ?_
 revert H; refine cs (fun c4 H => ?_) fun c4 H => ?_
 refine Z6 ?_
 exact Tm ((x12, x13, x14, v12, v13)) (ij H)
 refine Z4 ?_
 refine aM ?_
 revert H; refine bs fun z3 h5 H => ?_
 revert H; refine bs fun y3 h6 H => ?_
 apply cL (ods := [_, _, _, _, _, _, _, _, _, _, _, _, _]) 13 0 4 cK rfl rfl rfl
 refine ND ?_
 refine M8 ?_
 intros
 refine M3 ?_
 intros
 refine Mo 3 rfl (iQ rfl rfl hh (sc rfl) (dF h6) rfl) fun _ => ?_
 refine M1 ?_
 intros
 refine Z2 ?_
 refine aM ?_
 revert H; refine bs fun z4 h7 H => ?_
 revert H; refine bs fun y4 h8 H => ?_
 apply cL (ods := [_, _, _, _, _, _, _, _, _, _, _, _, _, _]) 14 0 4 cK rfl rfl rfl
 refine ND ?_
 refine M8 ?_
 intros
 refine M3 ?_
 intros
 refine Mo 3 rfl (aCl rfl hh hh (el rfl) h8) fun _ => ?_
 refine M2 ?_
 intros
 refine Z1 ?_
 refine bF ?_
 refine T_cut 72 rfl h8 (fun v14 => ?_)
 refine aB 0 rfl (fun hc_v14 => ?_)
 refine aV ?_
 refine dJ (φs' := [fEq v12, fEq v14, aH x14]) trivial rfl rfl (has rfl) (has rfl) (aK hc_v14) (sz rfl) rfl rfl ?_
 refine Z5 ?_
 refine aV ?_
 refine bF ?_
 refine aU ?_
 refine bW (x := (⟨x12, y4, x14⟩ : Ref09_flow)) ?_
 revert H; refine bs fun y5 h9 H => ?_
 refine Tc (aDE _ _ _ _ _ _ h9) ?_
 refine eH (fun v15 v16 => ?_)
 refine aB 1 rfl (fun hc_v15 => ?_)
 refine aB 2 rfl (fun hc_v16 => ?_)
 refine Z3 ?_
 refine aD [0, 3, 1, 2] (by decide) ?_
 exact Tm ((k2, y5.levels, y5.wait, y5.wrong, v15, v16)) ⟨H, ls⟩
 exact fk
 kernel_rfl
 exact fk
 kernel_rfl
 refine Z12 ?_
 refine Z1 ?_
 exact Tm ((x12, x13, x14, v12, v13)) (ij H)
 clear H; intro i hi; obtain ⟨x6, x7, x8, v8, v9⟩ := i; subst o2; have H := Hr2; clear Hr2; try dsimp only at H
 try dsimp only
 refine aB 2 rfl (fun hc_v8 => ?_)
 refine aB 3 rfl (fun hc_v9 => ?_)
 revert H; refine bs fun o3 H Hr3 => ?_
 refine aQ (ι := Bool) (fun i => o3 = i) (fun i => [(4, fEq (ptr b2))]) (fun i => [aA b2 93 [fEq v8, fEq v9, aH i], aA b1 25 [fI a0.Free, fSl aF a0.Defs, fSl aG a0.Code, fI a0.Main], aC v8 79 aO x6, aC v9 3 tI x7]) ?_ ?_
 refine Z4 ?_
 refine Tl (ι := Nat × Int × Bool) (fun i => jK x6 i.1 i.2.1 i.2.2 = _) (fun i => i.1) (fun i => [(4, fEq (ptr b2)), (7, fI i.2.1)]) (fun i => [aA b2 93 [fEq v8, fEq v9, aH i.2.2], aA b1 25 [fI a0.Free, fSl aF a0.Defs, fSl aG a0.Code, fI a0.Main], aC v8 79 aO x6, aC v9 3 tI x7]) (fuel, 0, x8) H ?_
 clear H; rintro ⟨k3, x18, x19⟩ H
 replace H : jK x6 k3 x18 x19 = _ := H
 try dsimp only
 obtain _ | k3 := k3
 rw [jK] at H; cases H
 rw [jK] at H
 refine aM ?_
 revert H; refine I9 (fun c5 H => ?_) fun c5 H => ?_
 revert H; refine B3 fun o4 H Hr4 => ?_
 refine aQ (ι := Bool) (fun i => o4 = i) (fun i => [(4, fEq (ptr b2)), (7, fI x18)]) (fun i => [aA b2 93 [fEq v8, fEq v9, aH i], aA b1 25 [fI a0.Free, fSl aF a0.Defs, fSl aG a0.Code, fI a0.Main], aC v8 79 aO x6, aC v9 3 tI x7]) ?_ ?_
 refine Z8 ?_
 revert H; refine cs (fun c6 H => ?_) fun c6 H => ?_
 refine Z12 ?_
 refine dJ (φs' := [fEq v8, fEq v9, aH true]) trivial rfl rfl (has rfl) (has rfl) (aK trivial) (sz rfl) rfl rfl ?_
 refine Z3 ?_
 exact Tm (true) (ij H)
 revert H; refine B5 fun y6 h10 H => ?_
 refine Z1 ?_
 refine Yg c6 (vR 0 rfl hh (fa rfl) rfl) ?_
 refine Yh 2 rfl c6 (iQ rfl rfl hh (sc rfl) (dF h10) rfl) ?_
 refine Z4 ?_
 refine dJ (φs' := [fEq v8, fEq v9, aH (decide (y6.Stack < 0))]) trivial rfl rfl (has rfl) (has rfl) (aK trivial) (sz rfl) rfl rfl ?_
 refine Z3 ?_
 exact Tm (decide (y6.Stack < 0)) (ij H)
 clear H; intro x20 hi; subst o4; have H := Hr4; clear Hr4; try dsimp only at H
 try dsimp only
 revert H; refine B2 fun z5 h11 H => ?_
 refine Z3 ?_
 exact Tm ((k3, z5, x20)) ⟨H, ls⟩
 refine Z6 ?_
 exact Tm (x19) (ij H)
 clear H; intro x15 hi; subst o3; have H := Hr3; clear Hr3; try dsimp only at H
 try dsimp only
 refine aM ?_
 refine Z6 ?_
 revert H; refine cs (fun c7 H => ?_) fun c7 H => ?_
 refine Z6 ?_
 cases H
 refine aD [] (by decide) ?_
 exact sY rfl (hasSE rfl iJ) (cP rfl) rfl
 refine Z12 ?_
 refine aU ?_
 refine iT (φ := fSl aO x6) (v := v8) [113, 2] nB fz ?_
 refine qE (φs' := [fSl aO x6, fEq v9, aH x15]) (i := 0) rfl rfl ?_
 refine iI ?_
 cases H
 refine aD [] (by decide) ?_
 exact sY rfl (cP rfl) (cP rfl) rfl
 refine Z6 ?_
 cases H
 refine aD [] (by decide) ?_
 exact sY rfl (hasSE rfl iJ) (cP rfl) rfl
def nW (fuel : Nat) (a0 : CodeProg) : Option (Int) :=
 (dY fuel (⟨a0.Free, a0.Defs, a0.Code, a0.Main⟩ : CodeProg)).bind fun y1 =>
 bif y1.2 then
  some 0
 else
  some 2
theorem aDS (fuel : Nat)  (a0 : CodeProg) (r : Int) (H : nW fuel a0 = some r) : FnS Tryz.prog 12 [fSt eR a0] [] (fI r) (fun _ => []) := by
 unfold nW at H
 refine cF Tryz.func12 rfl Tryz.ntmps12 rfl (fun β => ?_)
 refine Z1 ?_
 refine Tn (dD rfl hh cV) fun b1 => ?_
 refine Z2 ?_
 refine aM ?_
 revert H; refine B2 fun y1 h1 H => ?_
 refine Tc (aAG _ _ _ h1) ?_
 refine Z10 ?_
 revert H; refine cs (fun c1 H => ?_) fun c1 H => ?_
 refine Z7 ?_
 cases H
 refine aD [] (by decide) ?_
 exact To
 refine Z5 ?_
 cases H
 refine aD [] (by decide) ?_
 exact To
def kO (a0 : List CodeLevel) (a1 : List CodeLevel) : Nat → Int → Option ((Unit) ⊕ (Bool))
| 0, _ => none
| k + 1, x2 =>
 if x2 < (a0.length : Int) then
  (idx a0 x2).bind fun y1 =>
  (idx a1 x2).bind fun y2 =>
  bif decide (y1.Stack = y2.Stack) && decide (y1.Slots = y2.Slots) then
   (chk (x2 + 1)).bind fun z1 =>
   kO a0 a1 k z1
  else
   (some false).bind fun r => some (Sum.inr r)
 else
  some (Sum.inl ())
def rS (fuel : Nat) (a0 : List CodeLevel) (a1 : List CodeLevel) : Option (Bool) :=
 if (a0.length : Int) ≠ (a1.length : Int) then
  some false
 else
  (kO a0 a1 fuel 0).bind fun o => match o with
  | Sum.inr r => some r
  | Sum.inl _ =>
  some true
theorem aE0 (fuel : Nat)  (a0 : List CodeLevel) (a1 : List CodeLevel) (r : Bool) (H : rS fuel a0 a1 = some r) : FnS Tryz.prog 13 [fSl aO a0, fSl aO a1] [] (aH r) (fun _ => []) := by
 unfold rS at H
 refine cF Tryz.func13 rfl Tryz.ntmps13 rfl (fun β => ?_)
 refine Z3 ?_
 refine aM ?_
 revert H; refine I7 (fun c1 H => ?_) fun c1 H => ?_
 refine Z5 ?_
 cases H
 exact To
 revert H; refine B3 fun o1 H Hr1 => ?_
 refine aQ (ι := Unit) (fun i => o1 = Sum.inl ()) (fun i => []) (fun i => []) ?_ ?_
 refine Z4 ?_
 refine Tl (ι := Nat × Int) (fun i => kO a0 a1 i.1 i.2 = _) (fun i => i.1) (fun i => [(0, fSl aO a0), (1, fSl aO a1), (5, fI i.2)]) (fun i => []) (fuel, 0) H ?_
 clear H; rintro ⟨k1, x2⟩ H
 replace H : kO a0 a1 k1 x2 = _ := H
 try dsimp only
 obtain _ | k1 := k1
 rw [kO] at H; cases H
 rw [kO] at H
 refine aM ?_
 revert H; refine I6 (fun c2 H => ?_) fun c2 H => ?_
 refine Z3 ?_
 refine aM ?_
 refine Z1 ?_
 refine aM ?_
 revert H; refine bs fun y1 h1 H => ?_
 revert H; refine bs fun y2 h2 H => ?_
 apply cL (ods := [_, _, _, _, _, _, _, _, _]) 9 0 0 cK rfl rfl rfl
 refine ND ?_
 refine M8 ?_
 intros
 refine My (aBd rfl hh hh rfl rfl wU) fun _ => ?_
 refine Z2 ?_
 revert H; refine cs (fun c3 H => ?_) fun c3 H => ?_
 revert H; refine B6 fun z1 h3 H => ?_
 refine Z3 ?_
 exact Tm ((k1, z1)) ⟨H, ls⟩
 revert H; refine B10 fun r1 H e1 => ?_
 cases e1; cases Hr1
 cases H
 exact To
 exact fk
 kernel_rfl
 refine Z6 ?_
 exact Tm (()) (ij H)
 clear H; intro i hi; subst o1; have H := Hr1; clear Hr1; try dsimp only at H
 try dsimp only
 refine Z4 ?_
 cases H
 exact To
def uI (fuel : Nat) (a0 : CodeProg) : Option (Bool) :=
 (vH (⟨a0.Free, a0.Defs, a0.Code, a0.Main⟩ : CodeProg)).bind fun y1 =>
 bif y1 then
  (vI).bind fun y2 =>
  some y2
 else
  (oD fuel (⟨a0.Free, a0.Defs, a0.Code, a0.Main⟩ : CodeProg)).bind fun y3 =>
  (mS fuel (⟨a0.Free, a0.Defs, a0.Code, a0.Main⟩ : CodeProg)).bind fun y4 =>
  ((nW fuel (⟨a0.Free, a0.Defs, a0.Code, a0.Main⟩ : CodeProg)).bind fun y5 =>
  if y5 = y4.2 then
   if y3.2 = y4.2 then
    (rS fuel y3.1 y4.1).bind fun y6 =>
    bif y6 then
     (vI).bind fun y7 =>
     some y7
    else
     some false
   else
    some false
  else
   some false).bind fun x1 =>
  some x1
theorem aFr (fuel : Nat)  (a0 : CodeProg) (r : Bool) (H : uI fuel a0 = some r) : FnS Tryz.prog 3 [fSt eR a0] [] (aH r) (fun _ => []) := by
 unfold uI at H
 refine cF Tryz.func3 rfl Tryz.ntmps3 rfl (fun β => ?_)
 refine Z1 ?_
 refine Tn (dD rfl hh cV) fun b1 => ?_
 refine Z2 ?_
 refine aM ?_
 revert H; refine B2 fun y1 h1 H => ?_
 refine Tc (aFg _ _ h1) ?_
 refine Z1 ?_
 revert H; refine cs (fun c1 H => ?_) fun c1 H => ?_
 revert H; refine B2 fun y2 h2 H => ?_
 refine Tc (aBn _ h2) ?_
 refine Z3 ?_
 cases H
 refine aD [] (by decide) ?_
 exact To
 revert H; refine B5 fun y3 h3 H => ?_
 refine Tc (aEM _ _ _ h3) ?_
 revert H; refine B8 fun y4 h4 H => ?_
 refine Tc (aFe _ _ _ h4) ?_
 revert H; refine B6 fun o1 H Hr1 => ?_
 refine aQ (ι := Bool) (fun i => o1 = i) (fun i => [(2, aH i)]) (fun i => [aA b1 25 [fI a0.Free, fSl aF a0.Defs, fSl aG a0.Code, fI a0.Main]]) ?_ ?_
 revert H; refine B2 fun y5 h5 H => ?_
 refine Tc (aDS _ _ _ h5) ?_
 revert H; refine I3 (fun c2 H => ?_) fun c2 H => ?_
 revert H; refine I5 (fun c3 H => ?_) fun c3 H => ?_
 revert H; refine B2 fun y6 h6 H => ?_
 refine Tc (aE0 _ _ _ _ h6) ?_
 refine Z2 ?_
 revert H; refine cs (fun c4 H => ?_) fun c4 H => ?_
 revert H; refine bs fun y7 h7 H => ?_
 refine Tc (aBn _ h7) ?_
 refine Z3 ?_
 exact Tm (y7) (ij H)
 refine Z4 ?_
 exact Tm (false) (ij H)
 refine Z9 ?_
 exact Tm (false) (ij H)
 refine Z12 ?_
 refine Z2 ?_
 exact Tm (false) (ij H)
 clear H; intro x1 hi; subst o1; have H := Hr1; clear Hr1; try dsimp only at H
 try dsimp only
 refine Z1 ?_
 cases H
 refine aD [] (by decide) ?_
 exact To
open Go.SX Go.SW Go.Dt
theorem bsm {α γ : Type} {a : α} {f : α → Option γ} : (some a).bind f = f a := by
 cases h : f a <;> simp [h]
theorem fB {α : Type} {xs : List α} {i : Nat} {y : α} (h : xs[i]? = some y) : idx xs (i : Int) = some y := by
 unfold idx; rw [if_pos (by omega)]; simpa using h
theorem bR {α : Type} (pre suf : List α) (y : α) : idx (pre ++ y :: suf) (pre.length : Int) = some y := fB (by simp)
theorem aS {i : Int} (h : -9000000000000000000 ≤ i ∧ i ≤ 9000000000000000000) : chk i = some i := by unfold chk; rw [if_pos (by omega)]
theorem bT {α : Type} (pre suf : List α) (y : α) : (pre.length : Int) < ((pre ++ y :: suf).length : Int) := by simp; omega
theorem fE {α : Type} (pre suf : List α) (y : α) : pre ++ y :: suf = (pre ++ [y]) ++ suf := by simp
theorem cA {α : Type} (pre : List α) (y : α) : (pre.length : Int) + 1 = ((pre ++ [y]).length : Int) := by simp
theorem dF {α : Type} {xs : List α} {i : Int} (h0 : 0 ≤ i) (h1 : i < xs.length) : idx xs i = some (xs[i.toNat]'(by omega)) := by
 unfold idx; rw [if_pos h0]; simp
theorem iL {α : Type} {xs : List α} (h : xs.length ≤ 1000000000) : eK xs = some xs := by unfold eK; rw [if_pos h]
theorem vF {α : Type} (pre suf : List α) : slc (pre ++ suf) 0 (pre.length : Int) = some pre := by
 unfold slc; rw [if_pos (by simp; omega)]; simp
def W : Value := .iface 163 (.agg ([] : List Value).toArray)
theorem dP : bH true = some (.inl ()) := rfl
theorem cC : bH false = some (.inr W) := rfl
structure eZ {α : Type} (g : aE Int α) (n : Nat) : Prop where
 lt : ∀ (k : Int) (y : α), g.get k = some y → 0 ≤ k ∧ k < (n : Int)
 size : g.size = ((List.range n).filter fun (i : Nat) => (g.get (i : Int)).isSome).length
theorem eZ.none {α : Type} (n : Nat) : eZ (aE.none : aE Int α) n := ⟨fun k y h => (by simp [aE.none] at h), by
 have : (List.range n).filter (fun (i : Nat) => ((aE.none : aE Int α).get (i : Int)).isSome) = [] := List.filter_eq_nil_iff.2 fun _ _ => by simp [aE.none]
 rw [this]; rfl⟩
theorem aCF (f : Nat → Bool) (j : Nat) (hf : f j = false) : ∀ n, (if j < n then 1 else 0) + ((List.range n).filter f).length = ((List.range n).filter fun i => decide (i = j) || f i).length
 | 0 => by simp
 | n + 1 => by
  have ih := aCF f j hf n
  rw [List.range_succ, List.filter_append, List.filter_append, List.length_append, List.length_append, ← ih]
  by_cases h : n = j
  ·subst h; simp [hf]; omega
  ·have e : [n].filter (fun i => decide (i = j) || f i) = [n].filter f := by simp [List.filter, h]
   rw [e]
   by_cases h2 : j < n
   ·rw [if_pos h2, if_pos (by omega)]; omega
   ·rw [if_neg h2, if_neg (by omega)]; omega
theorem eZ.upd {α : Type} {g : aE Int α} {n : Nat} (h : eZ g n) {k : Int} {y : α} (hk : 0 ≤ k ∧ k < n) : eZ (g.upd k y) n := by
 refine ⟨fun k' y' h' => ?_, ?_⟩
 ·by_cases e : k' = k
  ·subst e; exact hk
  ·exact h.lt k' y' (by simpa [aE.upd, e] using h')
 ·have hg : (fun i : Nat => ((g.upd k y).get (i : Int)).isSome) = fun i : Nat => decide (i = k.toNat) || (g.get (i : Int)).isSome := by
   funext i
   simp only [aE.upd]
   by_cases e : (i : Int) = k
   ·rw [if_pos e, decide_eq_true (by omega)]; rfl
   ·rw [if_neg e, decide_eq_false (by omega)]; rfl
  have hk' : ((k.toNat : Nat) : Int) = k := by omega
  rw [hg]
  simp only [aE.upd]
  cases hs : (g.get k).isSome with
  | true =>
   rw [if_pos rfl, h.size]
   congr 2
   funext i
   by_cases e : i = k.toNat
   ·subst e; rw [hk', hs]; simp
   ·simp [e]
  | false =>
   rw [if_neg (by simp), ← aCF (fun i : Nat => (g.get (i : Int)).isSome) k.toNat (by rw [hk', hs]) n, if_pos (by omega), ← h.size]
   omega
theorem eZ.full {α : Type} {g : aE Int α} {n : Nat} (h : eZ g n) : g.size = n ↔ ∀ i : Nat, i < n → (g.get (i : Int)).isSome = true := by
 rw [h.size]
 constructor
 ·intro e i hi
  have hl : (List.range n).length = n := List.length_range
  have := List.filter_eq_self.1 ((List.filter_sublist (p := fun i : Nat => (g.get (i : Int)).isSome)).eq_of_length (by rw [e, hl])) i (List.mem_range.2 hi)
  exact this
 ·intro hh
  rw [List.filter_eq_self.2 fun i hi => hh i (List.mem_range.1 hi), List.length_range]
theorem aFq {c : Int} (suf : List Int) : ∀ (pre : List Int) (k : Nat), suf.length < k → pre.length + suf.length ≤ 3000000 → c ∉ pre →
 ∃ r, jM (pre ++ suf) c k pre.length = some r ∧ ((c ∈ suf ∧ ∃ i : Int, r = .inr i ∧ 0 ≤ i) ∨ (c ∉ suf ∧ r = .inl ())) := by
 induction suf with
 | nil =>
  intro pre k hk _ _
  obtain _ | k := k
  ·omega
  exact ⟨_, by rw [jM, if_neg (by simp)], .inr ⟨by simp, rfl⟩⟩
 | cons e suf ih =>
  intro pre k hk hB hn
  obtain _ | k := k
  ·omega
  simp only [List.length_cons] at hk hB
  by_cases he : c = e
  ·exact ⟨_, by rw [jM, if_pos (bT _ _ _), bR, bsm, if_pos he]; rfl, .inl ⟨by simp [he], _, rfl, by omega⟩⟩
  ·obtain ⟨r, h1, h2⟩ := ih (pre ++ [e]) k (by omega) (by simp; omega) (by simp [hn, he])
   refine ⟨r, ?_, ?_⟩
   ·rw [jM, if_pos (bT _ _ _), bR, bsm, if_neg he, aS (by omega), bsm, fE pre suf e, cA pre e]; exact h1
   ·rcases h2 with ⟨h2, h3⟩ | ⟨h2, h3⟩
    ·exact .inl ⟨by simp [h2], h3⟩
    ·exact .inr ⟨by simp [h2, he], h3⟩
theorem aE1 {fuel : Nat} {l : List Int} {c : Int} (hf : l.length < fuel) (hB : l.length ≤ 3000000) : tJ fuel l c = some (decide (c ∈ l)) := by
 obtain ⟨r, h1, h2⟩ := aFq (c := c) l [] fuel hf (by simpa using hB) (by simp)
 simp only [List.nil_append, List.length_nil, Int.natCast_zero] at h1
 rw [tJ, tX, h1]
 rcases h2 with ⟨h2, i, rfl, h3⟩ | ⟨h2, rfl⟩
 ·simp [h2, h3]
 ·simp [h2]
theorem has_loop {c : Int} (suf : List Int) : ∀ (pre : List Int) (k : Nat), suf.length < k → pre.length + suf.length ≤ 3000000 →
 kM (pre ++ suf) c k pre.length = some (if c ∈ suf then .inr true else .inl ()) := by
 induction suf with
 | nil =>
  intro pre k hk _
  obtain _ | k := k
  ·omega
  rw [kM, if_neg (by simp)]; simp
 | cons e suf ih =>
  intro pre k hk hB
  obtain _ | k := k
  ·omega
  simp only [List.length_cons] at hk hB
  rw [kM, if_pos (bT _ _ _), bR, bsm]
  by_cases he : e = c
  ·rw [if_pos he, if_pos (by simp [he])]; rfl
  ·rw [if_neg he, aS (by omega), bsm, fE pre suf e, cA pre e, ih (pre ++ [e]) k (by omega) (by simp; omega)]
   have : (c ∈ e :: suf) ↔ c ∈ suf := by simp [Ne.symm he]
   by_cases hc : c ∈ suf
   ·rw [if_pos hc, if_pos (this.2 hc)]
   ·rw [if_neg hc, if_neg (fun g => hc (this.1 g))]
theorem mC {fuel : Nat} {l : List Int} {c : Int} (hf : l.length < fuel) (hB : l.length ≤ 3000000) : qZ fuel l c = some (decide (c ∈ l)) := by
 have h := has_loop (c := c) l [] fuel hf (by simpa using hB)
 simp only [List.nil_append, List.length_nil, Int.natCast_zero] at h
 rw [qZ, h, bsm]
 by_cases hc : c ∈ l
 ·rw [if_pos hc, decide_eq_true hc]
 ·rw [if_neg hc, decide_eq_false hc]
def fA (n : Nat) (c : ScopeChan) : Prop := 0 ≤ c.At ∧ c.At ≤ (n : Int) ∧ 0 ≤ c.Many ∧ c.Many ≤ 3
instance {n : Nat} {c : ScopeChan} : Decidable (fA n c) := by unfold fA; infer_instance
def eS : Nat → List ScopeSpot → Prop
 | _, [] => True
 | i, s :: l => (0 ≤ s.In ∧ s.In ≤ (i : Int)) ∧ eS (i + 1) l
instance eS.dec : ∀ {i : Nat} {l : List ScopeSpot}, Decidable (eS i l)
 | _, [] => isTrue trivial
 | i, s :: l => by unfold eS; have := eS.dec (i := i + 1) (l := l); infer_instance
def dX (ch : List ScopeChan) (at_ : Int) : List Int → List Int → Prop
 | _, [] => True
 | pre, j :: l => (0 ≤ j ∧ j < ch.length ∧ (∃ c, ch[j.toNat]? = some c ∧ c.At = at_) ∧ j ∉ pre) ∧ dX ch at_ (pre ++ [j]) l
def okR (n : Nat) (ch : List ScopeChan) (r : ScopeRule) : Prop := (0 ≤ r.At ∧ r.At ≤ (n : Int) ∧ 1 ≤ r.Joins.length ∧ r.Joins.length ≤ 3) ∧ dX ch r.At [] r.Joins
def okD (d : ScopeDef) : Prop := (d.Chans.length ≤ 30 ∧ d.Spots.length ≤ 30 ∧ d.Rules.length ≤ 30) ∧ (∀ c ∈ d.Chans, fA d.Spots.length c) ∧ eS 0 d.Spots ∧ (∀ r ∈ d.Rules, okR d.Spots.length d.Chans r) ∧ ∀ i : Nat, i < d.Chans.length → ∃ r ∈ d.Rules, (i : Int) ∈ r.Joins
def inD (n : Nat) (d : ScopeDef) : Prop := (∀ s ∈ d.Spots, 0 ≤ s.Node ∧ s.Node < (n : Int)) ∧ ∀ r ∈ d.Rules, 0 ≤ r.Node ∧ r.Node < (n : Int)
open Classical in
theorem nC (x : Code_checker) (n : Int) : jB x n = some (x, decide (0 ≤ n ∧ n < x.CodeProg.Code.length)) := by
 obtain ⟨⟨a, b, c, d⟩, e, f, g, h⟩ := x
 rw [jB]
 by_cases h1 : 0 ≤ n
 ·rw [if_pos h1, bsm]; simp [h1]
 ·rw [if_neg h1, bsm]; simp [h1]
theorem aAw {a : Int} {d : ScopeDef} : pB a d = some (decide (0 ≤ a ∧ a ≤ (d.Spots.length : Int))) := by
 rw [pB]
 by_cases h : 0 ≤ a
 ·rw [if_pos h, bsm]; simp [h]
 ·rw [if_neg h, bsm]; simp [h]
open Go.SX Go.SW Go.Dt
open Classical in
theorem pd1 {sp : List ScopeSpot} {ru : List ScopeRule} (suf : List ScopeChan) : ∀ (pre : List ScopeChan) (k : Nat), suf.length < k → pre.length + suf.length ≤ 3000000 →
 kZ ⟨pre ++ suf, sp, ru⟩ k pre.length = some (if ∀ c ∈ suf, fA sp.length c then .inl () else .inr (.inr W)) := by
 induction suf with
 | nil =>
  intro pre k hk _
  obtain _ | k := k
  ·omega
  rw [kZ, if_neg (by simp), if_pos (fun _ h => by cases h)]
 | cons e suf ih =>
  intro pre k hk hB
  obtain _ | k := k
  ·omega
  simp only [List.length_cons] at hk hB
  rw [kZ, if_pos (bT _ _ _)]
  dsimp only
  rw [bR, bsm, aAw, bsm]
  dsimp only
  by_cases h : fA sp.length e
  ·obtain ⟨h1, h2, h3, h4⟩ := h
   rw [decide_eq_true ⟨h1, h2⟩, cond_true, if_pos h3, decide_eq_true h4, dP, bsm]
   simp only [bsm]
   rw [aS (by omega), bsm, fE pre suf e, cA pre e, ih (pre ++ [e]) k (by omega) (by simp; omega)]
   by_cases hs : ∀ c ∈ suf, fA sp.length c
   ·rw [if_pos hs, if_pos (fun c hc => by cases hc with | head => exact ⟨h1, h2, h3, h4⟩ | tail _ hc => exact hs c hc)]
   ·rw [if_neg hs, if_neg (fun g => hs fun c hc => g c (.tail _ hc))]
  ·rw [if_neg (fun g : ∀ c ∈ e :: suf, fA sp.length c => h (g e (.head _)))]
   by_cases h1 : 0 ≤ e.At ∧ e.At ≤ (sp.length : Int)
   ·rw [decide_eq_true h1, cond_true]
    by_cases h3 : 0 ≤ e.Many
    ·rw [if_pos h3, decide_eq_false (fun h4 => h ⟨h1.1, h1.2, h3, h4⟩), cC]; rfl
    ·rw [if_neg h3, cC]; rfl
   ·rw [decide_eq_false h1, cC]; rfl
open Classical in
theorem pd2 {ch : List ScopeChan} {ru : List ScopeRule} {F M : Int} {D : List ScopeDef} {C : List CodeIns} {b la td : List Int} {lv : aE Int CodeLevel} (suf : List ScopeSpot) : ∀ (pre : List ScopeSpot) (k : Nat), suf.length < k → pre.length + suf.length ≤ 3000000 →
 kV ⟨ch, pre ++ suf, ru⟩ k pre.length F D C M b la lv td = some (if eS pre.length suf ∧ ∀ s ∈ suf, 0 ≤ s.Node ∧ s.Node < (C.length : Int) then .inl (F, D, C, M, b, la, lv, td) else .inr (.inr W)) := by
 induction suf with
 | nil =>
  intro pre k hk _
  obtain _ | k := k
  ·omega
  rw [kV, if_neg (by simp), if_pos ⟨trivial, fun _ h => by cases h⟩]
 | cons e suf ih =>
  intro pre k hk hB
  obtain _ | k := k
  ·omega
  simp only [List.length_cons] at hk hB
  rw [kV, if_pos (bT _ _ _)]
  dsimp only
  rw [bR, bsm]
  by_cases h : (0 ≤ e.In ∧ e.In ≤ (pre.length : Int)) ∧ 0 ≤ e.Node ∧ e.Node < (C.length : Int)
  ·obtain ⟨⟨h1, h2⟩, h3⟩ := h
   rw [if_pos h1, if_pos h2, nC, bsm]
   dsimp only
   rw [decide_eq_true h3, dP, bsm]
   simp only [bsm]
   rw [aS (by omega), bsm, fE pre suf e, cA pre e, ih (pre ++ [e]) k (by omega) (by simp; omega)]
   have hl : (pre ++ [e]).length = pre.length + 1 := by simp
   rw [hl]
   by_cases hs : eS (pre.length + 1) suf ∧ ∀ s ∈ suf, 0 ≤ s.Node ∧ s.Node < (C.length : Int)
   ·rw [if_pos hs, if_pos ⟨⟨⟨h1, h2⟩, hs.1⟩, fun c hc => by cases hc with | head => exact h3 | tail _ hc => exact hs.2 c hc⟩]
   ·rw [if_neg hs, if_neg (fun g => hs ⟨g.1.2, fun c hc => g.2 c (.tail _ hc)⟩)]
  ·rw [if_neg (fun g : eS pre.length (e :: suf) ∧ ∀ s ∈ e :: suf, 0 ≤ s.Node ∧ s.Node < (C.length : Int) => h ⟨g.1.1, g.2 e (.head _)⟩)]
   by_cases h1 : 0 ≤ e.In
   ·rw [if_pos h1]
    by_cases h2 : e.In ≤ (pre.length : Int)
    ·rw [if_pos h2, nC, bsm]
     dsimp only
     rw [decide_eq_false (fun h3 => h ⟨⟨h1, h2⟩, h3⟩), cC]; rfl
    ·rw [if_neg h2, cC]; rfl
   ·rw [if_neg h1, cC]; rfl
def dV (g : aE Int Bool) (l : List Int) : aE Int Bool := l.foldl (fun g j => g.upd j true) g
def updR (g : aE Int Bool) (l : List ScopeRule) : aE Int Bool := l.foldl (fun g r => dV g r.Joins) g
theorem aCa {n : Nat} : ∀ (l : List Int) (g : aE Int Bool), eZ g n → (∀ j ∈ l, 0 ≤ j ∧ j < (n : Int)) → eZ (dV g l) n ∧ ∀ i, ((dV g l).get i).isSome = true ↔ (g.get i).isSome = true ∨ i ∈ l
 | [], g, h, _ => ⟨h, fun i => by simp [dV]⟩
 | j :: l, g, h, hl => by
  obtain ⟨h1, h2⟩ := aCa l (g.upd j true) (h.upd (hl j (.head _))) fun x hx => hl x (.tail _ hx)
  refine ⟨h1, fun i => (h2 i).trans ?_⟩
  by_cases e : i = j
  ·subst e; simp [aE.upd]
  ·simp [aE.upd, e]
theorem wK {ch : List ScopeChan} {a : Int} : ∀ {l pre : List Int}, dX ch a pre l → ∀ j ∈ l, 0 ≤ j ∧ j < (ch.length : Int)
 | j :: l, pre, h, x, hx => by
  cases hx with
  | head => exact ⟨h.1.1, h.1.2.1⟩
  | tail _ hx => exact wK h.2 x hx
theorem aC4 {n k : Nat} {ch : List ScopeChan} (hn : ch.length = n) : ∀ (l : List ScopeRule) (g : aE Int Bool), eZ g n → (∀ r ∈ l, okR k ch r) → eZ (updR g l) n ∧ ∀ i, ((updR g l).get i).isSome = true ↔ (g.get i).isSome = true ∨ ∃ r ∈ l, i ∈ r.Joins
 | [], g, h, _ => ⟨h, fun i => by simp [updR]⟩
 | r :: l, g, h, hl => by
  obtain ⟨h1, h2⟩ := aCa r.Joins g h fun j hj => by have := wK (hl r (.head _)).2 j hj; omega
  obtain ⟨h3, h4⟩ := aC4 hn l (dV g r.Joins) h1 fun x hx => hl x (.tail _ hx)
  refine ⟨h3, fun i => (h4 i).trans ?_⟩
  rw [h2]
  simp [or_assoc]
open Classical in
theorem pd4 {fuel : Nat} {ch : List ScopeChan} {sp : List ScopeSpot} {ru : List ScopeRule} {a nd : Int} {F M : Int} {D : List ScopeDef} {C : List CodeIns} {b la td : List Int} {lv : aE Int CodeLevel} (suf : List Int) : ∀ (pre : List Int) (k : Nat) (g : aE Int Bool), suf.length < k → pre.length + suf.length ≤ 3000000 → pre.length + suf.length < fuel →
 lK fuel ⟨ch, sp, ru⟩ ⟨a, pre ++ suf, nd⟩ F D C M b la lv td k pre.length g = some (if dX ch a pre suf then .inl (F, D, C, M, b, la, lv, td, dV g suf) else .inr (.inr (.inr W))) := by
 induction suf with
 | nil =>
  intro pre k g hk _ _
  obtain _ | k := k
  ·omega
  rw [lK, if_neg (by simp), if_pos (show dX ch a pre [] from trivial)]; rfl
 | cons e suf ih =>
  intro pre k g hk hB hf
  obtain _ | k := k
  ·omega
  simp only [List.length_cons] at hk hB hf
  rw [lK, if_pos (bT _ _ _)]
  dsimp only
  rw [bR, bsm]
  by_cases h0 : 0 ≤ e ∧ e < (ch.length : Int)
  ·rw [if_pos h0.1, if_pos h0.2, dF h0.1 h0.2, bsm]
   have hc : ch[e.toNat]? = some (ch[e.toNat]'(by omega)) := by simp
   by_cases h1 : (ch[e.toNat]'(by omega)).At = a
   ·rw [if_pos h1, vF, bsm, aE1 (by omega) (by omega), bsm]
    by_cases h2 : e ∈ pre
    ·rw [decide_eq_true h2, Bool.not_true, cC, if_neg (fun g : dX ch a pre (e :: suf) => g.1.2.2.2 h2)]; rfl
    ·rw [decide_eq_false h2, Bool.not_false, dP, bsm]
     simp only [bsm]
     rw [aS (by omega), bsm, fE pre suf e, cA pre e, ih (pre ++ [e]) k _ (by omega) (by simp; omega) (by simp; omega)]
     by_cases hs : dX ch a (pre ++ [e]) suf
     ·rw [if_pos hs, if_pos ⟨⟨h0.1, h0.2, ⟨_, hc, h1⟩, h2⟩, hs⟩]; rfl
     ·rw [if_neg hs, if_neg (fun g => hs g.2)]
   ·rw [if_neg h1, cC, if_neg (fun g => by obtain ⟨⟨_, _, ⟨c, g1, g2⟩, _⟩, _⟩ := g; rw [hc] at g1; cases g1; exact h1 g2)]; rfl
  ·rw [if_neg (fun g : dX ch a pre (e :: suf) => h0 ⟨g.1.1, g.1.2.1⟩)]
   by_cases h1 : 0 ≤ e
   ·rw [if_pos h1, if_neg (fun h2 => h0 ⟨h1, h2⟩), cC]; rfl
   ·rw [if_neg h1, cC]; rfl
open Classical in
theorem pd3 {fuel : Nat} {ch : List ScopeChan} {sp : List ScopeSpot} {F M : Int} {D : List ScopeDef} {C : List CodeIns} {b la td : List Int} {lv : aE Int CodeLevel} (hf : 3000000 < fuel) (suf : List ScopeRule) : ∀ (pre : List ScopeRule) (k : Nat) (g : aE Int Bool), suf.length < k → pre.length + suf.length ≤ 3000000 → (∀ r ∈ suf, r.Joins.length ≤ 3000000) →
 jT fuel ⟨ch, sp, pre ++ suf⟩ k pre.length F D C M b la lv td g = some (if ∀ r ∈ suf, okR sp.length ch r ∧ 0 ≤ r.Node ∧ r.Node < (C.length : Int) then .inl (F, D, C, M, b, la, lv, td, updR g suf) else .inr (.inr W)) := by
 induction suf with
 | nil =>
  intro pre k g hk _ _
  obtain _ | k := k
  ·omega
  rw [jT, if_neg (by simp), if_pos (fun _ h => by cases h)]; rfl
 | cons e suf ih =>
  intro pre k g hk hB hj
  obtain _ | k := k
  ·omega
  simp only [List.length_cons] at hk hB
  obtain ⟨ea, ej, en⟩ := e
  rw [jT, if_pos (bT _ _ _)]
  dsimp only
  rw [bR, bsm, aAw, bsm]
  dsimp only
  by_cases h1 : 0 ≤ ea ∧ ea ≤ (sp.length : Int)
  ·rw [decide_eq_true h1, cond_true]
   by_cases h2 : 1 ≤ ej.length ∧ ej.length ≤ 3
   ·rw [if_pos (by omega), if_pos (by omega), nC, bsm]
    dsimp only
    by_cases h3 : 0 ≤ en ∧ en < (C.length : Int)
    ·rw [decide_eq_true h3, dP, bsm]
     simp only [bsm]
     have h4 := pd4 (fuel := fuel) (ch := ch) (sp := sp) (ru := pre ++ ⟨ea, ej, en⟩ :: suf) (a := ea) (nd := en) (F := F) (M := M) (D := D) (C := C) (b := b) (la := la) (td := td) (lv := lv) ej [] fuel g (by omega) (by simp; omega) (by simp; omega)
     simp only [List.nil_append, List.length_nil, Int.natCast_zero] at h4
     rw [h4]
     by_cases h5 : dX ch ea [] ej
     ·rw [if_pos h5, bsm]
      dsimp only
      rw [aS (by omega), bsm, fE pre suf _, cA pre _, ih (pre ++ [_]) k _ (by omega) (by simp; omega) (fun r hr => hj r (.tail _ hr))]
      by_cases hs : ∀ r ∈ suf, okR sp.length ch r ∧ 0 ≤ r.Node ∧ r.Node < (C.length : Int)
      ·rw [if_pos hs, if_pos (fun r hr => by
        cases hr with
        | head => exact ⟨⟨⟨h1.1, h1.2, h2⟩, h5⟩, h3⟩
        | tail _ hr => exact hs r hr)]; rfl
      ·rw [if_neg hs, if_neg (fun g => hs fun r hr => g r (.tail _ hr))]
     ·rw [if_neg h5, if_neg (fun g => h5 (g _ (.head _)).1.2)]; rfl
    ·rw [decide_eq_false h3, cC, if_neg (fun g => h3 (g _ (.head _)).2)]; rfl
   ·rw [if_neg (fun g : ∀ r ∈ (⟨ea, ej, en⟩ : ScopeRule) :: suf, okR sp.length ch r ∧ 0 ≤ r.Node ∧ r.Node < (C.length : Int) => h2 (g ⟨ea, ej, en⟩ (.head _)).1.1.2.2)]
    by_cases h3 : 0 < (ej.length : Int)
    ·rw [if_pos h3, if_neg (by omega), cC]; rfl
    ·rw [if_neg h3, cC]; rfl
  ·rw [decide_eq_false h1, cC, if_neg (fun g : ∀ r ∈ (⟨ea, ej, en⟩ : ScopeRule) :: suf, okR sp.length ch r ∧ 0 ≤ r.Node ∧ r.Node < (C.length : Int) => h1 ⟨(g _ (.head _)).1.1.1, (g _ (.head _)).1.1.2.1⟩)]; rfl
def smD (d : ScopeDef) : Prop := d.Chans.length ≤ 2000000 ∧ d.Spots.length ≤ 2000000 ∧ d.Rules.length ≤ 2000000 ∧ ∀ r ∈ d.Rules, r.Joins.length ≤ 2000000
open Classical in
theorem aE5 {fuel : Nat} {x : Code_checker} {d : ScopeDef} (hf : 4000000 ≤ fuel) (hs : smD d) : sN fuel x d = some (if okD d ∧ inD x.CodeProg.Code.length d then .inl x else .inr W) := by
 obtain ⟨ch, sp, ru⟩ := d
 obtain ⟨⟨F, D, C, M⟩, b, la, lv, td⟩ := x
 obtain ⟨s1, s2, s3, s4⟩ := hs
 simp only at s1 s2 s3 s4
 rw [sN]
 dsimp only
 by_cases h0 : ch.length ≤ 30 ∧ sp.length ≤ 30 ∧ ru.length ≤ 30
 ·rw [if_pos (by omega), if_pos (by omega), decide_eq_true (by omega), dP, bsm]
  simp only [bsm]
  have e1 := pd1 (sp := sp) (ru := ru) ch [] fuel (by omega) (by simp; omega)
  have e2 := pd2 (ch := ch) (ru := ru) (F := F) (M := M) (D := D) (C := C) (b := b) (la := la) (td := td) (lv := lv) sp [] fuel (by omega) (by simp; omega)
  have e3 := pd3 (fuel := fuel) (ch := ch) (sp := sp) (F := F) (M := M) (D := D) (C := C) (b := b) (la := la) (td := td) (lv := lv) (by omega) ru [] fuel aE.none (by omega) (by simp; omega) (fun r hr => by have := s4 r hr; omega)
  simp only [List.nil_append, List.length_nil, Int.natCast_zero] at e1 e2 e3
  rw [e1]
  by_cases h1 : ∀ c ∈ ch, fA sp.length c
  ·rw [if_pos h1, bsm]
   dsimp only
   rw [e2]
   by_cases h2 : eS 0 sp ∧ ∀ s ∈ sp, 0 ≤ s.Node ∧ s.Node < (C.length : Int)
   ·rw [if_pos h2, bsm]
    dsimp only
    rw [e3]
    by_cases h3 : ∀ r ∈ ru, okR sp.length ch r ∧ 0 ≤ r.Node ∧ r.Node < (C.length : Int)
    ·rw [if_pos h3, bsm]
     dsimp only
     obtain ⟨k1, k2⟩ := aC4 (k := sp.length) rfl ru _ (eZ.none ch.length) fun r hr => (h3 r hr).1
     by_cases h4 : (updR aE.none ru).size = ch.length
     ·rw [decide_eq_true (by omega), dP, bsm]
      dsimp only
      rw [if_pos ⟨⟨h0, h1, h2.1, fun r hr => (h3 r hr).1, fun i hi => by
       have := (k2 i).1 (k1.full.1 h4 i hi)
       simpa [aE.none] using this⟩, h2.2, fun r hr => (h3 r hr).2⟩]
     ·rw [decide_eq_false (by omega), cC, bsm]
      dsimp only
      rw [if_neg]
      rintro ⟨⟨_, _, _, _, g⟩, _⟩
      exact h4 (k1.full.2 fun i hi => (k2 i).2 (.inr (g i hi)))
    ·rw [if_neg h3, bsm]
     dsimp only
     rw [if_neg (fun g => h3 fun r hr => ⟨g.1.2.2.2.1 r hr, g.2.2 r hr⟩)]
   ·rw [if_neg h2, bsm]
    dsimp only
    rw [if_neg (fun g => h2 ⟨g.1.2.2.1, g.2.1⟩)]
  ·rw [if_neg h1, bsm]
   dsimp only
   rw [if_neg (fun g => h1 g.1.2.1)]
 ·rw [if_neg (fun g : okD ⟨ch, sp, ru⟩ ∧ inD C.length ⟨ch, sp, ru⟩ => h0 g.1.1)]
  by_cases h1 : ch.length ≤ 30
  ·rw [if_pos (by omega)]
   by_cases h2 : sp.length ≤ 30
   ·rw [if_pos (by omega), decide_eq_false (by omega), cC]; rfl
   ·rw [if_neg (by omega), cC]; rfl
  ·rw [if_neg (by omega), cC]; rfl
open Go.SX Go.SW Go.Dt
open Classical in
theorem rd1 {sp : List ScopeSpot} {ru : List ScopeRule} (suf : List ScopeChan) : ∀ (pre : List ScopeChan) (k : Nat), suf.length < k → pre.length + suf.length ≤ 3000000 →
 lO ⟨pre ++ suf, sp, ru⟩ k pre.length = some (if ∀ c ∈ suf, fA sp.length c then .inl () else .inr false) := by
 induction suf with
 | nil =>
  intro pre k hk _
  obtain _ | k := k
  ·omega
  rw [lO, if_neg (by simp), if_pos (fun _ h => by cases h)]
 | cons e suf ih =>
  intro pre k hk hB
  obtain _ | k := k
  ·omega
  simp only [List.length_cons] at hk hB
  rw [lO, if_pos (bT _ _ _)]
  dsimp only
  simp only [bR, bsm]
  by_cases h : fA sp.length e
  ·obtain ⟨h1, h2, h3, h4⟩ := h
   rw [if_neg (by omega), if_neg (by omega), if_neg (by omega), if_neg (by omega), aS (by omega), bsm, fE pre suf e, cA pre e, ih (pre ++ [e]) k (by omega) (by simp; omega)]
   by_cases hs : ∀ c ∈ suf, fA sp.length c
   ·rw [if_pos hs, if_pos (fun c hc => by cases hc with | head => exact ⟨h1, h2, h3, h4⟩ | tail _ hc => exact hs c hc)]
   ·rw [if_neg hs, if_neg (fun g => hs fun c hc => g c (.tail _ hc))]
  ·rw [if_neg (fun g : ∀ c ∈ e :: suf, fA sp.length c => h (g e (.head _)))]
   by_cases h1 : e.At < 0
   ·rw [if_pos h1]
   ·rw [if_neg h1]
    by_cases h2 : (sp.length : Int) < e.At
    ·rw [if_pos h2]
    ·rw [if_neg h2]
     by_cases h3 : e.Many < 0
     ·rw [if_pos h3]
     ·rw [if_neg h3, if_pos (by
       rcases Int.lt_or_le 3 e.Many with g | g
       ·exact g
       ·exact absurd (⟨by omega, by omega, by omega, g⟩ : fA sp.length e) h)]
open Classical in
theorem rd2 {ch : List ScopeChan} {ru : List ScopeRule} (suf : List ScopeSpot) : ∀ (pre : List ScopeSpot) (k : Nat), suf.length < k → pre.length + suf.length ≤ 3000000 →
 lM ⟨ch, pre ++ suf, ru⟩ k pre.length = some (if eS pre.length suf then .inl () else .inr false) := by
 induction suf with
 | nil =>
  intro pre k hk _
  obtain _ | k := k
  ·omega
  rw [lM, if_neg (by simp), if_pos (show eS pre.length [] from trivial)]
 | cons e suf ih =>
  intro pre k hk hB
  obtain _ | k := k
  ·omega
  simp only [List.length_cons] at hk hB
  rw [lM, if_pos (bT _ _ _)]
  dsimp only
  simp only [bR, bsm]
  by_cases h : 0 ≤ e.In ∧ e.In ≤ (pre.length : Int)
  ·rw [if_neg (by omega), if_neg (by omega), aS (by omega), bsm, fE pre suf e, cA pre e, ih (pre ++ [e]) k (by omega) (by simp; omega)]
   have hl : (pre ++ [e]).length = pre.length + 1 := by simp
   rw [hl]
   by_cases hs : eS (pre.length + 1) suf
   ·rw [if_pos hs, if_pos (show eS pre.length (e :: suf) from ⟨h, hs⟩)]
   ·rw [if_neg hs, if_neg (fun g : eS pre.length (e :: suf) => hs g.2)]
  ·rw [if_neg (fun g : eS pre.length (e :: suf) => h g.1)]
   by_cases h1 : e.In < 0
   ·rw [if_pos h1]
   ·rw [if_neg h1, if_pos (by omega)]
def eP (u : List Bool) (l : List Int) : List Bool := l.foldl (fun u j => u.set j.toNat true) u
def setR (u : List Bool) (l : List ScopeRule) : List Bool := l.foldl (fun u r => eP u r.Joins) u
theorem qN : ∀ (l : List Int) (u : List Bool), (∀ j ∈ l, 0 ≤ j ∧ j < (u.length : Int)) → (eP u l).length = u.length ∧ ∀ i : Nat, (eP u l)[i]? = some true ↔ u[i]? = some true ∨ (i : Int) ∈ l
 | [], u, _ => ⟨rfl, fun i => by simp [eP]⟩
 | j :: l, u, hl => by
  have hj := hl j (.head _)
  obtain ⟨h1, h2⟩ := qN l (u.set j.toNat true) fun x hx => by simpa using hl x (.tail _ hx)
  refine ⟨by show (eP (u.set j.toNat true) l).length = _; rw [h1]; simp, fun i => (h2 i).trans ?_⟩
  by_cases e : i = j.toNat
  ·subst e
   have e2 : ((j.toNat : Nat) : Int) = j := by omega
   have e3 : j.toNat < u.length := by omega
   simp [e2, e3]
  ·have e2 : (i : Int) ≠ j := by omega
   rw [List.getElem?_set_ne (by omega)]; simp [e2]
theorem aAZ {n k : Nat} {ch : List ScopeChan} (hn : ch.length = n) : ∀ (l : List ScopeRule) (u : List Bool), u.length = n → (∀ r ∈ l, okR k ch r) → (setR u l).length = n ∧ ∀ i : Nat, (setR u l)[i]? = some true ↔ u[i]? = some true ∨ ∃ r ∈ l, (i : Int) ∈ r.Joins
 | [], u, h, _ => ⟨h, fun i => by simp [setR]⟩
 | r :: l, u, h, hl => by
  obtain ⟨h1, h2⟩ := qN r.Joins u fun j hj => by have := wK (hl r (.head _)).2 j hj; omega
  obtain ⟨h3, h4⟩ := aAZ hn l (eP u r.Joins) (h1.trans h) fun x hx => hl x (.tail _ hx)
  refine ⟨h3, fun i => (h4 i).trans ?_⟩
  rw [h2]
  simp [or_assoc]
open Classical in
theorem rd4 {fuel : Nat} {ch : List ScopeChan} {sp : List ScopeSpot} {ru : List ScopeRule} {a nd : Int} (suf : List Int) : ∀ (pre : List Int) (k : Nat) (u : List Bool), suf.length < k → pre.length + suf.length ≤ 3000000 → pre.length + suf.length < fuel → u.length = ch.length →
 lP fuel ⟨ch, sp, ru⟩ ⟨a, pre ++ suf, nd⟩ k u pre.length = some (if dX ch a pre suf then .inl (eP u suf) else .inr (.inr false)) := by
 induction suf with
 | nil =>
  intro pre k u hk _ _ _
  obtain _ | k := k
  ·omega
  rw [lP, if_neg (by simp), if_pos (show dX ch a pre [] from trivial)]; rfl
 | cons e suf ih =>
  intro pre k u hk hB hf hu
  obtain _ | k := k
  ·omega
  simp only [List.length_cons] at hk hB hf
  rw [lP, if_pos (bT _ _ _)]
  dsimp only
  rw [bR, bsm]
  by_cases h0 : 0 ≤ e ∧ e < (ch.length : Int)
  ·rw [if_neg (by omega), if_neg (by omega), vF, bsm, mC (by omega) (by omega), bsm]
   have hc : ch[e.toNat]? = some (ch[e.toNat]'(by omega)) := by simp
   by_cases h2 : e ∈ pre
   ·rw [decide_eq_true h2, cond_true, if_neg (fun g : dX ch a pre (e :: suf) => g.1.2.2.2 h2)]; rfl
   ·rw [decide_eq_false h2, cond_false, dF h0.1 h0.2, bsm]
    by_cases h1 : (ch[e.toNat]'(by omega)).At = a
    ·rw [if_neg (fun g => g h1), dF h0.1 (by omega), bsm, aS (by omega), bsm, fE pre suf e, cA pre e, ih (pre ++ [e]) k _ (by omega) (by simp; omega) (by simp; omega) (by simpa using hu)]
     by_cases hs : dX ch a (pre ++ [e]) suf
     ·rw [if_pos hs, if_pos (show dX ch a pre (e :: suf) from ⟨⟨h0.1, h0.2, ⟨_, hc, h1⟩, h2⟩, hs⟩)]; rfl
     ·rw [if_neg hs, if_neg (fun g : dX ch a pre (e :: suf) => hs g.2)]
    ·rw [if_pos h1, if_neg (fun g : dX ch a pre (e :: suf) => by obtain ⟨⟨_, _, ⟨c, g1, g2⟩, _⟩, _⟩ := g; rw [hc] at g1; cases g1; exact h1 g2)]; rfl
  ·rw [if_neg (fun g : dX ch a pre (e :: suf) => h0 ⟨g.1.1, g.1.2.1⟩)]
   by_cases h1 : e < 0
   ·rw [if_pos h1]; rfl
   ·rw [if_neg h1, if_pos (by omega)]; rfl
open Classical in
theorem rd3 {fuel : Nat} {ch : List ScopeChan} {sp : List ScopeSpot} (hf : 3000000 < fuel) (suf : List ScopeRule) : ∀ (pre : List ScopeRule) (k : Nat) (u : List Bool), suf.length < k → pre.length + suf.length ≤ 3000000 → (∀ r ∈ suf, r.Joins.length ≤ 3000000) → u.length = ch.length →
 kY fuel ⟨ch, sp, pre ++ suf⟩ k u pre.length = some (if ∀ r ∈ suf, okR sp.length ch r then .inl (setR u suf) else .inr false) := by
 induction suf with
 | nil =>
  intro pre k u hk _ _ _
  obtain _ | k := k
  ·omega
  rw [kY, if_neg (by simp), if_pos (fun _ h => by cases h)]; rfl
 | cons e suf ih =>
  intro pre k u hk hB hj hu
  obtain _ | k := k
  ·omega
  simp only [List.length_cons] at hk hB
  obtain ⟨ea, ej, en⟩ := e
  rw [kY, if_pos (bT _ _ _)]
  dsimp only
  rw [bR, bsm]
  dsimp only
  have hn : ∀ {P : Prop}, ¬ P → (okR sp.length ch ⟨ea, ej, en⟩ → P) → ¬ ∀ r ∈ (⟨ea, ej, en⟩ : ScopeRule) :: suf, okR sp.length ch r := fun h1 h2 g => h1 (h2 (g _ (.head _)))
  by_cases h1 : 0 ≤ ea ∧ ea ≤ (sp.length : Int)
  ·by_cases h2 : 1 ≤ ej.length ∧ ej.length ≤ 3
   ·rw [if_neg (by omega), if_neg (by omega), if_neg (by omega), if_neg (by omega)]
    have h4 := rd4 (fuel := fuel) (ch := ch) (sp := sp) (ru := pre ++ ⟨ea, ej, en⟩ :: suf) (a := ea) (nd := en) ej [] fuel u (by omega) (by simp; omega) (by simp; omega) hu
    simp only [List.nil_append, List.length_nil, Int.natCast_zero] at h4
    rw [h4]
    by_cases h5 : dX ch ea [] ej
    ·rw [if_pos h5, bsm]
     dsimp only
     have hl := (qN ej u fun j hj => by have := wK h5 j hj; omega).1
     rw [aS (by omega), bsm, fE pre suf _, cA pre _, ih (pre ++ [_]) k _ (by omega) (by simp; omega) (fun r hr => hj r (.tail _ hr)) (hl.trans hu)]
     by_cases hs : ∀ r ∈ suf, okR sp.length ch r
     ·rw [if_pos hs, if_pos (fun r hr => by
       cases hr with
       | head => exact ⟨⟨h1.1, h1.2, h2⟩, h5⟩
       | tail _ hr => exact hs r hr)]; rfl
     ·rw [if_neg hs, if_neg (fun g => hs fun r hr => g r (.tail _ hr))]
    ·rw [if_neg h5, if_neg (hn h5 fun g => g.2)]; rfl
   ·rw [if_neg (by omega), if_neg (by omega), if_neg (hn h2 fun g => g.1.2.2)]
    by_cases h3 : (ej.length : Int) < 1
    ·rw [if_pos h3]; rfl
    ·rw [if_neg h3, if_pos (by omega)]; rfl
  ·rw [if_neg (hn h1 fun g => ⟨g.1.1, g.1.2.1⟩)]
   by_cases h3 : ea < 0
   ·rw [if_pos h3]; rfl
   ·rw [if_neg h3, if_pos (by omega)]; rfl
open Classical in
theorem rd5 (suf : List Bool) : ∀ (pre : List Bool) (k : Nat), suf.length < k → pre.length + suf.length ≤ 3000000 → jZ (pre ++ suf) k pre.length = some (if ∀ b ∈ suf, b = true then .inl () else .inr false) := by
 induction suf with
 | nil =>
  intro pre k hk _
  obtain _ | k := k
  ·omega
  rw [jZ, if_neg (by simp), if_pos (fun _ h => by cases h)]
 | cons e suf ih =>
  intro pre k hk hB
  obtain _ | k := k
  ·omega
  simp only [List.length_cons] at hk hB
  rw [jZ, if_pos (bT _ _ _), bR, bsm]
  cases e with
  | false => rw [cond_false, if_neg (fun g => by have := g false (.head _); cases this)]; rfl
  | true =>
   rw [cond_true, aS (by omega), bsm, fE pre suf _, cA pre _, ih (pre ++ [_]) k (by omega) (by simp; omega)]
   by_cases hs : ∀ b ∈ suf, b = true
   ·rw [if_pos hs, if_pos (fun b hb => by cases hb with | head => rfl | tail _ hb => exact hs b hb)]
   ·rw [if_neg hs, if_neg (fun g => hs fun b hb => g b (.tail _ hb))]
theorem mk_ok {α : Type} {z : α} {n : Nat} (h : n ≤ 1000000000) : mk z (n : Int) = some (List.replicate n z) := by
 unfold mk; rw [if_pos (by omega)]; simp
open Classical in
theorem parts_eq {fuel : Nat} {d : ScopeDef} (hf : 4000000 ≤ fuel) (hs : smD d) : rT fuel d = some (decide (okD d)) := by
 obtain ⟨ch, sp, ru⟩ := d
 obtain ⟨s1, s2, s3, s4⟩ := hs
 simp only at s1 s2 s3 s4
 rw [rT]
 dsimp only
 by_cases h0 : ch.length ≤ 30 ∧ sp.length ≤ 30 ∧ ru.length ≤ 30
 ·rw [if_neg (by omega), if_neg (by omega), if_neg (by omega), mk_ok (by omega), bsm]
  have e1 := rd1 (sp := sp) (ru := ru) ch [] fuel (by omega) (by simp; omega)
  have e2 := rd2 (ch := ch) (ru := ru) sp [] fuel (by omega) (by simp; omega)
  have e3 := rd3 (fuel := fuel) (ch := ch) (sp := sp) (by omega) ru [] fuel (List.replicate ch.length false) (by omega) (by simp; omega) (fun r hr => by have := s4 r hr; omega) (by simp)
  simp only [List.nil_append, List.length_nil, Int.natCast_zero] at e1 e2 e3
  rw [e1]
  by_cases h1 : ∀ c ∈ ch, fA sp.length c
  ·rw [if_pos h1, bsm]
   dsimp only
   rw [e2]
   by_cases h2 : eS 0 sp
   ·rw [if_pos h2, bsm]
    dsimp only
    rw [e3]
    by_cases h3 : ∀ r ∈ ru, okR sp.length ch r
    ·rw [if_pos h3, bsm]
     dsimp only
     obtain ⟨k1, k2⟩ := aAZ (k := sp.length) rfl ru (List.replicate ch.length false) (by simp) h3
     have e5 := rd5 (setR (List.replicate ch.length false) ru) [] fuel (by rw [k1]; omega) (by simp [k1]; omega)
     simp only [List.nil_append, List.length_nil, Int.natCast_zero] at e5
     rw [e5]
     have hall : (∀ b ∈ setR (List.replicate ch.length false) ru, b = true) ↔ ∀ i : Nat, i < ch.length → ∃ r ∈ ru, (i : Int) ∈ r.Joins := by
      constructor
      ·intro g i hi
       have h9 : (setR (List.replicate ch.length false) ru)[i]? = some true := by
        rw [List.getElem?_eq_getElem (by omega)]; congr 1; exact g _ (List.getElem_mem _)
       rcases (k2 i).1 h9 with h | h
       ·simp [hi] at h
       ·exact h
      ·intro g b hb
       obtain ⟨i, hi, rfl⟩ := List.getElem_of_mem hb
       have h9 := (k2 i).2 (.inr (g i (by omega)))
       rw [List.getElem?_eq_getElem hi] at h9
       exact Option.some.inj h9
     by_cases h4 : ∀ b ∈ setR (List.replicate ch.length false) ru, b = true
     ·rw [if_pos h4, bsm]
      dsimp only
      rw [decide_eq_true (show okD ⟨ch, sp, ru⟩ from ⟨h0, h1, h2, h3, hall.1 h4⟩)]
     ·rw [if_neg h4, bsm]
      dsimp only
      rw [decide_eq_false (fun g : okD ⟨ch, sp, ru⟩ => h4 (hall.2 g.2.2.2.2))]
    ·rw [if_neg h3, bsm]
     dsimp only
     rw [decide_eq_false (fun g : okD ⟨ch, sp, ru⟩ => h3 g.2.2.2.1)]
   ·rw [if_neg h2, bsm]
    dsimp only
    rw [decide_eq_false (fun g : okD ⟨ch, sp, ru⟩ => h2 g.2.2.1)]
  ·rw [if_neg h1, bsm]
   dsimp only
   rw [decide_eq_false (fun g : okD ⟨ch, sp, ru⟩ => h1 g.2.1)]
 ·rw [decide_eq_false (fun g : okD ⟨ch, sp, ru⟩ => h0 g.1)]
  by_cases h1 : (30 : Int) < ch.length
  ·rw [if_pos h1]
  ·rw [if_neg h1]
   by_cases h2 : (30 : Int) < sp.length
   ·rw [if_pos h2]
   ·rw [if_neg h2, if_pos (by omega)]
open Go.SX Go.SW Go.Dt
def many (op : Int) : Int := if op = 8 ∨ op = 13 ∨ op = 15 then 2 else if op = 1 ∨ op = 2 ∨ op = 9 ∨ op = 10 ∨ op = 11 ∨ op = 12 then 1 else 0
structure okI (dl len : Nat) (n : Int) (i : CodeIns) : Prop where
 op : 1 ≤ i.Op ∧ i.Op ≤ 16
 a : 0 < many i.Op ∨ i.A = 0
 b : 1 < many i.Op ∨ i.B = 0
 int : i.Op = 1 → -1000000000 ≤ i.A ∧ i.A ≤ 1000000000
 send : i.Op = 8 → 0 ≤ i.B ∧ i.B ≤ 3
 jump : i.Op = 9 ∨ i.Op = 10 → n < i.A ∧ i.A < (len : Int)
 df : i.Op = 11 → i.A < (dl : Int)
 pos : i.Op ≠ 1 → 0 ≤ i.A ∧ 0 ≤ i.B
def inI (len : Nat) (i : CodeIns) : Prop := i.Op = 13 ∨ i.Op = 15 → i.B < (len : Int)
def right (dl len : Nat) (i : CodeIns) : Prop := if i.Op = 1 then -1000000000 ≤ i.A ∧ i.A ≤ 1000000000 else if i.Op = 2 ∨ i.Op = 12 then 0 ≤ i.A else if i.Op = 8 then 0 ≤ i.A ∧ 0 ≤ i.B ∧ i.B ≤ 3 else if i.Op = 11 then 0 ≤ i.A ∧ i.A < (dl : Int) else if i.Op = 13 ∨ i.Op = 15 then 0 ≤ i.A ∧ 0 ≤ i.B ∧ i.B < (len : Int) else True
theorem aBH {dl len : Nat} {n : Int} {i : CodeIns} (hn : 0 ≤ n) : okI dl len n i ∧ inI len i ↔ (1 ≤ i.Op ∧ i.Op ≤ 16) ∧ right dl len i ∧ (0 < many i.Op ∨ i.A = 0) ∧ (1 < many i.Op ∨ i.B = 0) ∧ (i.Op = 9 ∨ i.Op = 10 → n < i.A ∧ i.A < (len : Int)) := by
 obtain ⟨op, A, B⟩ := i
 constructor
 ·rintro ⟨h, h2⟩
  refine ⟨h.op, ?_, h.a, h.b, h.jump⟩
  unfold inI at h2
  have h3 := h.int; have h4 := h.send; have h5 := h.df; have h6 := h.pos
  unfold right
  simp only at *
  repeat' split
  all_goals first | trivial | omega
 ·rintro ⟨h1, h2, h3, h4, h5⟩
  unfold right at h2
  unfold many at h3 h4
  simp only at *
  refine ⟨⟨h1, by unfold many; exact h3, by unfold many; exact h4, ?_, ?_, h5, ?_, ?_⟩, ?_⟩
  all_goals simp only [inI]
  all_goals intro g
  all_goals (repeat' split at h2) <;> (repeat' split at h3) <;> (repeat' split at h4) <;> omega
open Classical in
theorem kindOf {op : Int} (h : 1 ≤ op ∧ op ≤ 16) : ∃ y, idx uZ op = some y ∧ y.many = many op ∧ ∀ (x : Code_checker) (a b : Int), wM y.right x ⟨op, a, b⟩ = some (x, decide (right x.CodeProg.Defs.length x.CodeProg.Code.length ⟨op, a, b⟩)) := by
 have hx : ∀ x : Code_checker, (⟨(⟨x.CodeProg.Free, x.CodeProg.Defs, x.CodeProg.Code, x.CodeProg.Main⟩ : CodeProg), x.begins, x.last, x.levels, x.todo⟩ : Code_checker) = x := fun ⟨⟨_, _, _, _⟩, _, _, _, _⟩ => rfl
 have k1 : ∀ (x : Code_checker) (i : CodeIns), qF x i = some (x, decide (-1000000000 ≤ i.A ∧ i.A ≤ 1000000000)) := fun x i => by
  rw [qF, hx]
  by_cases h : -1000000000 ≤ i.A
  ·rw [if_pos h, bsm]; simp [h]
  ·rw [if_neg h, bsm]; simp [h]
 have k2 : ∀ (x : Code_checker) (i : CodeIns), qK x i = some (x, decide (0 ≤ i.A ∧ 0 ≤ i.B ∧ i.B ≤ 3)) := fun x i => by
  rw [qK, hx]
  by_cases h : 0 ≤ i.A
  ·rw [if_pos h]
   by_cases h2 : 0 ≤ i.B
   ·rw [if_pos h2, bsm]; simp [h, h2]
   ·rw [if_neg h2, bsm]; simp [h2]
  ·rw [if_neg h, bsm]; simp [h]
 have k3 : ∀ (x : Code_checker) (i : CodeIns), tT x i = some (x, decide (0 ≤ i.A ∧ i.A < (x.CodeProg.Defs.length : Int))) := fun x i => by
  rw [tT, hx]
  by_cases h : 0 ≤ i.A
  ·rw [if_pos h, bsm]; simp [h]
  ·rw [if_neg h, bsm]; simp [h]
 have k4 : ∀ (x : Code_checker) (i : CodeIns), sO x i = some (x, decide (0 ≤ i.A ∧ 0 ≤ i.B ∧ i.B < (x.CodeProg.Code.length : Int))) := fun ⟨⟨F, D, C, M⟩, b, la, lv, td⟩ i => by
  rw [sO]
  by_cases h : 0 ≤ i.A
  ·rw [if_pos h, nC, bsm, bsm]; simp [h]
  ·rw [if_neg h, bsm]; simp [h]
 have k5 : ∀ (x : Code_checker) (i : CodeIns), tO x i = some (x, decide (0 ≤ i.A ∧ 0 ≤ i.B ∧ i.B < (x.CodeProg.Code.length : Int))) := fun ⟨⟨F, D, C, M⟩, b, la, lv, td⟩ i => by
  rw [tO]
  by_cases h : 0 ≤ i.A
  ·rw [if_pos h, nC, bsm, bsm]; simp [h]
  ·rw [if_neg h, bsm]; simp [h]
 have ks : ∀ (x : Code_checker) (i : CodeIns), sD x i = some (x, decide (0 ≤ i.A)) := fun x i => by rw [sD, hx]
 have ko : ∀ (x : Code_checker) (i : CodeIns), pX x i = some (x, true) := fun x i => by rw [pX, hx]
 have hc : op = 1 ∨ op = 2 ∨ op = 3 ∨ op = 4 ∨ op = 5 ∨ op = 6 ∨ op = 7 ∨ op = 8 ∨ op = 9 ∨ op = 10 ∨ op = 11 ∨ op = 12 ∨ op = 13 ∨ op = 14 ∨ op = 15 ∨ op = 16 := by omega
 rcases hc with rfl | rfl | rfl | rfl | rfl | rfl | rfl | rfl | rfl | rfl | rfl | rfl | rfl | rfl | rfl | rfl <;> refine ⟨_, rfl, rfl, fun x a b => ?_⟩
 ·exact (k1 x _).trans (by simp [right])
 ·exact (ks x _).trans (by simp [right])
 ·exact (ko x ⟨3, a, b⟩).trans (by simp [right])
 ·exact (ko x ⟨4, a, b⟩).trans (by simp [right])
 ·exact (ko x ⟨5, a, b⟩).trans (by simp [right])
 ·exact (ko x ⟨6, a, b⟩).trans (by simp [right])
 ·exact (ko x ⟨7, a, b⟩).trans (by simp [right])
 ·exact (k2 x _).trans (by simp [right])
 ·exact (ko x ⟨9, a, b⟩).trans (by simp [right])
 ·exact (ko x ⟨10, a, b⟩).trans (by simp [right])
 ·exact (k3 x _).trans (by simp [right])
 ·exact (ks x _).trans (by simp [right])
 ·exact (k4 x _).trans (by simp [right])
 ·exact (ko x ⟨14, a, b⟩).trans (by simp [right])
 ·exact (k5 x _).trans (by simp [right])
 ·exact (ko x ⟨16, a, b⟩).trans (by simp [right])
def fW (dl len : Nat) : Nat → List CodeIns → Prop
 | _, [] => True
 | n, i :: l => (okI dl len n i ∧ inI len i) ∧ fW dl len (n + 1) l
def dO : List Int → List CodeIns → Prop
 | _, [] => True
 | ds, i :: l => (i.Op = 11 → i.A ∉ ds) ∧ dO (if i.Op = 11 then ds ++ [i.A] else ds) l
def dW : List Int → List CodeIns → List Int
 | ds, [] => ds
 | ds, i :: l => dW (if i.Op = 11 then ds ++ [i.A] else ds) l
theorem yL : ∀ (l : List Int) (g : aE Int Bool) (k : Int), (dV g l).get k = if k ∈ l then some true else g.get k
 | [], g, k => by simp [dV]
 | j :: l, g, k => by
  show (dV (g.upd j true) l).get k = _
  rw [yL l]
  by_cases h : k ∈ l
  ·rw [if_pos h, if_pos (.tail _ h)]
  ·rw [if_neg h]
   by_cases e : k = j
   ·subst e; rw [if_pos (.head _)]; simp [aE.upd]
   ·rw [if_neg (by simp [e, h])]; simp [aE.upd, e]
theorem aA1 (g : aE Int Bool) (l : List Int) (j : Int) : dV g (l ++ [j]) = (dV g l).upd j true := by simp [dV]
theorem known_eq (a : Int) : tL a = some (decide (1 ≤ a ∧ a ≤ 16)) := by
 rw [tL]
 by_cases h : 1 ≤ a
 ·rw [if_pos h, bsm]; simp [h]
 ·rw [if_neg h, bsm]; simp [h]
theorem bb {α γ δ : Type} {T : Option α} {G : α → Option γ} {G' : γ → Option δ} {z : α} {r : Option δ} (h : T = some z) (k : (G z).bind G' = r) : (T.bind G).bind G' = r := by rw [h, bsm]; exact k
open Classical in
theorem pi1 {F M : Int} {D : List ScopeDef} {b la td : List Int} {lv : aE Int CodeLevel} {x0 : Code_checker} (suf : List CodeIns) : ∀ (pre : List CodeIns) (k : Nat) (ds : List Int), x0.CodeProg.Code = pre ++ suf → suf.length < k → pre.length + suf.length ≤ 3000000 → (dV aE.none ds).size = ds.length →
 jJ x0 k pre.length F D (pre ++ suf) M b la lv td (dV aE.none ds) = some (if fW D.length (pre ++ suf).length pre.length suf ∧ dO ds suf then .inl (F, D, pre ++ suf, M, b, la, lv, td, dV aE.none (dW ds suf)) else .inr (.inr W)) ∧ (dO ds suf → (dV aE.none (dW ds suf)).size = (dW ds suf).length) := by
 induction suf with
 | nil =>
  intro pre k ds hx hk _ hs
  obtain _ | k := k
  ·omega
  exact ⟨by rw [jJ, hx, if_neg (by simp), if_pos ⟨trivial, trivial⟩]; rfl, fun _ => hs⟩
 | cons e suf ih =>
  intro pre k ds hx hk hB hs
  obtain _ | k := k
  ·omega
  simp only [List.length_cons] at hk hB
  have hle : (pre ++ [e]).length = pre.length + 1 := by simp
  have hsn : pre ++ e :: suf = (pre ++ [e]) ++ suf := fE pre suf e
  have hrest : ∀ ds', (dV aE.none ds').size = ds'.length → (okI D.length (pre ++ e :: suf).length pre.length e ∧ inI (pre ++ e :: suf).length e) → (e.Op = 11 → e.A ∉ ds) → ds' = (if e.Op = 11 then ds ++ [e.A] else ds) →
   ((chk ((pre.length : Int) + 1)).bind fun z => jJ x0 k z F D (pre ++ e :: suf) M b la lv td (dV aE.none ds')) = some (if fW D.length (pre ++ e :: suf).length pre.length (e :: suf) ∧ dO ds (e :: suf) then .inl (F, D, pre ++ e :: suf, M, b, la, lv, td, dV aE.none (dW ds (e :: suf))) else .inr (.inr W)) := by
   intro ds' h1 h2 h3 h4
   have := (ih (pre ++ [e]) k ds' (by rw [hx, hsn]) (by omega) (by simp; omega) h1).1
   rw [aS (by omega), bsm, cA, hsn, this, hle]
   congr 1
   subst h4
   rw [hsn] at h2
   by_cases g : fW D.length (pre ++ [e] ++ suf).length (pre.length + 1) suf ∧ dO (if e.Op = 11 then ds ++ [e.A] else ds) suf
   ·rw [if_pos g, if_pos (show fW D.length (pre ++ [e] ++ suf).length pre.length (e :: suf) ∧ dO ds (e :: suf) from ⟨⟨h2, g.1⟩, h3, g.2⟩)]; rfl
   ·rw [if_neg g, if_neg (fun q : fW D.length (pre ++ [e] ++ suf).length pre.length (e :: suf) ∧ dO ds (e :: suf) => g ⟨q.1.2, q.2.2⟩)]
  have hsz : e.A ∉ ds → (dV aE.none (ds ++ [e.A])).size = (ds ++ [e.A]).length := fun h => by
   rw [aA1]
   have : ((dV aE.none ds).get e.A).isSome = false := by rw [yL, if_neg h]; rfl
   simp [aE.upd, this, hs]
  refine ⟨?_, fun h => ?_⟩
  ·rw [jJ, hx, if_pos (bT _ _ _), bR]
   simp only [bsm]
   rw [known_eq, bsm]
   have hneg : ¬ (okI D.length (pre ++ e :: suf).length pre.length e ∧ inI (pre ++ e :: suf).length e) → (some (if fW D.length (pre ++ e :: suf).length pre.length (e :: suf) ∧ dO ds (e :: suf) then .inl (F, D, pre ++ e :: suf, M, b, la, lv, td, dV aE.none (dW ds (e :: suf))) else .inr (.inr W)) : Option ((Int × List ScopeDef × List CodeIns × Int × List Int × List Int × aE Int CodeLevel × List Int × aE Int Bool) ⊕ (Code_checker ⊕ Value))) = some (.inr (.inr W)) := fun g => by
    rw [if_neg (fun q => g q.1.1)]
   rw [aBH (by omega)] at hneg
   by_cases h1 : 1 ≤ e.Op ∧ e.Op ≤ 16
   ·obtain ⟨y, y1, y2, y3⟩ := kindOf h1
    rw [decide_eq_true h1, dP, bsm]
    simp only [y1, bsm, y3, y2]
    by_cases h2 : right D.length (pre ++ e :: suf).length e
    ·rw [decide_eq_true (show right D.length (pre ++ e :: suf).length ⟨e.Op, e.A, e.B⟩ from h2), cond_true]
     by_cases h3 : (0 < many e.Op ∨ e.A = 0) ∧ (1 < many e.Op ∨ e.B = 0)
     ·refine bb (z := .inl (F, D, pre ++ e :: suf, M, b, la, lv, td)) ?_ ?_
      ·by_cases m0 : 0 < many e.Op
       ·rw [if_pos m0]
        by_cases m1 : 1 < many e.Op
        ·rw [if_pos m1]
        ·rw [if_neg m1, decide_eq_true (h3.2.resolve_left m1), dP, bsm]
       ·rw [if_neg m0, if_pos (h3.1.resolve_left m0)]
        by_cases m1 : 1 < many e.Op
        ·rw [if_pos m1]
        ·rw [if_neg m1, decide_eq_true (h3.2.resolve_left m1), dP, bsm]
      dsimp only
      by_cases h4 : e.Op = 9 ∨ e.Op = 10 → (pre.length : Int) < e.A ∧ e.A < ((pre ++ e :: suf).length : Int)
      ·have hok := (aBH (by omega)).2 ⟨h1, h2, h3.1, h3.2, h4⟩
       refine bb (z := .inl ()) ?_ ?_
       ·by_cases o9 : e.Op = 9
        ·rw [if_pos o9, if_pos (h4 (.inl o9)).1, decide_eq_true (h4 (.inl o9)).2, dP, bsm]
        ·rw [if_neg o9]
         by_cases o10 : e.Op = 10
         ·rw [if_pos o10, if_pos (h4 (.inr o10)).1, decide_eq_true (h4 (.inr o10)).2, dP, bsm]
         ·rw [if_neg o10]
       dsimp only
       by_cases h6 : e.Op = 11
       ·rw [if_pos h6, yL]
        by_cases h7 : e.A ∈ ds
        ·rw [if_pos h7]
         simp only [Option.getD_some, Bool.not_true, cC, bsm]
         rw [if_neg (fun q => q.2.1 h6 h7)]
        ·rw [if_neg h7]
         have hg : (aE.none : aE Int Bool).get e.A = none := rfl
         simp only [hg, Option.getD_none, Bool.not_false, dP, bsm]
         rw [← aA1]
         exact hrest _ (hsz h7) hok (fun _ => h7) (by rw [if_pos h6])
       ·rw [if_neg h6, bsm]
        exact hrest _ hs hok (fun g => absurd g h6) (by rw [if_neg h6])
      ·rw [hneg (fun q => h4 q.2.2.2.2)]
       have o : e.Op = 9 ∨ e.Op = 10 := Classical.byContradiction fun g => h4 fun q => absurd q g
       have h5 : ¬ ((pre.length : Int) < e.A ∧ e.A < ((pre ++ e :: suf).length : Int)) := fun g => h4 fun _ => g
       rcases o with o | o
       ·rw [if_pos o]
        by_cases q : (pre.length : Int) < e.A
        ·rw [if_pos q, decide_eq_false (fun w => h5 ⟨q, w⟩), cC]; rfl
        ·rw [if_neg q, cC]; rfl
       ·rw [if_neg (by omega), if_pos o]
        by_cases q : (pre.length : Int) < e.A
        ·rw [if_pos q, decide_eq_false (fun w => h5 ⟨q, w⟩), cC]; rfl
        ·rw [if_neg q, cC]; rfl
     ·rw [hneg (fun q => h3 ⟨q.2.2.1, q.2.2.2.1⟩)]
      by_cases m0 : 0 < many e.Op
      ·rw [if_pos m0]
       have m1 : ¬ 1 < many e.Op := fun q => h3 ⟨.inl m0, .inl q⟩
       rw [if_neg m1, decide_eq_false (fun q => h3 ⟨.inl m0, .inr q⟩), cC]; rfl
      ·rw [if_neg m0]
       by_cases a0 : e.A = 0
       ·rw [if_pos a0]
        have m1 : ¬ 1 < many e.Op := fun q => h3 ⟨.inr a0, .inl q⟩
        rw [if_neg m1, decide_eq_false (fun q => h3 ⟨.inr a0, .inr q⟩), cC]; rfl
       ·rw [if_neg a0, cC]; rfl
    ·rw [hneg (fun q => h2 q.2.1), decide_eq_false (show ¬ right D.length (pre ++ e :: suf).length ⟨e.Op, e.A, e.B⟩ from h2), cC]; rfl
   ·rw [hneg (fun q => h1 q.1), decide_eq_false h1, cC]; rfl
  ·by_cases h6 : e.Op = 11
   ·have := (ih (pre ++ [e]) k (ds ++ [e.A]) (by rw [hx, hsn]) (by omega) (by simp; omega) (hsz (h.1 h6))).2
    simp only [dO, dW, if_pos h6] at h ⊢
    exact this h.2
   ·have := (ih (pre ++ [e]) k ds (by rw [hx, hsn]) (by omega) (by simp; omega) hs).2
    simp only [dO, dW, if_neg h6] at h ⊢
    exact this h.2
open Classical in
theorem aEt {fuel : Nat} {x : Code_checker} (hf : 4000000 ≤ fuel) (hc : x.CodeProg.Code.length ≤ 2000000) :
 qX fuel x = some (if (fW x.CodeProg.Defs.length x.CodeProg.Code.length 0 x.CodeProg.Code ∧ dO [] x.CodeProg.Code) ∧ (dW [] x.CodeProg.Code).length = x.CodeProg.Defs.length then .inl x else .inr W) := by
 obtain ⟨⟨F, D, C, M⟩, b, la, lv, td⟩ := x
 simp only at hc
 obtain ⟨e1, e2⟩ := pi1 (F := F) (M := M) (D := D) (b := b) (la := la) (td := td) (lv := lv) (x0 := ⟨⟨F, D, C, M⟩, b, la, lv, td⟩) C [] fuel [] rfl (by omega) (by simp; omega) rfl
 simp only [List.nil_append, List.length_nil, Int.natCast_zero] at e1
 have e3 : dV aE.none [] = aE.none := rfl
 rw [e3] at e1
 rw [qX, xO, bsm]
 dsimp only
 rw [e1]
 by_cases h : fW D.length C.length 0 C ∧ dO [] C
 ·rw [if_pos h, bsm]
  dsimp only
  rw [e2 h.2]
  by_cases h2 : (dW [] C).length = D.length
  ·rw [decide_eq_true (by omega), dP, bsm, if_pos ⟨h, h2⟩]
  ·rw [decide_eq_false (by omega), cC, bsm, if_neg (fun g => h2 g.2)]
 ·rw [if_neg h, bsm, if_neg (fun g => h g.1)]
open Go.SX Go.SW Go.Dt
theorem b1 {α γ : Type} {T : Option α} {G : α → Option γ} {z : α} {r : Option γ} (h : T = some z) (k : G z = r) : T.bind G = r := by rw [h, bsm]; exact k
theorem many_eq (op : Int) : sZ op = some (if 1 ≤ op ∧ op ≤ 16 then many op else -1) := by
 by_cases h : 1 ≤ op ∧ op ≤ 16
 ·rw [if_pos h]
  have hc : op = 1 ∨ op = 2 ∨ op = 3 ∨ op = 4 ∨ op = 5 ∨ op = 6 ∨ op = 7 ∨ op = 8 ∨ op = 9 ∨ op = 10 ∨ op = 11 ∨ op = 12 ∨ op = 13 ∨ op = 14 ∨ op = 15 ∨ op = 16 := by omega
  rcases hc with rfl | rfl | rfl | rfl | rfl | rfl | rfl | rfl | rfl | rfl | rfl | rfl | rfl | rfl | rfl | rfl <;> rfl
 ·rw [if_neg h, sZ]
  have : op ≠ 1 ∧ op ≠ 2 ∧ op ≠ 3 ∧ op ≠ 4 ∧ op ≠ 5 ∧ op ≠ 6 ∧ op ≠ 7 ∧ op ≠ 8 ∧ op ≠ 9 ∧ op ≠ 10 ∧ op ≠ 11 ∧ op ≠ 12 ∧ op ≠ 13 ∧ op ≠ 14 ∧ op ≠ 15 ∧ op ≠ 16 := by omega
  simp [this]
def dR (C : List CodeIns) (n : Nat) (i : CodeIns) : Prop := i.Op = 9 ∨ i.Op = 10 → ∀ k : Nat, n ≤ k → (k : Int) < i.A → ∀ j, C[k]? = some j → j.Op ≠ 16
open Classical in
theorem ro1 {c : CodeProg} {y : CodeIns} {n : Nat} (hA : y.A < (c.Code.length : Int)) : ∀ (k m : Nat), n ≤ m → (m : Int) ≤ y.A → c.Code.length - m < k → c.Code.length ≤ 2000000 → (∀ q : Nat, n ≤ q → q < m → ∀ j, c.Code[q]? = some j → j.Op ≠ 16) →
 mJ c y k m = some (if ∀ q : Nat, n ≤ q → (q : Int) < y.A → ∀ j, c.Code[q]? = some j → j.Op ≠ 16 then .inl () else .inr (.inr false))
 | k + 1, m, hm, hmA, hk, hc, hq => by
  rw [mJ]
  by_cases h : (m : Int) < y.A
  ·have hlt : m < c.Code.length := by omega
   rw [if_pos h, dF (by omega) (by omega), bsm]
   simp only [Int.toNat_natCast]
   by_cases h2 : (c.Code[m]).Op = 16
   ·rw [if_pos h2, if_neg (fun g => g m hm h _ (List.getElem?_eq_getElem hlt) h2)]; rfl
   ·rw [if_neg h2, aS (by omega), bsm]
    have := ro1 (c := c) (y := y) (n := n) hA k (m + 1) (by omega) (by omega) (by omega) hc fun q h3 h4 j hj => by
     rcases Nat.lt_or_ge q m with h5 | h5
     ·exact hq q h3 h5 j hj
     ·have : q = m := by omega
      subst this
      rw [List.getElem?_eq_getElem hlt] at hj; cases hj; exact h2
    simpa using this
  ·rw [if_neg h, if_pos]
   intro q h3 h4 j hj
   exact hq q h3 (by omega) j hj
open Classical in
theorem aDy {fuel : Nat} {c : CodeProg} {n : Nat} {i : CodeIns} (hf : 4000000 ≤ fuel) (hc : c.Code.length ≤ 2000000) (hi : c.Code[n]? = some i) :
 pY fuel c n = some (decide (okI c.Defs.length c.Code.length n i ∧ dR c.Code n i)) := by
 rw [pY, fB hi, bsm, many_eq, bsm]
 have hneg : ∀ {P : Prop}, ¬ P → (okI c.Defs.length c.Code.length n i → P) → decide (okI c.Defs.length c.Code.length n i ∧ dR c.Code n i) = false := fun h1 h2 => decide_eq_false fun g => h1 (h2 g.1)
 by_cases h1 : 1 ≤ i.Op ∧ i.Op ≤ 16
 ·rw [if_pos h1]
  have hm : 0 ≤ many i.Op := by unfold many; repeat' split
                                all_goals omega
  by_cases h2 : (0 < many i.Op ∨ i.A = 0) ∧ (1 < many i.Op ∨ i.B = 0)
  ·refine b1 (z := .inl ()) ?_ ?_
   ·rw [if_neg (by omega)]
    by_cases m0 : many i.Op < 1
    ·rw [if_pos m0, if_neg (fun g => g (h2.1.resolve_left (by omega))), if_pos (by omega), if_neg (fun g => g (h2.2.resolve_left (by omega)))]
    ·rw [if_neg m0]
     by_cases m1 : many i.Op < 2
     ·rw [if_pos m1, if_neg (fun g => g (h2.2.resolve_left (by omega)))]
     ·rw [if_neg m1]
   dsimp only
   by_cases o1 : i.Op = 1
   ·rw [if_pos o1]
    have e : decide (okI c.Defs.length c.Code.length n i ∧ dR c.Code n i) = decide (-1000000000 ≤ i.A ∧ i.A ≤ 1000000000) := decide_eq_decide.2 ⟨fun g => g.1.int o1, fun p => ⟨⟨h1, h2.1, h2.2, fun _ => p, fun g => by omega, fun g => by omega, fun g => by omega, fun g => absurd o1 g⟩, fun g => by omega⟩⟩
    rw [e]
    by_cases a : -1000000000 ≤ i.A
    ·rw [if_pos a, bsm]; simp [a]
    ·rw [if_neg a, bsm]; simp [a]
   ·rw [if_neg o1]
    by_cases o8 : i.Op = 8
    ·rw [if_pos o8]
     have e : decide (okI c.Defs.length c.Code.length n i ∧ dR c.Code n i) = decide (0 ≤ i.A ∧ 0 ≤ i.B ∧ i.B ≤ 3) := decide_eq_decide.2 ⟨fun g => ⟨(g.1.pos o1).1, g.1.send o8⟩, fun p => ⟨⟨h1, h2.1, h2.2, fun g => absurd g o1, fun g => p.2, fun g => by omega, fun g => by omega, fun g => ⟨p.1, p.2.1⟩⟩, fun g => by omega⟩⟩
     rw [e]
     by_cases a : 0 ≤ i.A
     ·rw [if_pos a]
      by_cases b : 0 ≤ i.B
      ·rw [if_pos b, bsm]; simp [a, b]
      ·rw [if_neg b, bsm]; simp [b]
     ·rw [if_neg a, bsm]; simp [a]
    ·rw [if_neg o8]
     by_cases o9 : i.Op = 9 ∨ i.Op = 10
     ·have e0 : (if i.Op = 9 then some (decide (i.Op = 9)) else some (decide (i.Op = 10))) = some true := by
       rcases o9 with o | o
       ·rw [if_pos o, decide_eq_true o]
       ·rw [if_neg (by omega), decide_eq_true o]
      have hb0 : i.B = 0 := h2.2.resolve_left (by unfold many; rcases o9 with o | o <;> rw [o] <;> decide)
      rw [e0, bsm, cond_true]
      have e : decide (okI c.Defs.length c.Code.length n i ∧ dR c.Code n i) = decide (((n : Int) < i.A ∧ i.A < (c.Code.length : Int)) ∧ ∀ q : Nat, n ≤ q → (q : Int) < i.A → ∀ j, c.Code[q]? = some j → j.Op ≠ 16) :=
       decide_eq_decide.2 ⟨fun g => ⟨g.1.jump o9, g.2 o9⟩, fun p => ⟨⟨h1, h2.1, h2.2, fun g => absurd g o1, fun g => absurd g o8, fun _ => p.1, fun g => by omega, fun g => ⟨by have := p.1.1; omega, by omega⟩⟩, fun _ => p.2⟩⟩
      rw [e]
      by_cases a : i.A ≤ (n : Int)
      ·rw [if_pos a]; simp; omega
      ·rw [if_neg a]
       by_cases b : (c.Code.length : Int) ≤ i.A
       ·rw [if_pos b]; simp; omega
       ·rw [if_neg b, ro1 (n := n) (by omega) fuel n (Nat.le_refl _) (by omega) (by omega) hc (fun q h3 h4 => by omega)]
        by_cases g : ∀ q : Nat, n ≤ q → (q : Int) < i.A → ∀ j, c.Code[q]? = some j → j.Op ≠ 16
        ·have hz : ((n : Int) < i.A ∧ i.A < (c.Code.length : Int)) ∧ ∀ q : Nat, n ≤ q → (q : Int) < i.A → ∀ j, c.Code[q]? = some j → j.Op ≠ 16 := ⟨⟨by omega, by omega⟩, g⟩
         rw [if_pos g, decide_eq_true hz]; rfl
        ·have hz : ¬ (((n : Int) < i.A ∧ i.A < (c.Code.length : Int)) ∧ ∀ q : Nat, n ≤ q → (q : Int) < i.A → ∀ j, c.Code[q]? = some j → j.Op ≠ 16) := fun q => g q.2
         rw [if_neg g, decide_eq_false hz]; rfl
     ·have e0 : (if i.Op = 9 then some (decide (i.Op = 9)) else some (decide (i.Op = 10))) = some false := by rw [if_neg (fun g => o9 (.inl g)), decide_eq_false (fun g => o9 (.inr g))]
      rw [e0, bsm, cond_false]
      by_cases o11 : i.Op = 11
      ·rw [if_pos o11]
       have hb0 : i.B = 0 := h2.2.resolve_left (by unfold many; rw [o11]; decide)
       have e : decide (okI c.Defs.length c.Code.length n i ∧ dR c.Code n i) = decide (0 ≤ i.A ∧ i.A < (c.Defs.length : Int)) := decide_eq_decide.2 ⟨fun g => ⟨(g.1.pos o1).1, g.1.df o11⟩, fun p => ⟨⟨h1, h2.1, h2.2, fun g => absurd g o1, fun g => absurd g o8, fun g => absurd g o9, fun _ => p.2, fun g => ⟨p.1, by omega⟩⟩, fun g => absurd g o9⟩⟩
       rw [e]
       by_cases a : 0 ≤ i.A
       ·rw [if_pos a, bsm]; simp [a]
       ·rw [if_neg a, bsm]; simp [a]
      ·rw [if_neg o11, bsm]
       dsimp only
       have e : decide (okI c.Defs.length c.Code.length n i ∧ dR c.Code n i) = decide (0 ≤ i.A ∧ 0 ≤ i.B) := decide_eq_decide.2 ⟨fun g => g.1.pos o1, fun p => ⟨⟨h1, h2.1, h2.2, fun g => absurd g o1, fun g => absurd g o8, fun g => absurd g o9, fun g => absurd g o11, fun _ => p⟩, fun g => absurd g o9⟩⟩
       rw [e]
       by_cases a : 0 ≤ i.A
       ·rw [if_pos a, bsm]; simp [a]
       ·rw [if_neg a, bsm]; simp [a]
  ·rw [hneg h2 fun g => ⟨g.a, g.b⟩]
   refine b1 (z := .inr false) ?_ rfl
   rw [if_neg (by omega)]
   by_cases m0 : many i.Op < 1
   ·rw [if_pos m0]
    by_cases a : i.A = 0
    ·rw [if_neg (fun g => g a), if_pos (by omega), if_pos (fun b => h2 ⟨.inr a, .inr b⟩)]; rfl
    ·rw [if_pos a]; rfl
   ·rw [if_neg m0]
    by_cases m1 : many i.Op < 2
    ·rw [if_pos m1, if_pos (fun b => h2 ⟨.inl (by omega), .inr b⟩)]; rfl
    ·exact absurd ⟨.inl (by omega), .inl (by omega)⟩ h2
 ·rw [if_neg h1, hneg h1 fun g => g.op]
  exact b1 (z := .inr false) (by rw [if_pos (by omega)]; rfl) rfl
open Classical in
theorem once1 {c : CodeProg} {u0 : List Bool} (hu0 : u0 = List.replicate c.Defs.length false) (suf : List CodeIns) : ∀ (pre : List CodeIns) (k : Nat) (ds : List Int), c.Code = pre ++ suf → suf.length < k → pre.length + suf.length ≤ 3000000 → ds.length ≤ pre.length → (∀ i ∈ suf, i.Op = 11 → 0 ≤ i.A ∧ i.A < (c.Defs.length : Int)) → (∀ j ∈ ds, 0 ≤ j ∧ j < (c.Defs.length : Int)) →
 iB c k (eP u0 ds) ds.length pre.length = some (if dO ds suf then .inl (eP u0 (dW ds suf), ((dW ds suf).length : Int)) else .inr false) ∧ (dO ds suf → ∀ j ∈ dW ds suf, 0 ≤ j ∧ j < (c.Defs.length : Int)) := by
 induction suf with
 | nil =>
  intro pre k ds hc hk _ _ _ hd
  obtain _ | k := k
  ·omega
  exact ⟨by rw [iB, hc, if_neg (by simp), if_pos (show dO ds [] from trivial)]; rfl, fun _ => hd⟩
 | cons e suf ih =>
  intro pre k ds hc hk hB hl hr hd
  obtain _ | k := k
  ·omega
  simp only [List.length_cons] at hk hB
  have hsn : pre ++ e :: suf = (pre ++ [e]) ++ suf := fE pre suf e
  have hul : u0.length = c.Defs.length := by rw [hu0]; simp
  obtain ⟨s1, s2⟩ := qN ds u0 (by rw [hul]; exact hd)
  by_cases h6 : e.Op = 11
  ·have hA := hr e (.head _) h6
   by_cases h7 : e.A ∈ ds
   ·refine ⟨?_, fun g => absurd h7 (g.1 h6)⟩
    have hg : (eP u0 ds)[e.A.toNat]? = some true := (s2 _).2 (.inr (by rw [Int.toNat_of_nonneg hA.1]; exact h7))
    have hx : idx (eP u0 ds) e.A = some true := by unfold idx; rw [if_pos hA.1, hg]
    rw [iB, hc, if_pos (bT _ _ _)]
    simp only [bR, bsm]
    rw [if_pos h6, hx, bsm, cond_true, if_neg (fun g => g.1 h6 h7)]; rfl
   ·obtain ⟨i1, i2⟩ := ih (pre ++ [e]) k (ds ++ [e.A]) (by rw [hc, hsn]) (by omega) (by simp; omega) (by simp; omega) (fun i hi => hr i (.tail _ hi)) (fun j hj => by
     rcases List.mem_append.1 hj with g | g
     ·exact hd j g
     ·rw [List.mem_singleton.1 g]; exact hA)
    have hx : idx (eP u0 ds) e.A = some false := by
     have hlt : e.A.toNat < (eP u0 ds).length := by rw [s1, hul]; omega
     unfold idx
     rw [if_pos hA.1, List.getElem?_eq_getElem hlt]
     congr 1
     cases hb : (eP u0 ds)[e.A.toNat] with
     | false => rfl
     | true =>
      rcases (s2 e.A.toNat).1 (by rw [List.getElem?_eq_getElem hlt, hb]) with g | g
      ·rw [hu0, List.getElem?_replicate] at g; split at g <;> cases g
      ·rw [Int.toNat_of_nonneg hA.1] at g; exact absurd g h7
    have hset : eP u0 (ds ++ [e.A]) = (eP u0 ds).set e.A.toNat true := by simp [eP]
    constructor
    ·rw [iB, hc, if_pos (bT _ _ _)]
     simp only [bR, bsm]
     rw [if_pos h6, hx, bsm, cond_false, bsm, aS (by omega), bsm, bsm]
     dsimp only
     rw [aS (by omega), bsm, ← hset, cA pre e]
     have e9 : ((ds.length : Int) + 1) = ((ds ++ [e.A]).length : Int) := by simp
     rw [e9, i1]
     by_cases g : dO (ds ++ [e.A]) suf
     ·rw [if_pos g, if_pos (show dO ds (e :: suf) from ⟨fun _ => h7, by rw [if_pos h6]; exact g⟩)]
      simp only [dW, if_pos h6]
     ·rw [if_neg g, if_neg (fun q : dO ds (e :: suf) => g (by have := q.2; rwa [if_pos h6] at this))]
    ·intro g
     have := g.2
     rw [if_pos h6] at this
     simp only [dW, if_pos h6]
     exact i2 this
  ·obtain ⟨i1, i2⟩ := ih (pre ++ [e]) k ds (by rw [hc, hsn]) (by omega) (by simp; omega) (by simp; omega) (fun i hi => hr i (.tail _ hi)) hd
   constructor
   ·rw [iB, hc, if_pos (bT _ _ _)]
    simp only [bR, bsm]
    rw [if_neg h6, bsm]
    dsimp only
    rw [aS (by omega), bsm, cA pre e, i1]
    by_cases g : dO ds suf
    ·rw [if_pos g, if_pos (show dO ds (e :: suf) from ⟨fun q => absurd q h6, by rw [if_neg h6]; exact g⟩)]
     simp only [dW, if_neg h6]
    ·rw [if_neg g, if_neg (fun q : dO ds (e :: suf) => g (by have := q.2; rwa [if_neg h6] at this))]
   ·intro g
    have := g.2
    rw [if_neg h6] at this
    simp only [dW, if_neg h6]
    exact i2 this
open Classical in
theorem once_eq {fuel : Nat} {c : CodeProg} (hf : 4000000 ≤ fuel) (hc : c.Code.length ≤ 2000000) (hd : c.Defs.length ≤ 2000000) (hr : ∀ i ∈ c.Code, i.Op = 11 → 0 ≤ i.A ∧ i.A < (c.Defs.length : Int)) :
 rQ fuel c = some (decide (dO [] c.Code ∧ (dW [] c.Code).length = c.Defs.length)) := by
 obtain ⟨e1, e2⟩ := once1 (c := c) (u0 := List.replicate c.Defs.length false) rfl c.Code [] fuel [] rfl (by omega) (by simp; omega) (by simp) hr (fun _ h => by cases h)
 simp only [List.length_nil, Int.natCast_zero] at e1
 have e3 : ∀ u, eP u [] = u := fun _ => rfl
 rw [e3] at e1
 rw [rQ, mk_ok (by omega), bsm, e1]
 by_cases h : dO [] c.Code
 ·have hl := (qN (dW [] c.Code) (List.replicate c.Defs.length false) (by simpa using e2 h)).1
  rw [if_pos h, bsm]
  dsimp only
  rw [hl, List.length_replicate]
  congr 1
  by_cases h2 : (dW [] c.Code).length = c.Defs.length
  ·rw [decide_eq_true (by omega), decide_eq_true ⟨h, h2⟩]
  ·rw [decide_eq_false (by omega), decide_eq_false (fun g => h2 g.2)]
 ·rw [if_neg h, bsm, decide_eq_false (fun g => h g.1)]
open Go.SX Go.SW Go.Dt
def bgD (d : ScopeDef) : List Int := d.Rules.map (·.Node) ++ d.Spots.map (·.Node)
def isOn (i : CodeIns) : Bool := decide (i.Op = 13 ∨ i.Op = 15)
def onB : List CodeIns → List Int
 | [] => []
 | i :: l => (if isOn i = true then [i.B] else []) ++ onB l
def bgs (c : CodeProg) : List Int := c.Main :: (c.Defs.flatMap bgD ++ onB c.Code)
theorem aCq : ∀ l : List CodeIns, (onB l).length ≤ l.length
 | [] => Nat.le_refl _
 | i :: l => by have := aCq l; simp only [onB, List.length_append, List.length_cons]; split <;> simp <;> omega
structure SmB (c : CodeProg) : Prop where
 code : c.Code.length ≤ 2000000
 defs : c.Defs.length ≤ 12
 parts : ∀ d ∈ c.Defs, d.Rules.length ≤ 30 ∧ d.Spots.length ≤ 30
theorem xC {l : List ScopeDef} (h : ∀ d ∈ l, d.Rules.length ≤ 30 ∧ d.Spots.length ≤ 30) : (l.flatMap bgD).length ≤ l.length * 60 := by
 induction l with
 | nil => simp
 | cons d l ih =>
  have := ih fun x hx => h x (.tail _ hx)
  have := h d (.head _)
  simp only [List.flatMap_cons, List.length_append, List.length_cons, bgD, List.length_map]; omega
theorem SmB.len {c : CodeProg} (h : SmB c) : (bgs c).length ≤ 2001000 := by
 have h1 := xC h.parts
 have h2 := aCq c.Code
 have h3 := h.code
 have h4 := h.defs
 simp only [bgs, List.length_cons, List.length_append]; omega
theorem on_eq (a : Int) : qP a = some (decide (a = 13 ∨ a = 15)) := by
 rw [qP]
 by_cases h : a = 13
 ·rw [if_pos h, bsm]; simp [h]
 ·rw [if_neg h, bsm]; simp [h]
theorem zC (a : Int) : mI a = some (decide (a = 13 ∨ a = 15)) := on_eq a
theorem pb2 {y : ScopeDef} (suf : List ScopeRule) : ∀ (pre : List ScopeRule) (k : Nat) (acc : List Int), y.Rules = pre ++ suf → suf.length < k → pre.length + suf.length ≤ 3000000 → acc.length + suf.length ≤ 4000000 → kE y k acc pre.length = some (acc ++ suf.map (·.Node)) := by
 induction suf with
 | nil =>
  intro pre k acc h hk _ _
  obtain _ | k := k
  ·omega
  rw [kE, h, if_neg (by simp)]; simp
 | cons e suf ih =>
  intro pre k acc h hk hB hA
  obtain _ | k := k
  ·omega
  simp only [List.length_cons] at hk hB hA
  rw [kE, h, if_pos (bT _ _ _), bR, bsm, iL (by simp; omega), bsm, aS (by omega), bsm, cA pre e, ih (pre ++ [e]) k _ (by rw [h]; simp) (by omega) (by simp; omega) (by simp; omega)]
  simp
theorem pb3 {y : ScopeDef} (suf : List ScopeSpot) : ∀ (pre : List ScopeSpot) (k : Nat) (acc : List Int), y.Spots = pre ++ suf → suf.length < k → pre.length + suf.length ≤ 3000000 → acc.length + suf.length ≤ 4000000 → lE y k acc pre.length = some (acc ++ suf.map (·.Node)) := by
 induction suf with
 | nil =>
  intro pre k acc h hk _ _
  obtain _ | k := k
  ·omega
  rw [lE, h, if_neg (by simp)]; simp
 | cons e suf ih =>
  intro pre k acc h hk hB hA
  obtain _ | k := k
  ·omega
  simp only [List.length_cons] at hk hB hA
  rw [lE, h, if_pos (bT _ _ _), bR, bsm, iL (by simp; omega), bsm, aS (by omega), bsm, cA pre e, ih (pre ++ [e]) k _ (by rw [h]; simp) (by omega) (by simp; omega) (by simp; omega)]
  simp
theorem pb1 {fuel : Nat} {c : CodeProg} (hf : 4000000 ≤ fuel) (suf : List ScopeDef) : ∀ (pre : List ScopeDef) (k : Nat) (acc : List Int), c.Defs = pre ++ suf → suf.length < k → pre.length + suf.length ≤ 12 → acc.length + suf.length * 60 ≤ 3000000 → (∀ d ∈ suf, d.Rules.length ≤ 30 ∧ d.Spots.length ≤ 30) → kL fuel c k acc pre.length = some (acc ++ suf.flatMap bgD) := by
 induction suf with
 | nil =>
  intro pre k acc h hk _ _ _
  obtain _ | k := k
  ·omega
  rw [kL, h, if_neg (by simp)]; simp
 | cons e suf ih =>
  intro pre k acc h hk hB hA hp
  obtain _ | k := k
  ·omega
  simp only [List.length_cons] at hk hB hA
  have he := hp e (.head _)
  have e1 := pb2 (y := e) e.Rules [] fuel acc rfl (by omega) (by simp; omega) (by omega)
  have e2 := pb3 (y := e) e.Spots [] fuel (acc ++ e.Rules.map (·.Node)) rfl (by omega) (by simp; omega) (by simp; omega)
  simp only [List.length_nil, Int.natCast_zero] at e1 e2
  rw [kL, h, if_pos (bT _ _ _), bR, bsm, e1, bsm, e2, bsm, aS (by omega), bsm, cA pre e, ih (pre ++ [e]) k _ (by rw [h]; simp) (by omega) (by simp; omega) (by simp; omega) (fun d hd => hp d (.tail _ hd))]
  simp [bgD]
theorem pb4 {c : CodeProg} (suf : List CodeIns) : ∀ (pre : List CodeIns) (k : Nat) (acc : List Int), c.Code = pre ++ suf → suf.length < k → pre.length + suf.length ≤ 3000000 → acc.length + suf.length ≤ 4000000 → lA c k acc pre.length = some (acc ++ onB suf) := by
 induction suf with
 | nil =>
  intro pre k acc h hk _ _
  obtain _ | k := k
  ·omega
  rw [lA, h, if_neg (by simp)]; simp [onB]
 | cons e suf ih =>
  intro pre k acc h hk hB hA
  obtain _ | k := k
  ·omega
  simp only [List.length_cons] at hk hB hA
  rw [lA, h, if_pos (bT _ _ _), bR, bsm, on_eq, bsm]
  by_cases ho : e.Op = 13 ∨ e.Op = 15
  ·have hi : isOn e = true := decide_eq_true ho
   rw [decide_eq_true ho, cond_true, iL (by simp; omega), bsm, bsm, aS (by omega), bsm, cA pre e, ih (pre ++ [e]) k _ (by rw [h]; simp) (by omega) (by simp; omega) (by simp; omega)]
   simp only [onB, if_pos hi, List.append_assoc]
  ·have hi : ¬ isOn e = true := by unfold isOn; rw [decide_eq_false ho]; simp
   rw [decide_eq_false ho, cond_false, bsm, aS (by omega), bsm, cA pre e, ih (pre ++ [e]) k _ (by rw [h]; simp) (by omega) (by simp; omega) (by omega)]
   simp only [onB, if_neg hi, List.nil_append]
theorem aEk {fuel : Nat} {c : CodeProg} (hf : 4000000 ≤ fuel) (h : SmB c) : rW fuel c = some (bgs c) := by
 have h1 := xC h.parts
 have h3 := h.code
 have h4 := h.defs
 have e1 := pb1 (fuel := fuel) (c := c) hf c.Defs [] fuel [c.Main] rfl (by omega) (by simp; omega) (by simp; omega) h.parts
 have e2 := pb4 (c := c) c.Code [] fuel ([c.Main] ++ c.Defs.flatMap bgD) rfl (by omega) (by simp; omega) (by simp only [List.length_append, List.length_cons, List.length_nil]; omega)
 simp only [List.length_nil, Int.natCast_zero] at e1 e2
 rw [rW, e1, bsm, e2, bsm]
 simp [bgs]
theorem rb2 {c : CodeProg} {x : Int} {y : ScopeDef} (hx : idx c.Defs x = some y) (suf : List ScopeRule) : ∀ (pre : List ScopeRule) (k : Nat) (acc : List Int), y.Rules = pre ++ suf → suf.length < k → pre.length + suf.length ≤ 3000000 → acc.length + suf.length ≤ 4000000 → kU c x k acc pre.length = some (acc ++ suf.map (·.Node)) := by
 induction suf with
 | nil =>
  intro pre k acc h hk _ _
  obtain _ | k := k
  ·omega
  rw [kU, hx, bsm, h, if_neg (by simp)]; simp
 | cons e suf ih =>
  intro pre k acc h hk hB hA
  obtain _ | k := k
  ·omega
  simp only [List.length_cons] at hk hB hA
  rw [kU, hx, bsm, h, if_pos (bT _ _ _), bsm, h, bR, bsm, iL (by simp; omega), bsm, aS (by omega), bsm, cA pre e, ih (pre ++ [e]) k _ (by rw [h]; simp) (by omega) (by simp; omega) (by simp; omega)]
  simp
theorem rb3 {c : CodeProg} {x : Int} {y : ScopeDef} (hx : idx c.Defs x = some y) (suf : List ScopeSpot) : ∀ (pre : List ScopeSpot) (k : Nat) (acc : List Int), y.Spots = pre ++ suf → suf.length < k → pre.length + suf.length ≤ 3000000 → acc.length + suf.length ≤ 4000000 → lD c x k acc pre.length = some (acc ++ suf.map (·.Node)) := by
 induction suf with
 | nil =>
  intro pre k acc h hk _ _
  obtain _ | k := k
  ·omega
  rw [lD, hx, bsm, h, if_neg (by simp)]; simp
 | cons e suf ih =>
  intro pre k acc h hk hB hA
  obtain _ | k := k
  ·omega
  simp only [List.length_cons] at hk hB hA
  rw [lD, hx, bsm, h, if_pos (bT _ _ _), bsm, h, bR, bsm, iL (by simp; omega), bsm, aS (by omega), bsm, cA pre e, ih (pre ++ [e]) k _ (by rw [h]; simp) (by omega) (by simp; omega) (by simp; omega)]
  simp
theorem rb1 {fuel : Nat} {c : CodeProg} (hf : 4000000 ≤ fuel) (suf : List ScopeDef) : ∀ (pre : List ScopeDef) (k : Nat) (acc : List Int), c.Defs = pre ++ suf → suf.length < k → pre.length + suf.length ≤ 12 → acc.length + suf.length * 60 ≤ 3000000 → (∀ d ∈ suf, d.Rules.length ≤ 30 ∧ d.Spots.length ≤ 30) → lJ fuel c k acc pre.length = some (acc ++ suf.flatMap bgD) := by
 induction suf with
 | nil =>
  intro pre k acc h hk _ _ _
  obtain _ | k := k
  ·omega
  rw [lJ, h, if_neg (by simp)]; simp
 | cons e suf ih =>
  intro pre k acc h hk hB hA hp
  obtain _ | k := k
  ·omega
  simp only [List.length_cons] at hk hB hA
  have he := hp e (.head _)
  have hx : idx c.Defs (pre.length : Int) = some e := by rw [h, bR]
  have e1 := rb2 (y := e) hx e.Rules [] fuel acc rfl (by omega) (by simp; omega) (by omega)
  have e2 := rb3 (y := e) hx e.Spots [] fuel (acc ++ e.Rules.map (·.Node)) rfl (by omega) (by simp; omega) (by simp; omega)
  simp only [List.length_nil, Int.natCast_zero] at e1 e2
  rw [lJ, if_pos (by rw [h]; exact bT _ _ _), e1, bsm, e2, bsm, aS (by omega), bsm, cA pre e, ih (pre ++ [e]) k _ (by rw [h]; simp) (by omega) (by simp; omega) (by simp; omega) (fun d hd => hp d (.tail _ hd))]
  simp [bgD]
theorem rb4 {c : CodeProg} (suf : List CodeIns) : ∀ (pre : List CodeIns) (k : Nat) (acc : List Int), c.Code = pre ++ suf → suf.length < k → pre.length + suf.length ≤ 3000000 → acc.length + suf.length ≤ 4000000 → kR c k acc pre.length = some (acc ++ onB suf) := by
 induction suf with
 | nil =>
  intro pre k acc h hk _ _
  obtain _ | k := k
  ·omega
  rw [kR, h, if_neg (by simp)]; simp [onB]
 | cons e suf ih =>
  intro pre k acc h hk hB hA
  obtain _ | k := k
  ·omega
  simp only [List.length_cons] at hk hB hA
  rw [kR, h, if_pos (bT _ _ _), bR, bsm, zC, bsm]
  by_cases ho : e.Op = 13 ∨ e.Op = 15
  ·have hi : isOn e = true := decide_eq_true ho
   rw [decide_eq_true ho, cond_true, bsm, iL (by simp; omega), bsm, bsm, aS (by omega), bsm, cA pre e, ih (pre ++ [e]) k _ (by rw [h]; simp) (by omega) (by simp; omega) (by simp; omega)]
   simp only [onB, if_pos hi, List.append_assoc]
  ·have hi : ¬ isOn e = true := by unfold isOn; rw [decide_eq_false ho]; simp
   rw [decide_eq_false ho, cond_false, bsm, aS (by omega), bsm, cA pre e, ih (pre ++ [e]) k _ (by rw [h]; simp) (by omega) (by simp; omega) (by omega)]
   simp only [onB, if_neg hi, List.nil_append]
theorem aD7 {fuel : Nat} {c : CodeProg} (hf : 4000000 ≤ fuel) (h : SmB c) : rM fuel c = some (bgs c) := by
 have h1 := xC h.parts
 have h3 := h.code
 have h4 := h.defs
 have e1 := rb1 (fuel := fuel) (c := c) hf c.Defs [] fuel [c.Main] rfl (by omega) (by simp; omega) (by simp; omega) h.parts
 have e2 := rb4 (c := c) c.Code [] fuel ([c.Main] ++ c.Defs.flatMap bgD) rfl (by omega) (by simp; omega) (by simp only [List.length_append, List.length_cons, List.length_nil]; omega)
 simp only [List.length_nil, Int.natCast_zero] at e1 e2
 rw [rM, e1, bsm, e2, bsm]
 simp [bgs]
def stA : Nat → Bool → List CodeIns → List Int
 | _, _, [] => []
 | p, fr, i :: l => (if fr = true then [(p : Int)] else []) ++ stA (p + 1) (decide (i.Op = 16)) l
def gL : List CodeIns → Bool
 | [] => true
 | [i] => decide (i.Op = 16)
 | _ :: l => gL l
theorem stA_ge : ∀ (l : List CodeIns) (p : Nat) (fr : Bool), ∀ x ∈ stA p fr l, (p : Int) ≤ x ∧ x < ((p + l.length : Nat) : Int)
 | [], _, _, x, h => by cases h
 | i :: l, p, fr, x, h => by
  simp only [stA, List.mem_append] at h
  simp only [List.length_cons]
  rcases h with h | h
  ·split at h
   ·rw [List.mem_singleton.1 h]; omega
   ·cases h
  ·have := stA_ge l _ _ x h; omega
theorem yE : ∀ (l : List CodeIns) (p : Nat) (fr : Bool), (stA p fr l).Pairwise (fun a b => a < b)
 | [], _, _ => .nil
 | i :: l, p, fr => by
  simp only [stA]
  refine List.pairwise_append.2 ⟨by split <;> simp, yE l _ _, fun a ha b hb => ?_⟩
  have := (stA_ge l _ _ b hb).1
  split at ha
  ·rw [List.mem_singleton.1 ha]; omega
  ·cases ha
theorem aBy : ∀ (l : List CodeIns) (p : Nat) (fr : Bool) (x : Int), x ∈ stA p fr l ↔ ∃ i : Nat, i < l.length ∧ x = ((p + i : Nat) : Int) ∧ ((i = 0 ∧ fr = true) ∨ ∃ j q, i = j + 1 ∧ l[j]? = some q ∧ q.Op = 16)
 | [], _, _, x => by simp [stA]
 | e :: l, p, fr, x => by
  simp only [stA, List.mem_append, aBy l]
  constructor
  ·rintro (h | ⟨i, h1, h2, h3⟩)
   ·split at h
    ·exact ⟨0, by simp, by rw [List.mem_singleton.1 h]; simp, .inl ⟨rfl, by assumption⟩⟩
    ·cases h
   ·refine ⟨i + 1, by simp; omega, by rw [h2]; congr 1; omega, .inr ?_⟩
    rcases h3 with ⟨rfl, h⟩ | ⟨j, q, rfl, h4, h5⟩
    ·exact ⟨0, e, rfl, rfl, of_decide_eq_true h⟩
    ·exact ⟨j + 1, q, rfl, by simpa using h4, h5⟩
  ·rintro ⟨i, h1, h2, h3⟩
   rcases h3 with ⟨rfl, rfl⟩ | ⟨j, q, rfl, h4, h5⟩
   ·left; simp [h2]
   ·right
    refine ⟨j, by simpa using h1, by rw [h2]; congr 1; omega, ?_⟩
    cases j with
    | zero => simp at h4; subst h4; exact .inl ⟨rfl, decide_eq_true h5⟩
    | succ j => exact .inr ⟨j, q, rfl, by simpa using h4, h5⟩
def iK (l : List CodeIns) : Nat := (l.filter fun i => decide (i.Op = 16)).length
theorem xK : ∀ (l : List CodeIns) (p : Nat) (fr : Bool), l ≠ [] → gL l = true → (stA p fr l).length + (if fr = true then 0 else 1) = iK l
 | [], _, _, h, _ => absurd rfl h
 | [i], p, fr, _, h => by
  have h : decide (i.Op = 16) = true := h
  simp only [stA, iK, List.filter, h]; split <;> simp
 | i :: j :: l, p, fr, _, h => by
  have ih := xK (j :: l) (p + 1) (decide (i.Op = 16)) (by simp) h
  have he : iK (i :: j :: l) = (if i.Op = 16 then 1 else 0) + iK (j :: l) := by
   unfold iK; rw [List.filter_cons]; by_cases g : i.Op = 16
   ·rw [if_pos (by simpa using g), if_pos g]; simp; omega
   ·rw [if_neg (by simpa using g), if_neg g]; simp
  have hs : (stA p fr (i :: j :: l)).length = (if fr = true then 1 else 0) + (stA (p + 1) (decide (i.Op = 16)) (j :: l)).length := by
   rw [stA, List.length_append]; split <;> rfl
  rw [he, hs, ← ih]
  by_cases g : i.Op = 16
  ·simp only [g, decide_true, if_true]; split <;> omega
  ·simp only [g, decide_false, if_false]; split <;> simp <;> omega
theorem aCV : ∀ {l m : List Int}, l.Perm m → l.Pairwise (fun a b => a ≤ b) → m.Pairwise (fun a b => a ≤ b) → l = m
 | [], m, h, _, _ => by rw [List.nil_perm.1 h]
 | a :: l, [], h, _, _ => by have := h.length_eq; simp at this
 | a :: l, b :: m, h, h1, h2 => by
  have hab : a = b := by
   have g1 : a ∈ b :: m := h.mem_iff.1 (.head _)
   have g2 : b ∈ a :: l := h.mem_iff.2 (.head _)
   have k1 := List.pairwise_cons.1 h1
   have k2 := List.pairwise_cons.1 h2
   cases g1 with
   | head => rfl
   | tail _ g1 =>
    cases g2 with
    | head => rfl
    | tail _ g2 => have := k1.1 b g2; have := k2.1 a g1; omega
  subst hab
  rw [aCV (List.Perm.cons_inv h) (List.pairwise_cons.1 h1).2 (List.pairwise_cons.1 h2).2]
theorem tC : ∀ {l m : List Int}, l.Nodup → (∀ x ∈ l, x ∈ m) → m.length ≤ l.length → l.Perm m
 | [], m, _, _, h => by have : m = [] := List.eq_nil_of_length_eq_zero (by simpa using h); rw [this]
 | a :: l, m, hn, hs, hl => by
  have ha : a ∈ m := hs a (.head _)
  have hp := List.perm_cons_erase ha
  have hn2 := List.nodup_cons.1 hn
  have hlen := hp.length_eq
  simp only [List.length_cons] at hlen hl
  have := tC (l := l) (m := m.erase a) hn2.2 (fun x hx => (List.mem_erase_of_ne (by intro e; subst e; exact hn2.1 hx)).2 (hs x (.tail _ hx))) (by omega)
  exact (this.cons a).trans hp.symm
theorem vL (l : List Int) : (bV l).Perm l := List.mergeSort_perm _ _
theorem aBX (l : List Int) : (bV l).Pairwise (fun a b => a ≤ b) := by
 have := List.pairwise_mergeSort (le := fun x y : Int => decide (x ≤ y)) (by intro a b c h1 h2; simp only [decide_eq_true_eq] at *; omega) (by intro a b; simp; omega) l
 exact this.imp fun h => by simpa using h
def okB (c : CodeProg) : Prop := c.Code ≠ [] ∧ bV (bgs c) = stA 0 true c.Code ∧ gL c.Code = true
theorem zE {c : CodeProg} (hne : c.Code ≠ []) : okB c ↔ (bgs c).Nodup ∧ (∀ b ∈ bgs c, 0 ≤ b ∧ b < (c.Code.length : Int) ∧ (0 < b → ∃ q, c.Code[(b - 1).toNat]? = some q ∧ q.Op = 16)) ∧ iK c.Code = (bgs c).length ∧ gL c.Code = true := by
 have hmem : ∀ b : Int, b ∈ stA 0 true c.Code ↔ 0 ≤ b ∧ b < (c.Code.length : Int) ∧ (0 < b → ∃ q, c.Code[(b - 1).toNat]? = some q ∧ q.Op = 16) := fun b => by
  rw [aBy]
  constructor
  ·rintro ⟨i, h1, h2, h3⟩
   refine ⟨by omega, by omega, fun hb => ?_⟩
   rcases h3 with ⟨rfl, _⟩ | ⟨j, q, rfl, h4, h5⟩
   ·omega
   ·refine ⟨q, ?_, h5⟩
    rw [h2, show ((((0 + (j + 1) : Nat) : Int) - 1).toNat) = j by omega]; exact h4
  ·rintro ⟨h1, h2, h3⟩
   refine ⟨b.toNat, by omega, by omega, ?_⟩
   by_cases h0 : b = 0
   ·left; exact ⟨by omega, rfl⟩
   ·obtain ⟨q, g1, g2⟩ := h3 (by omega)
    right; exact ⟨(b - 1).toNat, q, by omega, g1, g2⟩
 have hsn : (stA 0 true c.Code).Nodup := (yE c.Code 0 true).imp fun h => by omega
 constructor
 ·rintro ⟨_, h1, h2⟩
  have hp : (bgs c).Perm (stA 0 true c.Code) := by rw [← h1]; exact (vL _).symm
  have hl := xK c.Code 0 true hne h2
  simp only [if_true, Nat.add_zero] at hl
  exact ⟨hp.nodup_iff.2 hsn, fun b hb => (hmem b).1 (hp.mem_iff.1 hb), by rw [← hl, hp.length_eq], h2⟩
 ·rintro ⟨h1, h2, h3, h4⟩
  have hl := xK c.Code 0 true hne h4
  simp only [if_true, Nat.add_zero] at hl
  have hp : (bgs c).Perm (stA 0 true c.Code) := tC h1 (fun b hb => (hmem b).2 (h2 b hb)) (by omega)
  exact ⟨hne, aCV ((vL _).trans hp) (aBX _) ((yE _ _ _).imp fun h => by omega), h4⟩
open Go.SX Go.SW Go.Dt
theorem aAM {d : Array Int} (hd : ∀ i j, i ≤ j → j < d.size → d[i]! ≤ d[j]!) : ∀ m, m ≤ d.size → (Go.Lib.compactUpTo d m).Pairwise (fun a b => a < b) ∧ (∀ a ∈ Go.Lib.compactUpTo d m, ∃ j, j < m ∧ d[j]! = a) ∧ (∀ j, j < m → d[j]! ∈ Go.Lib.compactUpTo d m)
 | 0, _ => ⟨by simp [Go.Lib.compactUpTo], fun a h => by simp [Go.Lib.compactUpTo] at h, fun j h => by omega⟩
 | m + 1, hm => by
  obtain ⟨h1, h2, h3⟩ := aAM hd m (by omega)
  rw [Go.Lib.compactUpTo_succ]
  by_cases hk : m = 0 ∨ d[m]! ≠ d[m - 1]!
  ·rw [if_pos (by simpa [Go.Lib.keeps] using hk)]
   refine ⟨List.pairwise_append.2 ⟨h1, List.pairwise_singleton _ _, fun a ha b hb => ?_⟩, fun a ha => ?_, fun j hj => ?_⟩
   ·rw [List.mem_singleton.1 hb]
    obtain ⟨j, hj, rfl⟩ := h2 a ha
    have q1 := hd j (m - 1) (by omega) (by omega)
    have q2 := hd (m - 1) m (by omega) (by omega)
    rcases hk with hk | hk
    ·omega
    ·omega
   ·rcases List.mem_append.1 ha with q | q
    ·obtain ⟨j, hj, e⟩ := h2 a q; exact ⟨j, by omega, e⟩
    ·exact ⟨m, by omega, (List.mem_singleton.1 q).symm⟩
   ·by_cases e : j = m
    ·subst e; exact List.mem_append_right _ (.head _)
    ·exact List.mem_append_left _ (h3 j (by omega))
  ·rw [if_neg (by simpa [Go.Lib.keeps] using hk), List.append_nil]
   have hk' : m ≠ 0 ∧ d[m]! = d[m - 1]! := ⟨fun q => hk (.inl q), Classical.byContradiction fun q => hk (.inr q)⟩
   refine ⟨h1, fun a ha => ?_, fun j hj => ?_⟩
   ·obtain ⟨j, hj, e⟩ := h2 a ha; exact ⟨j, by omega, e⟩
   ·by_cases e : j = m
    ·subst e; rw [hk'.2]; exact h3 _ (by omega)
    ·exact h3 j (by omega)
theorem aEI (l : List Int) : (Go.Lib.compact (bV l)).Nodup ∧ ∀ i, i ∈ Go.Lib.compact (bV l) ↔ i ∈ l := by
 have hs := aBX l
 have hd : ∀ i j, i ≤ j → j < (bV l).toArray.size → (bV l).toArray[i]! ≤ (bV l).toArray[j]! := fun i j hij hj => by
  have hj' : j < (bV l).length := by simpa using hj
  have hi' : i < (bV l).length := by omega
  rcases Nat.lt_or_ge i j with h | h
  ·have := (List.pairwise_iff_getElem.1 hs) i j hi' hj' h
   simpa [hi', hj'] using this
  ·have : i = j := by omega
   subst this; exact Int.le_refl _
 obtain ⟨h1, h2, h3⟩ := aAM hd (bV l).length (by simp)
 refine ⟨h1.imp fun h => by omega, fun i => ?_⟩
 have hm : i ∈ bV l ↔ i ∈ l := (vL l).mem_iff
 rw [← hm]
 constructor
 ·intro h
  obtain ⟨j, hj, rfl⟩ := h2 i h
  simp [hj]
 ·intro h
  obtain ⟨j, hj, rfl⟩ := List.mem_iff_getElem.1 h
  have := h3 j hj
  show (bV l)[j] ∈ Go.Lib.compactUpTo (bV l).toArray (bV l).length
  simpa [hj] using this
theorem aB9 (l : List Int) : (Go.Lib.compact (bV l)).length = l.length ↔ l.Nodup := by
 obtain ⟨h1, h2⟩ := aEI l
 constructor
 ·intro h
  exact (tC h1 (fun x hx => (h2 x).1 hx) (by omega)).nodup_iff.1 h1
 ·intro h
  rcases Nat.le_total (Go.Lib.compact (bV l)).length l.length with g | g
  ·exact (tC h (fun x hx => (h2 x).2 hx) g).length_eq.symm
  ·exact (tC h1 (fun x hx => (h2 x).1 hx) g).length_eq
theorem aAY {e : CodeIns} (he : e.Op = 16) (rest : List CodeIns) : ∀ (pre : List CodeIns) (p : Nat) (fr : Bool), (∀ i ∈ pre, i.Op ≠ 16) → stA p fr (pre ++ e :: rest) = (if fr = true then [(p : Int)] else []) ++ stA (p + pre.length + 1) true rest
 | [], p, fr, _ => by simp [stA, he]
 | i :: pre, p, fr, h => by
  have h1 := h i (.head _)
  have ih := aAY he rest pre (p + 1) false fun j hj => h j (.tail _ hj)
  rw [List.cons_append, stA, decide_eq_false h1, ih]
  simp only [List.length_cons, Bool.false_eq_true, if_false, List.nil_append]
  rw [show p + 1 + pre.length + 1 = p + (pre.length + 1) + 1 by omega]
theorem yR {e : CodeIns} (he : e.Op = 16) (rest : List CodeIns) : ∀ (pre : List CodeIns), gL (pre ++ e :: rest) = gL rest
 | [] => by
  cases rest with
  | nil => simp [gL, he]
  | cons j l => rfl
 | [i] => by
  have := yR he rest []
  rw [← this]; rfl
 | i :: j :: pre => by
  rw [← yR he rest (j :: pre)]; rfl
theorem aBQ : ∀ {l : List CodeIns}, l ≠ [] → (∀ i ∈ l, i.Op ≠ 16) → gL l = false
 | [], h, _ => absurd rfl h
 | [i], _, h => decide_eq_false (h i (.head _))
 | i :: j :: l, _, h => aBQ (l := j :: l) (by simp) fun x hx => h x (.tail _ hx)
theorem zU : ∀ {l : List CodeIns} {i : CodeIns}, l[l.length - 1]? = some i → gL l = decide (i.Op = 16)
 | [], i, h => by simp at h
 | [j], i, h => by simp at h; subst h; rfl
 | j :: k :: l, i, h => by
  have := zU (l := k :: l) (i := i) (by simpa using h)
  exact this
def mE (C : List CodeIns) (la : List Int) (m : Nat) : Prop := ∀ i : Nat, i < m → ∃ q : Nat, la[i]? = some (q : Int) ∧ i ≤ q ∧ q < C.length ∧ (∃ e, C[q]? = some e ∧ e.Op = 16) ∧ ∀ j : Nat, i ≤ j → j < q → ∀ e, C[j]? = some e → e.Op ≠ 16
theorem bk2 {x : Code_checker} (hB : x.CodeProg.Code.length ≤ 2000000) : ∀ (k n : Nat), n ≤ x.CodeProg.Code.length → x.CodeProg.Code.length - n < k → ∃ q : Nat, jI x k (n : Int) = some (q : Int) ∧ n ≤ q ∧ q ≤ x.CodeProg.Code.length ∧ (∀ j : Nat, n ≤ j → j < q → ∀ e, x.CodeProg.Code[j]? = some e → e.Op ≠ 16) ∧ (q < x.CodeProg.Code.length → ∃ e, x.CodeProg.Code[q]? = some e ∧ e.Op = 16)
 | 0, _, _, hk => by omega
 | k + 1, n, hn, hk => by
  by_cases h : n < x.CodeProg.Code.length
  ·have hi := List.getElem?_eq_getElem h
   by_cases ho : x.CodeProg.Code[n].Op ≠ 16
   ·obtain ⟨q, h1, h2, h3, h4, h5⟩ := bk2 hB k (n + 1) (by omega) (by omega)
    refine ⟨q, ?_, by omega, h3, fun j hj hq e he => ?_, h5⟩
    ·rw [jI, if_pos (by omega), fB hi, bsm, if_pos ho, aS (by omega), bsm]; exact h1
    ·by_cases g : j = n
     ·subst g; rw [hi] at he; cases he; exact ho
     ·exact h4 j (by omega) hq e he
   ·refine ⟨n, by rw [jI, if_pos (by omega), fB hi, bsm, if_neg ho], by omega, by omega, fun j _ _ => by omega, fun _ => ⟨_, hi, by omega⟩⟩
  ·exact ⟨n, by rw [jI, if_neg (by omega)], by omega, hn, fun j _ _ => by omega, fun g => absurd g h⟩
theorem bk3 {q : Nat} (hq : q ≤ 2000000) : ∀ (k b : Nat) (la : List Int), b ≤ q + 1 → q + 1 - b < k → q < la.length → ∃ la', kH (q : Int) k (b : Int) la = some la' ∧ la'.length = la.length ∧ (∀ i : Nat, b ≤ i → i ≤ q → la'[i]? = some (q : Int)) ∧ ∀ i : Nat, i < b → la'[i]? = la[i]?
 | 0, _, _, _, hk, _ => by omega
 | k + 1, b, la, hb, hk, hl => by
  by_cases h : b ≤ q
  ·obtain ⟨la', h1, h2, h3, h4⟩ := bk3 hq k (b + 1) (la.set b (q : Int)) (by omega) (by omega) (by simpa using hl)
   refine ⟨la', ?_, by rw [h2, List.length_set], fun i hi hi2 => ?_, fun i hi => ?_⟩
   ·rw [kH, if_pos (by omega), fB (List.getElem?_eq_getElem (by omega : b < la.length)), bsm, aS (by omega), bsm]; exact h1
   ·by_cases g : i = b
    ·subst g; rw [h4 i (by omega), List.getElem?_set_self (by omega)]
    ·exact h3 i (by omega) hi2
   ·rw [h4 i (by omega)]; rw [List.getElem?_set_ne (by omega)]
  ·exact ⟨la, by rw [kH, if_neg (by omega)], rfl, fun i _ _ => by omega, fun _ _ => rfl⟩
theorem drop_run {C : List CodeIns} {p q : Nat} {e : CodeIns} (hpq : p ≤ q) (he : C[q]? = some e) : ∃ pre, C.drop p = pre ++ e :: C.drop (q + 1) ∧ pre.length = q - p ∧ ∀ i ∈ pre, ∃ j, p ≤ j ∧ j < q ∧ C[j]? = some i := by
 obtain ⟨hq, rfl⟩ := List.getElem?_eq_some_iff.1 he
 refine ⟨(C.drop p).take (q - p), ?_, by simp; omega, fun i hi => ?_⟩
 ·have h1 : C.drop q = C[q] :: C.drop (q + 1) := List.drop_eq_getElem_cons hq
  rw [← h1, show C.drop q = (C.drop p).drop (q - p) by rw [List.drop_drop]; congr 1; omega, List.take_append_drop]
 ·obtain ⟨j, hj, rfl⟩ := List.mem_iff_getElem.1 hi
  have hj' : j < q - p := by simp at hj; omega
  refine ⟨p + j, by omega, by omega, ?_⟩
  rw [List.getElem_take, List.getElem_drop]; exact List.getElem?_eq_getElem _
theorem aCr {l : List Int} (h : l.length ≤ 1000000000) : sA l = some l := by
 rw [sA, List.nil_append, iL h, bsm]
open Classical in
theorem bk1 {fuel : Nat} {x : Code_checker} (hf : 4000000 ≤ fuel) (hB : x.CodeProg.Code.length ≤ 2000000) (suf : List Int) : ∀ (pre : List Int) (k p : Nat) (la : List Int), suf.length < k → pre.length + suf.length ≤ 3000000 → p ≤ x.CodeProg.Code.length → la.length = x.CodeProg.Code.length → mE x.CodeProg.Code la p →
 ∃ r, iH fuel x (pre ++ suf) k (p : Int) (pre.length : Int) la = some r ∧ (((suf = stA p true (x.CodeProg.Code.drop p) ∧ gL (x.CodeProg.Code.drop p) = true) ∧ ∃ la', r = .inl ((x.CodeProg.Code.length : Int), la') ∧ la'.length = x.CodeProg.Code.length ∧ mE x.CodeProg.Code la' x.CodeProg.Code.length) ∨ (¬ (suf = stA p true (x.CodeProg.Code.drop p) ∧ gL (x.CodeProg.Code.drop p) = true) ∧ (r = .inr (.inr W) ∨ ∃ (p' : Nat) (la' : List Int), r = .inl ((p' : Int), la') ∧ p' ≠ x.CodeProg.Code.length))) := by
 induction suf with
 | nil =>
  intro pre k p la hk _ hp hl hla
  obtain _ | k := k
  ·omega
  refine ⟨_, by rw [iH, if_neg (by simp)], ?_⟩
  by_cases h : p = x.CodeProg.Code.length
  ·left
   refine ⟨?_, la, by rw [h], hl, by rw [← h]; exact hla⟩
   rw [h, List.drop_length]; exact ⟨rfl, rfl⟩
  ·right
   refine ⟨fun g => ?_, .inr ⟨p, la, rfl, h⟩⟩
   have hlt : p < x.CodeProg.Code.length := by omega
   rw [List.drop_eq_getElem_cons hlt] at g
   have := g.1; simp [stA] at this
 | cons b suf ih =>
  intro pre k p la hk hl0 hp hl hla
  obtain _ | k := k
  ·omega
  simp only [List.length_cons] at hk hl0
  by_cases hbp : b = (p : Int)
  ·subst hbp
   obtain ⟨q, h1, h2, h3, h4, h5⟩ := bk2 (x := x) hB fuel p hp (by omega)
   by_cases hq : q < x.CodeProg.Code.length
   ·obtain ⟨e, he1, he2⟩ := h5 hq
    obtain ⟨la', g1, g2, g3, g4⟩ := bk3 (q := q) (by omega) fuel p la (by omega) (by omega) (by omega)
    obtain ⟨run, r1, r2, r3⟩ := drop_run h2 he1
    have hrun : ∀ i ∈ run, i.Op ≠ 16 := fun i hi => by obtain ⟨j, j1, j2, j3⟩ := r3 i hi; exact h4 j j1 j2 i j3
    have hst : stA p true (x.CodeProg.Code.drop p) = (p : Int) :: stA (q + 1) true (x.CodeProg.Code.drop (q + 1)) := by
     rw [r1, aAY he2 _ run p true hrun, if_pos rfl, show p + run.length + 1 = q + 1 by omega]; rfl
    have hle : gL (x.CodeProg.Code.drop p) = gL (x.CodeProg.Code.drop (q + 1)) := by rw [r1, yR he2]
    have hla' : mE x.CodeProg.Code la' (q + 1) := fun i hi => by
     by_cases hip : i < p
     ·obtain ⟨q', a1, a2⟩ := hla i hip
      exact ⟨q', by rw [g4 i hip]; exact a1, a2⟩
     ·exact ⟨q, g3 i (by omega) (by omega), by omega, hq, ⟨e, he1, he2⟩, fun j j1 j2 => h4 j (by omega) j2⟩
    obtain ⟨r, i1, i2⟩ := ih (pre ++ [(p : Int)]) k (q + 1) la' (by omega) (by simp; omega) (by omega) (by omega) hla'
    refine ⟨r, ?_, ?_⟩
    ·rw [iH, if_pos (bT _ _ _), bR]
     refine bb rfl ?_
     refine bb (z := .inl ()) (by rw [decide_eq_true rfl]; rfl) ?_
     refine bb h1 ?_
     refine bb (z := .inl ()) (by rw [decide_eq_true (by omega)]; rfl) ?_
     refine bb g1 ?_
     refine bb (aS (by omega)) ?_
     refine b1 rfl ?_
     dsimp only
     rw [aS (by omega), bsm, fE pre suf, cA pre (p : Int)]
     exact i1
    ·rw [hst, hle]
     rcases i2 with ⟨j1, j2⟩ | ⟨j1, j2⟩
     ·exact .inl ⟨⟨by rw [← j1.1], j1.2⟩, j2⟩
     ·exact .inr ⟨fun g => j1 ⟨by simpa using g.1, g.2⟩, j2⟩
   ·refine ⟨.inr (.inr W), ?_, .inr ⟨fun g => ?_, .inl rfl⟩⟩
    ·rw [iH, if_pos (bT _ _ _), bR]
     refine bb rfl ?_
     refine bb (z := .inl ()) (by rw [decide_eq_true rfl]; rfl) ?_
     refine bb h1 ?_
     refine bb (z := .inr W) (by rw [decide_eq_false (by omega)]; rfl) ?_
     rfl
    ·have hne : x.CodeProg.Code.drop p ≠ [] := fun g' => by rw [g'] at g; have := g.1; simp [stA] at this
     rw [aBQ hne fun i hi => by
      obtain ⟨j, hj, rfl⟩ := List.mem_iff_getElem.1 hi
      rw [List.getElem_drop]
      have hj' : p + j < x.CodeProg.Code.length := by simp at hj; omega
      exact h4 (p + j) (by omega) (by omega) _ (List.getElem?_eq_getElem hj')] at g
     exact absurd g.2 (by simp)
  ·refine ⟨.inr (.inr W), ?_, .inr ⟨fun g => ?_, .inl rfl⟩⟩
   ·rw [iH, if_pos (bT _ _ _), bR]
    refine bb rfl ?_
    refine bb (z := .inr W) (by rw [decide_eq_false hbp]; rfl) ?_
    rfl
   ·cases hd : x.CodeProg.Code.drop p with
    | nil => rw [hd] at g; have := g.1; simp [stA] at this
    | cons i l => rw [hd] at g; have := g.1; simp [stA] at this; exact hbp this.1
open Classical in
theorem aD3 {fuel : Nat} {x : Code_checker} (hf : 4000000 ≤ fuel) (hs : SmB x.CodeProg) (hne : x.CodeProg.Code ≠ []) :
 ∃ la, jU fuel x = some (if okB x.CodeProg then .inl ⟨x.CodeProg, bV (bgs x.CodeProg), la, x.levels, x.todo⟩ else .inr W) ∧ (okB x.CodeProg → la.length = x.CodeProg.Code.length ∧ mE x.CodeProg.Code la x.CodeProg.Code.length) := by
 have hl := hs.len
 have hsl := (vL (bgs x.CodeProg)).length_eq
 have e1 := aEk hf hs
 have hcode := hs.code
 obtain ⟨r, h1, h2⟩ := bk1 (x := x) hf hcode (bV (bgs x.CodeProg)) [] fuel 0 (List.replicate x.CodeProg.Code.length 0) (by omega) (by simp; omega) (by omega) (by simp) (fun i hi => by omega)
 simp only [List.nil_append, List.length_nil, Int.natCast_zero, List.drop_zero] at h1 h2
 have hdo : ∀ (P : Prop), jU fuel x = some (.inr W) → ¬ okB x.CodeProg → ∃ la, jU fuel x = some (if okB x.CodeProg then .inl ⟨x.CodeProg, bV (bgs x.CodeProg), la, x.levels, x.todo⟩ else .inr W) ∧ (okB x.CodeProg → la.length = x.CodeProg.Code.length ∧ mE x.CodeProg.Code la x.CodeProg.Code.length) := fun _ g1 g2 => ⟨[], by rw [g1, if_neg g2], fun g => absurd g g2⟩
 by_cases hn : (bgs x.CodeProg).Nodup
 ·have hc := (aB9 (bgs x.CodeProg)).2 hn
  have hpre : jU fuel x = (some r).bind (fun o => match o with | Sum.inr r => some r | Sum.inl (x1, x2) => (bH (decide (x1 = (x.CodeProg.Code.length : Int)))).bind fun y12 => match y12 with | Sum.inr pv4 => some (Sum.inr pv4) | Sum.inl y12 => some (Sum.inl (⟨(⟨x.CodeProg.Free, x.CodeProg.Defs, x.CodeProg.Code, x.CodeProg.Main⟩ : CodeProg), bV (bgs x.CodeProg), x2, x.levels, x.todo⟩ : Code_checker))) := by
   rw [jU]
   refine b1 e1 ?_
   refine b1 (z := bV (bgs x.CodeProg)) rfl ?_
   refine b1 (aCr (by omega)) ?_
   refine b1 (z := Go.Lib.compact (bV (bgs x.CodeProg))) rfl ?_
   refine b1 (z := .inl ()) (by rw [decide_eq_true (by omega)]; rfl) ?_
   refine b1 (mk_ok (by omega)) ?_
   rw [h1]
   rcases r with ⟨a, b⟩ | r <;> rfl
  rcases h2 with ⟨k1, la, k2, k3, k4⟩ | ⟨k1, k2⟩
  ·have hok : okB x.CodeProg := ⟨hne, k1⟩
   refine ⟨la, ?_, fun _ => ⟨k3, k4⟩⟩
   rw [hpre, k2, bsm, if_pos hok]
   refine b1 (z := .inl ()) (by rw [decide_eq_true rfl]; rfl) ?_
   rfl
  ·have hok : ¬ okB x.CodeProg := fun g => k1 g.2
   refine hdo True ?_ hok
   rw [hpre]
   rcases k2 with rfl | ⟨p', la', rfl, k3⟩
   ·rfl
   ·rw [bsm]
    refine b1 (z := .inr W) (by rw [decide_eq_false (by omega)]; rfl) ?_
    rfl
 ·have hok : ¬ okB x.CodeProg := fun g => hn ((zE hne).1 g).1
  refine hdo True ?_ hok
  rw [jU]
  refine b1 e1 ?_
  refine b1 (z := bV (bgs x.CodeProg)) rfl ?_
  refine b1 (aCr (by omega)) ?_
  refine b1 (z := Go.Lib.compact (bV (bgs x.CodeProg))) rfl ?_
  refine b1 (z := .inr W) (by rw [decide_eq_false fun g => hn ((aB9 _).1 (by omega))]; rfl) ?_
  rfl
def atB (C : List CodeIns) (b : Int) : Prop := 0 ≤ b ∧ b < (C.length : Int) ∧ (0 < b → ∃ q, C[(b - 1).toNat]? = some q ∧ q.Op = 16)
open Classical in
theorem rk1 {c : CodeProg} (hB : c.Code.length ≤ 2000000) (suf : List Int) : ∀ (pre : List Int) (k : Nat) (u : List Bool), suf.length < k → pre.length + suf.length ≤ 3000000 → u.length = c.Code.length → (∀ i : Nat, u[i]? = some true ↔ (i : Int) ∈ pre ∧ i < c.Code.length) →
 jD c (pre ++ suf) k u (pre.length : Int) = some (if (∀ b ∈ suf, atB c.Code b ∧ b ∉ pre) ∧ suf.Nodup then .inl () else .inr false) := by
 induction suf with
 | nil =>
  intro pre k u hk _ _ _
  obtain _ | k := k
  ·omega
  rw [jD, if_neg (by simp), if_pos ⟨fun b h => (by cases h), .nil⟩]
 | cons b suf ih =>
  intro pre k u hk hl hu hm
  obtain _ | k := k
  ·omega
  simp only [List.length_cons] at hk hl
  rw [jD, if_pos (bT _ _ _), bR]
  refine b1 rfl ?_
  have hbad : ∀ {r : (Unit) ⊕ (Bool)}, r = .inr false → ¬ (atB c.Code b ∧ b ∉ pre) → some r = some (if (∀ b' ∈ b :: suf, atB c.Code b' ∧ b' ∉ pre) ∧ (b :: suf).Nodup then .inl () else .inr false) := fun h1 h2 => by rw [if_neg (fun g => h2 (g.1 b (.head _))), h1]
  by_cases g1 : b < 0
  ·rw [if_pos g1]; exact hbad rfl (fun g => by have := g.1.1; omega)
  ·rw [if_neg g1]
   by_cases g2 : (c.Code.length : Int) ≤ b
   ·rw [if_pos g2]; exact hbad rfl (fun g => by have := g.1.2.1; omega)
   ·rw [if_neg g2]
    have hlt : b.toNat < u.length := by omega
    have hix : idx u b = some u[b.toNat] := dF (by omega) (by omega)
    have hbb : ((b.toNat : Nat) : Int) = b := by omega
    rw [hix]
    refine bb rfl ?_
    cases hub : u[b.toNat] with
    | true =>
     have := (hm b.toNat).1 (by rw [List.getElem?_eq_getElem hlt, hub])
     rw [hbb] at this
     rw [cond_true]; exact hbad rfl (fun g => g.2 this.1)
    | false =>
     have hnp : b ∉ pre := fun g => by
      have := (hm b.toNat).2 ⟨by rw [hbb]; exact g, by omega⟩
      rw [List.getElem?_eq_getElem hlt, hub] at this; cases this
     rw [cond_false]
     have hgo : (atB c.Code b) → jD c (pre ++ b :: suf) k (u.set b.toNat true) (pre.length + 1 : Int) = some (if (∀ b' ∈ b :: suf, atB c.Code b' ∧ b' ∉ pre) ∧ (b :: suf).Nodup then .inl () else .inr false) := fun hat => by
      have := ih (pre ++ [b]) k (u.set b.toNat true) (by omega) (by simp; omega) (by simpa using hu) (fun i => by
       by_cases e : i = b.toNat
       ·subst e; simp [hlt, hbb]; omega
       ·rw [List.getElem?_set_ne (Ne.symm e), hm i]
        have : (i : Int) ≠ b := by omega
        simp [this])
      rw [fE pre suf b, cA pre b, this]
      have e : ((∀ b' ∈ suf, atB c.Code b' ∧ b' ∉ pre ++ [b]) ∧ suf.Nodup) ↔ ((∀ b' ∈ b :: suf, atB c.Code b' ∧ b' ∉ pre) ∧ (b :: suf).Nodup) := by
       constructor
       ·rintro ⟨a1, a2⟩
        refine ⟨fun b' hb' => ?_, List.nodup_cons.2 ⟨fun g => (a1 b g).2 (by simp), a2⟩⟩
        cases hb' with
        | head => exact ⟨hat, hnp⟩
        | tail _ hb' => exact ⟨(a1 b' hb').1, fun g => (a1 b' hb').2 (List.mem_append_left _ g)⟩
       ·rintro ⟨a1, a2⟩
        refine ⟨fun b' hb' => ⟨(a1 b' (.tail _ hb')).1, fun g => ?_⟩, (List.nodup_cons.1 a2).2⟩
        rcases List.mem_append.1 g with g | g
        ·exact (a1 b' (.tail _ hb')).2 g
        ·rw [List.mem_singleton.1 g] at hb'; exact (List.nodup_cons.1 a2).1 hb'
      by_cases h : (∀ b' ∈ suf, atB c.Code b' ∧ b' ∉ pre ++ [b]) ∧ suf.Nodup
      ·rw [if_pos h, if_pos (e.1 h)]
      ·rw [if_neg h, if_neg (fun g => h (e.2 g))]
     by_cases g3 : 0 < b
     ·have hlt2 : (b - 1).toNat < c.Code.length := by omega
      rw [if_pos g3, aS (by omega)]
      refine bb rfl ?_
      rw [dF (by omega) (by omega)]
      refine bb rfl ?_
      by_cases g4 : c.Code[(b - 1).toNat].Op ≠ 16
      ·rw [if_pos g4]
       exact hbad rfl (fun g => by obtain ⟨q, q1, q2⟩ := g.1.2.2 g3; rw [List.getElem?_eq_getElem hlt2] at q1; cases q1; exact g4 q2)
      ·rw [if_neg g4]
       refine b1 rfl ?_
       dsimp only
       refine b1 rfl ?_
       refine b1 (aS (by omega)) ?_
       exact hgo ⟨by omega, by omega, fun _ => ⟨_, List.getElem?_eq_getElem hlt2, by omega⟩⟩
     ·rw [if_neg g3]
      refine b1 rfl ?_
      dsimp only
      refine b1 rfl ?_
      refine b1 (aS (by omega)) ?_
      exact hgo ⟨by omega, by omega, fun g => absurd g g3⟩
theorem aA7 (e : CodeIns) (l : List CodeIns) : iK (e :: l) = (if e.Op = 16 then 1 else 0) + iK l := by
 unfold iK; rw [List.filter_cons]
 by_cases g : e.Op = 16
 ·rw [if_pos (by simpa using g), if_pos g]; simp; omega
 ·rw [if_neg (by simpa using g), if_neg g]; simp
theorem rk2 {c : CodeProg} (suf : List CodeIns) : ∀ (pre : List CodeIns) (k n : Nat), c.Code = pre ++ suf → suf.length < k → pre.length + suf.length ≤ 3000000 → n ≤ pre.length → kW c k (n : Int) (pre.length : Int) = some ((n + iK suf : Nat) : Int) := by
 induction suf with
 | nil =>
  intro pre k n h hk _ _
  obtain _ | k := k
  ·omega
  rw [kW, h, if_neg (by simp)]; rfl
 | cons e suf ih =>
  intro pre k n h hk hB hn
  obtain _ | k := k
  ·omega
  simp only [List.length_cons] at hk hB
  rw [kW, h, if_pos (bT _ _ _), bR]
  refine bb rfl ?_
  by_cases g : e.Op = 16
  ·rw [if_pos g, aS (by omega)]
   refine bb rfl ?_
   refine b1 rfl ?_
   refine b1 (aS (by omega)) ?_
   have := ih (pre ++ [e]) k (n + 1) (by rw [h]; simp) (by omega) (by simp; omega) (by simp; omega)
   rw [cA pre e, show (n : Int) + 1 = ((n + 1 : Nat) : Int) by omega, this, aA7, if_pos g, Nat.add_assoc]
  ·rw [if_neg g]
   refine b1 rfl ?_
   refine b1 (aS (by omega)) ?_
   have := ih (pre ++ [e]) k n (by rw [h]; simp) (by omega) (by simp; omega) (by simp; omega)
   rw [cA pre e, this, aA7, if_neg g, Nat.zero_add]
open Classical in
theorem aEw {fuel : Nat} {c : CodeProg} (hf : 4000000 ≤ fuel) (hs : SmB c) (hne : c.Code ≠ []) : sL fuel c = some (decide (okB c)) := by
 have hl := hs.len
 have hcode := hs.code
 have hpos : 0 < c.Code.length := List.length_pos_iff.2 hne
 have e1 := aD7 hf hs
 have e2 := rk1 (c := c) hcode (bgs c) [] fuel (List.replicate c.Code.length false) (by omega) (by simp; omega) (by simp) (fun i => by
  constructor
  ·intro h; simp [List.getElem?_replicate] at h
  ·rintro ⟨h, _⟩; cases h)
 have e3 := rk2 (c := c) c.Code [] fuel 0 rfl (by omega) (by simp; omega) (by omega)
 simp only [List.nil_append, List.length_nil, Int.natCast_zero, Nat.zero_add] at e2 e3
 have hiff := zE hne
 rw [sL]
 refine b1 e1 ?_
 refine b1 (mk_ok (by omega)) ?_
 by_cases h : (∀ b ∈ bgs c, atB c.Code b ∧ b ∉ ([] : List Int)) ∧ (bgs c).Nodup
 ·rw [if_pos h] at e2
  refine b1 e2 ?_
  dsimp only
  refine b1 e3 ?_
  by_cases g : iK c.Code = (bgs c).length
  ·have hlast : c.Code[c.Code.length - 1]? = some (c.Code[c.Code.length - 1]'(by omega)) := List.getElem?_eq_getElem _
   have hix : idx c.Code ((c.Code.length : Int) - 1) = some (c.Code[c.Code.length - 1]'(by omega)) := by
    have := fB hlast
    rw [← this]; congr 1; omega
   rw [if_pos (by omega), aS (by omega)]
   refine bb rfl ?_
   rw [hix]
   refine bb rfl ?_
   refine b1 rfl ?_
   congr 1
   rw [decide_eq_decide, hiff]
   have hle := zU hlast
   constructor
   ·intro q; exact ⟨h.2, fun b hb => (h.1 b hb).1, g, by rw [hle, decide_eq_true q]⟩
   ·intro q; have := q.2.2.2; rw [hle] at this; exact of_decide_eq_true this
  ·rw [if_neg (by omega)]
   refine b1 rfl ?_
   rw [decide_eq_false fun q => g (hiff.1 q).2.2.1]
 ·rw [if_neg h] at e2
  refine b1 e2 ?_
  dsimp only
  rw [decide_eq_false fun q => h ⟨fun b hb => ⟨(hiff.1 q).2.1 b hb, by simp⟩, (hiff.1 q).1⟩]
open Go.SX Go.SW Go.Dt
abbrev FT := Int → Option CodeLevel
abbrev SC := Int → CodeLevel → Option (List (Int × CodeLevel))
def fup (f : FT) (m : Int) (l : CodeLevel) : FT := fun x => if x = m then some l else f x
open Classical in
noncomputable def psh : FT → List Int → List (Int × CodeLevel) → Option (FT × List Int)
 | f, td, [] => some (f, td)
 | f, td, p :: s => match f p.1 with
  | some l' => if l' = p.2 then psh f td s else none
  | none => psh (fup f p.1 p.2) (td ++ [p.1]) s
def cnt (f : FT) : Nat → Nat
 | 0 => 0
 | n + 1 => (if (f (n : Int)).isNone = true then 1 else 0) + cnt f n
theorem nY (f : FT) : ∀ n, cnt f n ≤ n
 | 0 => Nat.le_refl _
 | n + 1 => by have := nY f n; simp only [cnt]; split <;> omega
theorem aBB {f : FT} {m : Int} {l : CodeLevel} : ∀ n : Nat, (n : Int) ≤ m → cnt (fup f m l) n = cnt f n
 | 0, _ => rfl
 | n + 1, h => by
  rw [cnt, cnt, aBB n (by omega)]
  have : fup f m l (n : Int) = f (n : Int) := if_neg (by omega)
  rw [this]
theorem cnt_up {f : FT} {m : Int} {l : CodeLevel} (hm : 0 ≤ m) (hf : f m = none) : ∀ n : Nat, m < (n : Int) → cnt (fup f m l) n + 1 = cnt f n
 | 0, h => by omega
 | n + 1, h => by
  rw [cnt, cnt]
  by_cases g : m = (n : Int)
  ·have h1 : fup f m l (n : Int) = some l := if_pos g.symm
   rw [h1, aBB n (by omega), ← g, hf]; simp; omega
  ·have h1 : fup f m l (n : Int) = f (n : Int) := if_neg (Ne.symm g)
   have := cnt_up (l := l) hm hf n (by omega)
   rw [h1]; omega
theorem wR {n : Nat} : ∀ (s : List (Int × CodeLevel)) (f : FT) (td : List Int) (f' : FT) (td' : List Int), psh f td s = some (f', td') → (∀ p ∈ s, 0 ≤ p.1 ∧ p.1 < (n : Int)) →
 (∀ m l, f m = some l → f' m = some l) ∧ (∀ p ∈ s, f' p.1 = some p.2) ∧ (∀ m l, f' m = some l → f m = some l ∨ ((m, l) ∈ s ∧ m ∈ td')) ∧ (∀ m ∈ td, m ∈ td') ∧ (∀ m ∈ td', m ∈ td ∨ ∃ p ∈ s, p.1 = m) ∧ cnt f' n + td'.length = cnt f n + td.length
 | [], f, td, f', td', h, _ => by
  simp only [psh, Option.some.injEq, Prod.mk.injEq] at h
  obtain ⟨rfl, rfl⟩ := h
  exact ⟨fun _ _ h => h, fun p hp => (by cases hp), fun _ _ h => .inl h, fun _ h => h, fun _ h => .inl h, rfl⟩
 | p :: s, f, td, f', td', h, hr => by
  have hr' : ∀ q ∈ s, 0 ≤ q.1 ∧ q.1 < (n : Int) := fun q hq => hr q (.tail _ hq)
  have hp := hr p (.head _)
  cases hf : f p.1 with
  | some l' =>
   simp only [psh, hf] at h
   by_cases e : l' = p.2
   ·rw [if_pos e] at h
    obtain ⟨a1, a2, a3, a4, a5, a6⟩ := wR s f td f' td' h hr'
    refine ⟨a1, fun q hq => ?_, fun m l hm => ?_, a4, fun m hm => ?_, a6⟩
    ·cases hq with
     | head => exact a1 _ _ (by rw [hf, e])
     | tail _ hq => exact a2 q hq
    ·rcases a3 m l hm with g | ⟨g1, g2⟩
     ·exact .inl g
     ·exact .inr ⟨.tail _ g1, g2⟩
    ·rcases a5 m hm with g | ⟨q, g1, g2⟩
     ·exact .inl g
     ·exact .inr ⟨q, .tail _ g1, g2⟩
   ·rw [if_neg e] at h; cases h
  | none =>
   simp only [psh, hf] at h
   obtain ⟨a1, a2, a3, a4, a5, a6⟩ := wR s _ _ f' td' h hr'
   have hpn : f' p.1 = some p.2 := a1 _ _ (if_pos rfl)
   have hc := cnt_up (l := p.2) hp.1 hf n hp.2
   refine ⟨fun m l hm => ?_, fun q hq => ?_, fun m l hm => ?_, fun m hm => a4 m (List.mem_append_left _ hm), fun m hm => ?_, ?_⟩
   ·refine a1 m l ?_
    have : m ≠ p.1 := fun e => by rw [e, hf] at hm; cases hm
    exact (if_neg this).trans hm
   ·cases hq with
    | head => exact hpn
    | tail _ hq => exact a2 q hq
   ·rcases a3 m l hm with g | ⟨g1, g2⟩
    ·by_cases e : m = p.1
     ·subst e
      rw [hpn] at hm; cases hm
      exact .inr ⟨.head _, a4 _ (by simp)⟩
     ·exact .inl ((if_neg e).symm.trans g)
    ·exact .inr ⟨.tail _ g1, g2⟩
   ·rcases a5 m hm with g | ⟨q, g1, g2⟩
    ·rcases List.mem_append.1 g with g | g
     ·exact .inl g
     ·exact .inr ⟨p, .head _, (List.mem_singleton.1 g).symm⟩
    ·exact .inr ⟨q, .tail _ g1, g2⟩
   ·rw [a6, List.length_append, List.length_singleton]; omega
theorem wZ : ∀ (s : List (Int × CodeLevel)) (f : FT) (td : List Int), psh f td s = none → ∃ p ∈ s, ∃ l', l' ≠ p.2 ∧ (f p.1 = some l' ∨ (p.1, l') ∈ s)
 | [], f, td, h => by simp [psh] at h
 | p :: s, f, td, h => by
  cases hf : f p.1 with
  | some l' =>
   simp only [psh, hf] at h
   by_cases e : l' = p.2
   ·rw [if_pos e] at h
    obtain ⟨q, q1, l2, q2, q3⟩ := wZ s f td h
    exact ⟨q, .tail _ q1, l2, q2, q3.imp id fun g => .tail _ g⟩
   ·exact ⟨p, .head _, l', e, .inl hf⟩
  | none =>
   simp only [psh, hf] at h
   obtain ⟨q, q1, l2, q2, q3⟩ := wZ s _ _ h
   refine ⟨q, .tail _ q1, l2, q2, ?_⟩
   rcases q3 with g | g
   ·by_cases e : q.1 = p.1
    ·have : (fup f p.1 p.2) q.1 = some p.2 := if_pos e
     rw [this] at g; cases g
     right; rw [e]; exact .head _
    ·left; exact (if_neg e).symm.trans g
   ·right; exact .tail _ g
inductive R (sc : SC) (a : Int) (l0 : CodeLevel) : Int → CodeLevel → Prop
 | base : R sc a l0 a l0
 | step {n : Int} {l : CodeLevel} {s : List (Int × CodeLevel)} {p : Int × CodeLevel} : R sc a l0 n l → sc n l = some s → p ∈ s → R sc a l0 p.1 p.2
def Bad (sc : SC) (a : Int) (l0 : CodeLevel) : Prop := ∃ n l, R sc a l0 n l ∧ (sc n l = none ∨ ∃ l', R sc a l0 n l' ∧ l' ≠ l)
def Sane (sc : SC) (n : Nat) : Prop := ∀ m l s, 0 ≤ m → m < (n : Int) → 0 ≤ l.Stack → 0 ≤ l.Slots → sc m l = some s → ∀ p ∈ s, (0 ≤ p.1 ∧ p.1 < (n : Int)) ∧ 0 ≤ p.2.Stack ∧ p.2.Stack ≤ l.Stack + 1000 ∧ 0 ≤ p.2.Slots ∧ p.2.Slots ≤ l.Slots + 1000
structure LvI (sc : SC) (n : Nat) (a : Int) (l0 : CodeLevel) (f : FT) (td : List Int) (B : Int) : Prop where
 has : ∀ m ∈ td, ∃ l, f m = some l
 r : ∀ m l, f m = some l → R sc a l0 m l ∧ (0 ≤ m ∧ m < (n : Int)) ∧ (0 ≤ l.Stack ∧ l.Stack ≤ B) ∧ (0 ≤ l.Slots ∧ l.Slots ≤ B)
 c : ∀ m l, f m = some l → m ∉ td → ∃ s, sc m l = some s ∧ ∀ p ∈ s, f p.1 = some p.2
 d : f a = some l0
theorem LvI.step {sc : SC} {n : Nat} {a m : Int} {l0 l : CodeLevel} {f f' : FT} {td td' : List Int} {B : Int} {s s' : List (Int × CodeLevel)} (hs : Sane sc n) (h : LvI sc n a l0 f (td ++ [m]) B) (hm : f m = some l) (hsc : sc m l = some s) (hss : ∀ p, p ∈ s' ↔ p ∈ s) (hp : psh f td s' = some (f', td')) :
 LvI sc n a l0 f' td' (B + 1000) ∧ cnt f' n + td'.length = cnt f n + td.length := by
 obtain ⟨r1, r2, r3, r4⟩ := h.r m l hm
 have hr : ∀ p ∈ s', 0 ≤ p.1 ∧ p.1 < (n : Int) := fun p hp => (hs m l s r2.1 r2.2 r3.1 r4.1 hsc p ((hss p).1 hp)).1
 obtain ⟨a1, a2, a3, a4, a5, a6⟩ := wR (n := n) s' f td f' td' hp hr
 refine ⟨⟨fun x hx => ?_, fun x y hx => ?_, fun x y hx hn => ?_, a1 _ _ h.d⟩, a6⟩
 ·rcases a5 x hx with g | ⟨p, g1, g2⟩
  ·obtain ⟨y, hy⟩ := h.has x (List.mem_append_left _ g); exact ⟨y, a1 _ _ hy⟩
  ·exact ⟨p.2, by rw [← g2]; exact a2 p g1⟩
 ·rcases a3 x y hx with g | ⟨g1, g2⟩
  ·obtain ⟨b1, b2, b3, b4⟩ := h.r x y g
   exact ⟨b1, b2, ⟨b3.1, by omega⟩, ⟨b4.1, by omega⟩⟩
  ·have g3 := (hss _).1 g1
   obtain ⟨c1, c2, c3, c4, c5⟩ := hs m l s r2.1 r2.2 r3.1 r4.1 hsc _ g3
   dsimp only at c2 c3 c4 c5
   exact ⟨R.step (p := (x, y)) r1 hsc g3, c1, ⟨c2, by omega⟩, ⟨c4, by omega⟩⟩
 ·rcases a3 x y hx with g | ⟨g1, g2⟩
  ·by_cases e : x = m
   ·subst e
    rw [hm] at g; cases g
    exact ⟨s, hsc, fun p hp => a2 p ((hss p).2 hp)⟩
   ·obtain ⟨t, t1, t2⟩ := h.c x y g (fun q => by
     rcases List.mem_append.1 q with q | q
     ·exact hn (a4 x q)
     ·exact e (List.mem_singleton.1 q))
    exact ⟨t, t1, fun p hp => a1 _ _ (t2 p hp)⟩
  ·exact absurd g2 hn
theorem LvI.bad {sc : SC} {n : Nat} {a m : Int} {l0 l : CodeLevel} {f : FT} {td td0 : List Int} {B : Int} {s s' : List (Int × CodeLevel)} (h : LvI sc n a l0 f td0 B) (hm : f m = some l) (hsc : sc m l = some s) (hss : ∀ p, p ∈ s' ↔ p ∈ s) (hp : psh f td s' = none) : Bad sc a l0 := by
 obtain ⟨p, p1, l', p2, p3⟩ := wZ s' f td hp
 have r1 := (h.r m l hm).1
 refine ⟨p.1, p.2, R.step r1 hsc ((hss p).1 p1), .inr ⟨l', ?_, p2⟩⟩
 rcases p3 with g | g
 ·exact (h.r _ _ g).1
 ·exact R.step (p := (p.1, l')) r1 hsc ((hss _).1 g)
theorem LvI.closed {sc : SC} {n : Nat} {a : Int} {l0 : CodeLevel} {f : FT} {B : Int} (h : LvI sc n a l0 f [] B) : ∀ m l, R sc a l0 m l ↔ f m = some l := fun m l => by
 constructor
 ·intro hr
  induction hr with
  | base => exact h.d
  | step _ h2 h3 ih =>
   obtain ⟨s, s1, s2⟩ := h.c _ _ ih (by simp)
   rw [h2] at s1; cases s1
   exact s2 _ h3
 ·intro hf; exact (h.r m l hf).1
theorem LvI.good {sc : SC} {n : Nat} {a : Int} {l0 : CodeLevel} {f : FT} {B : Int} (h : LvI sc n a l0 f [] B) : ¬ Bad sc a l0 := by
 rintro ⟨m, l, h1, h2⟩
 have hf := (h.closed m l).1 h1
 rcases h2 with g | ⟨l', g1, g2⟩
 ·obtain ⟨s, s1, _⟩ := h.c m l hf (by simp)
  rw [g] at s1; cases s1
 ·rw [(h.closed m l').1 g1] at hf; cases hf; exact g2 rfl
def eT (ch : List ScopeChan) : List Int → Int
 | [] => 0
 | j :: l => (match ch[j.toNat]? with | some c => c.Many | none => 0) + eT ch l
def gE (d : ScopeDef) (k : Int) : List (Int × CodeLevel) := d.Spots.map (fun s => (s.Node, (⟨0, k⟩ : CodeLevel))) ++ d.Rules.map (fun r => (r.Node, (⟨0, k + eT d.Chans r.Joins⟩ : CodeLevel)))
open Classical in
noncomputable def scI (c : CodeProg) (n : Nat) (i : CodeIns) (l : CodeLevel) : Option (List (Int × CodeLevel)) :=
 if i.Op = 1 then some [((n : Int) + 1, ⟨l.Stack + 1, l.Slots⟩)]
 else if i.Op = 2 then (if i.A < l.Slots then some [((n : Int) + 1, ⟨l.Stack + 1, l.Slots⟩)] else none)
 else if 3 ≤ i.Op ∧ i.Op ≤ 7 then (if 2 ≤ l.Stack then some [((n : Int) + 1, ⟨l.Stack - 1, l.Slots⟩)] else none)
 else if i.Op = 8 then (if i.A < l.Slots ∧ i.B ≤ l.Stack then some [((n : Int) + 1, ⟨l.Stack - i.B, l.Slots⟩)] else none)
 else if i.Op = 9 then (if 1 ≤ l.Stack ∧ dR c.Code n i then some [(i.A, ⟨l.Stack - 1, l.Slots⟩), ((n : Int) + 1, ⟨l.Stack - 1, l.Slots⟩)] else none)
 else if i.Op = 10 then (if dR c.Code n i then some [(i.A, l)] else none)
 else if i.Op = 11 then (if l.Stack = 0 then match c.Defs[i.A.toNat]? with
  | none => none
  | some d => some (gE d (l.Slots + (d.Chans.length + d.Spots.length : Nat)) ++ [((n : Int) + 1, ⟨l.Stack, l.Slots + (d.Chans.length + d.Spots.length : Nat)⟩)]) else none)
 else if i.Op = 12 then (if i.A ≤ l.Slots then some [((n : Int) + 1, ⟨l.Stack, i.A⟩)] else none)
 else if i.Op = 13 ∨ i.Op = 15 then (if i.A < l.Slots ∧ l.Stack = 0 then some [(i.B, ⟨0, l.Slots⟩), ((n : Int) + 1, l)] else none)
 else if i.Op = 14 then (if l.Stack = 0 then some [((n : Int) + 1, l)] else none)
 else (if l.Stack = 0 then some [] else none)
noncomputable def scP (c : CodeProg) : SC := fun n l => match c.Code[n.toNat]? with
 | none => none
 | some i => scI c n.toNat i l
structure Pre (c : CodeProg) : Prop where
 len : c.Code.length ≤ 400
 defs : c.Defs.length ≤ 12
 okD : ∀ d ∈ c.Defs, okD d ∧ inD c.Code.length d
 okI : ∀ (n : Nat) i, c.Code[n]? = some i → okI c.Defs.length c.Code.length n i ∧ inI c.Code.length i
 end_ : ∀ i, c.Code[c.Code.length - 1]? = some i → i.Op = 16
theorem yT {ch : List ScopeChan} {a : Int} {n : Nat} (hc : ∀ c ∈ ch, fA n c) : ∀ {l pre : List Int}, dX ch a pre l → 0 ≤ eT ch l ∧ eT ch l ≤ 3 * (l.length : Int)
 | [], _, _ => by simp [eT]
 | j :: l, pre, h => by
  obtain ⟨⟨_, _, ⟨c, hc1, _⟩, _⟩, h2⟩ := h
  have ih := yT hc h2
  have := hc c (List.mem_of_getElem? hc1)
  simp only [eT, hc1, List.length_cons]
  have h3 := this.2.2.1; have h4 := this.2.2.2
  omega
theorem defS_ok {c : CodeProg} (hp : Pre c) {d : ScopeDef} (hd : d ∈ c.Defs) {k : Int} (hk : 0 ≤ k) : ∀ p ∈ gE d k, (0 ≤ p.1 ∧ p.1 < (c.Code.length : Int)) ∧ 0 ≤ p.2.Stack ∧ p.2.Stack ≤ 0 ∧ 0 ≤ p.2.Slots ∧ p.2.Slots ≤ k + 9 := fun p h => by
 obtain ⟨h1, h2⟩ := hp.okD d hd
 rcases List.mem_append.1 h with h | h
 ·obtain ⟨s, s1, rfl⟩ := List.mem_map.1 h
  exact ⟨h2.1 s s1, by simp, by simp, hk, by simp; omega⟩
 ·obtain ⟨r, r1, rfl⟩ := List.mem_map.1 h
  have hr := h1.2.2.2.1 r r1
  have hj := yT h1.2.1 hr.2
  have := hr.1
  exact ⟨h2.2 r r1, by simp, by simp, by simp; omega, by simp; omega⟩
theorem Pre.next {c : CodeProg} (hp : Pre c) {n : Nat} {i : CodeIns} (hi : c.Code[n]? = some i) (ho : i.Op ≠ 16) : n + 1 < c.Code.length := by
 have hn := (List.getElem?_eq_some_iff.1 hi).1
 rcases Nat.lt_or_ge (n + 1) c.Code.length with h | h
 ·exact h
 ·have : n = c.Code.length - 1 := by omega
  rw [this] at hi
  exact absurd (hp.end_ i hi) ho
theorem scI_ok {c : CodeProg} (hp : Pre c) {n : Nat} {i : CodeIns} {l : CodeLevel} {s : List (Int × CodeLevel)} (hi : c.Code[n]? = some i) (h1 : 0 ≤ l.Stack) (h2 : 0 ≤ l.Slots) (h : scI c n i l = some s) : ∀ p ∈ s, (0 ≤ p.1 ∧ p.1 < (c.Code.length : Int)) ∧ 0 ≤ p.2.Stack ∧ p.2.Stack ≤ l.Stack + 1000 ∧ 0 ≤ p.2.Slots ∧ p.2.Slots ≤ l.Slots + 1000 := by
 obtain ⟨hok, hin⟩ := hp.okI n i hi
 have hnx := hp.next hi
 have hj := hok.jump; have hs8 := hok.send; have h11 := hok.df; have hpos := hok.pos
 unfold inI at hin
 rw [scI] at h
 by_cases o1 : i.Op = 1
 ·rw [if_pos o1] at h; cases h
  have := hnx (by omega)
  intro p hp; rw [List.mem_singleton.1 hp]; dsimp only; omega
 rw [if_neg o1] at h
 by_cases o2 : i.Op = 2
 ·rw [if_pos o2] at h; split at h <;> cases h
  have := hnx (by omega)
  intro p hp; rw [List.mem_singleton.1 hp]; dsimp only; omega
 rw [if_neg o2] at h
 by_cases o3 : 3 ≤ i.Op ∧ i.Op ≤ 7
 ·rw [if_pos o3] at h; split at h <;> cases h
  have := hnx (by omega)
  intro p hp; rw [List.mem_singleton.1 hp]; dsimp only; omega
 rw [if_neg o3] at h
 by_cases o8 : i.Op = 8
 ·rw [if_pos o8] at h; split at h <;> cases h
  have := hnx (by omega)
  intro p hp; rw [List.mem_singleton.1 hp]; dsimp only; omega
 rw [if_neg o8] at h
 by_cases o9 : i.Op = 9
 ·rw [if_pos o9] at h; split at h <;> cases h
  have := hnx (by omega)
  intro p hp
  cases hp with
  | head => dsimp only; omega
  | tail _ hp => rw [List.mem_singleton.1 hp]; dsimp only; omega
 rw [if_neg o9] at h
 by_cases o10 : i.Op = 10
 ·rw [if_pos o10] at h; split at h <;> cases h
  intro p hp; rw [List.mem_singleton.1 hp]; dsimp only; omega
 rw [if_neg o10] at h
 by_cases o11 : i.Op = 11
 ·rw [if_pos o11] at h; split at h
  ·split at h
   ·cases h
   ·rename_i d hd
    have hdm := List.mem_of_getElem? hd
    have hdo := (hp.okD d hdm).1.1
    cases h
    have := hnx (by omega)
    intro p hpp
    rcases List.mem_append.1 hpp with g | g
    ·have := defS_ok hp hdm (by omega) p g; omega
    ·rw [List.mem_singleton.1 g]; dsimp only; omega
  ·cases h
 rw [if_neg o11] at h
 by_cases o12 : i.Op = 12
 ·rw [if_pos o12] at h; split at h <;> cases h
  have := hnx (by omega)
  intro p hp; rw [List.mem_singleton.1 hp]; dsimp only; omega
 rw [if_neg o12] at h
 by_cases o13 : i.Op = 13 ∨ i.Op = 15
 ·rw [if_pos o13] at h; split at h <;> cases h
  have := hnx (by omega)
  intro p hp
  cases hp with
  | head => dsimp only; omega
  | tail _ hp => rw [List.mem_singleton.1 hp]; dsimp only; omega
 rw [if_neg o13] at h
 by_cases o14 : i.Op = 14
 ·rw [if_pos o14] at h; split at h <;> cases h
  have := hnx (by omega)
  intro p hp; rw [List.mem_singleton.1 hp]; dsimp only; omega
 rw [if_neg o14] at h
 split at h <;> cases h
 intro p hp; cases hp
theorem aBq {c : CodeProg} (hp : Pre c) : Sane (scP c) c.Code.length := fun m l s h1 h2 h3 h4 h => by
 unfold scP at h
 split at h
 ·cases h
 ·rename_i i hi
  exact scI_ok hp hi h3 h4 h
open Go.SX Go.SW Go.Dt
open Classical in
noncomputable def cY : Code_checker → List (Int × CodeLevel) → Code_checker ⊕ Value
 | x, [] => .inl x
 | x, p :: s => match x.levels.get p.1 with
  | some l' => if l' = p.2 then cY x s else .inr W
  | none => cY ⟨x.CodeProg, x.begins, x.last, x.levels.upd p.1 p.2, x.todo ++ [p.1]⟩ s
theorem tQ : ∀ (s t : List (Int × CodeLevel)) (x : Code_checker), cY x (s ++ t) = (match cY x s with | .inl y => cY y t | .inr v => .inr v)
 | [], _, _ => rfl
 | p :: s, t, x => by
  rw [List.cons_append, cY, cY]
  cases x.levels.get p.1 with
  | some l' =>
   dsimp only
   by_cases e : l' = p.2
   ·rw [if_pos e, if_pos e]; exact tQ s t x
   ·rw [if_neg e, if_neg e]
  | none => exact tQ s t _
theorem wG (p : Int × CodeLevel) (s : List (Int × CodeLevel)) (x : Code_checker) : cY x (p :: s) = (match cY x [p] with | .inl y => cY y s | .inr v => .inr v) := tQ [p] s x
theorem lZ : ∀ (s : List (Int × CodeLevel)) (x y : Code_checker), cY x s = .inl y → y.CodeProg = x.CodeProg ∧ y.begins = x.begins ∧ y.last = x.last ∧ y.todo.length ≤ x.todo.length + s.length
 | [], x, y, h => by simp only [cY, Sum.inl.injEq] at h; subst h; exact ⟨rfl, rfl, rfl, by simp⟩
 | p :: s, x, y, h => by
  rw [cY] at h
  cases hx : x.levels.get p.1 with
  | some l' =>
   rw [hx] at h; dsimp only at h
   by_cases e : l' = p.2
   ·rw [if_pos e] at h
    obtain ⟨a, b, c, d⟩ := lZ s x y h
    exact ⟨a, b, c, by simp only [List.length_cons]; omega⟩
   ·rw [if_neg e] at h; cases h
  | none =>
   rw [hx] at h; dsimp only at h
   obtain ⟨a, b, c, d⟩ := lZ s _ y h
   exact ⟨a, b, c, by simp only [List.length_append, List.length_cons, List.length_nil] at d ⊢; omega⟩
theorem zA {n : Nat} : ∀ (s : List (Int × CodeLevel)) (x : Code_checker), (∀ p ∈ s, 0 ≤ p.1 ∧ p.1 < (n : Int)) → eZ x.levels n → (match psh x.levels.get x.todo s with | none => cY x s = .inr W | some (f, td) => ∃ lv, cY x s = .inl ⟨x.CodeProg, x.begins, x.last, lv, td⟩ ∧ lv.get = f ∧ eZ lv n)
 | [], x, _, hk => ⟨x.levels, rfl, rfl, hk⟩
 | p :: s, x, hr, hk => by
  have hr' : ∀ q ∈ s, 0 ≤ q.1 ∧ q.1 < (n : Int) := fun q hq => hr q (.tail _ hq)
  rw [psh, cY]
  cases hx : x.levels.get p.1 with
  | some l' =>
   dsimp only
   by_cases e : l' = p.2
   ·rw [if_pos e, if_pos e]; exact zA s x hr' hk
   ·rw [if_neg e, if_neg e]
  | none => exact zA s ⟨x.CodeProg, x.begins, x.last, x.levels.upd p.1 p.2, x.todo ++ [p.1]⟩ hr' (hk.upd (hr p (.head _)))
theorem xY {a b : CodeLevel} : a = b ↔ (a.Stack = b.Stack ∧ a.Slots = b.Slots) := by
 obtain ⟨a1, a2⟩ := a; obtain ⟨b1, b2⟩ := b; simp
theorem fJ {x : Code_checker} {m : Int} {l : CodeLevel} (ht : x.todo.length ≤ 10000000) : iU x m l = some (cY x [(m, l)]) := by
 rw [iU, cY]
 cases hx : x.levels.get m with
 | some l' =>
  simp only [Option.isSome_some, Option.getD_some]
  rw [cond_true]
  by_cases e : l' = l
  ·have := xY.1 e
   rw [decide_eq_true this.1, decide_eq_true this.2, if_pos e]; rfl
  ·have : (decide (l'.Stack = l.Stack) && decide (l'.Slots = l.Slots)) = false := by
    rw [← Bool.decide_and]; exact decide_eq_false fun g => e (xY.2 g)
   rw [this, if_neg e]; rfl
 | none =>
  simp only [Option.isSome_none]
  rw [cond_false, iL (by simp; omega)]; rfl
theorem sT {l : CodeLevel} {a b : Int} (h1 : 0 ≤ l.Stack ∧ l.Stack ≤ 100000000) (ha : 0 ≤ a ∧ a ≤ 100) (hb : 0 ≤ b ∧ b ≤ 100) : jX l a b = some (if a ≤ l.Stack then .inl ⟨l.Stack - a + b, l.Slots⟩ else .inr W) := by
 rw [jX]
 by_cases h : a ≤ l.Stack
 ·rw [decide_eq_true h, dP, bsm, aS (by omega), bsm, aS (by omega), bsm, if_pos h]
 ·rw [decide_eq_false h, cC, bsm, if_neg h]
theorem f1_eq {i : CodeIns} {l : CodeLevel} : nL i l = some (if i.A < l.Slots then .inl l else .inr W) := by
 rw [nL]
 by_cases h : i.A < l.Slots
 ·rw [decide_eq_true h, dP, bsm, if_pos h]
 ·rw [decide_eq_false h, cC, bsm, if_neg h]
theorem f2_eq {l : CodeLevel} : mT l = some (if l.Stack = 0 then .inl l else .inr W) := by
 rw [mT]
 by_cases h : l.Stack = 0
 ·rw [decide_eq_true h, dP, bsm, if_pos h]
 ·rw [decide_eq_false h, cC, bsm, if_neg h]
theorem pf1 {d : ScopeDef} {a : Int} (suf : List ScopeSpot) : ∀ (pre : List ScopeSpot) (k : Nat) (x : Code_checker), d.Spots = pre ++ suf → suf.length < k → pre.length + suf.length ≤ 3000000 → x.todo.length + suf.length ≤ 9000000 →
 kP d a k (pre.length : Int) x.CodeProg.Free x.CodeProg.Defs x.CodeProg.Code x.CodeProg.Main x.begins x.last x.levels x.todo = some (match cY x (suf.map fun s => (s.Node, (⟨0, a⟩ : CodeLevel))) with | .inl y => .inl (y.CodeProg.Free, y.CodeProg.Defs, y.CodeProg.Code, y.CodeProg.Main, y.begins, y.last, y.levels, y.todo) | .inr v => .inr (.inr v)) := by
 induction suf with
 | nil =>
  intro pre k x h hk _ _
  obtain _ | k := k
  ·omega
  rw [kP, h, if_neg (by simp)]; rfl
 | cons e suf ih =>
  intro pre k x h hk hB hT
  obtain _ | k := k
  ·omega
  simp only [List.length_cons] at hk hB hT
  rw [kP, h, if_pos (bT _ _ _), bR, bsm]
  refine b1 (fJ (x := x) (by omega)) ?_
  rw [List.map_cons, wG _ (suf.map fun s => (s.Node, (⟨0, a⟩ : CodeLevel)))]
  cases hy : cY x [(e.Node, (⟨0, a⟩ : CodeLevel))] with
  | inr v => rfl
  | inl y =>
   obtain ⟨_, _, _, h4⟩ := lZ _ _ _ hy
   simp only [List.length_cons, List.length_nil] at h4
   dsimp only
   rw [aS (by omega), bsm, cA pre e]
   exact ih (pre ++ [e]) k y (by rw [h]; simp) (by omega) (by simp; omega) (by omega)
theorem pf3 {d : ScopeDef} {r : ScopeRule} {n : Nat} (hc : ∀ c ∈ d.Chans, fA n c) {at_ : Int} (suf : List Int) : ∀ (pre pre' : List Int) (k : Nat) (acc : Int), r.Joins = pre ++ suf → dX d.Chans at_ pre' suf → suf.length < k → pre.length + suf.length ≤ 3000000 → 0 ≤ acc ∧ acc + 3 * (suf.length : Int) ≤ 1000000000 → lC d r k acc (pre.length : Int) = some (acc + eT d.Chans suf) := by
 induction suf with
 | nil =>
  intro pre pre' k acc h _ hk _ _
  obtain _ | k := k
  ·omega
  rw [lC, h, if_neg (by simp), eT]; simp
 | cons e suf ih =>
  intro pre pre' k acc h hj hk hB ha
  obtain _ | k := k
  ·omega
  simp only [List.length_cons] at hk hB ha
  obtain ⟨⟨j1, j2, ⟨c, c1, _⟩, _⟩, hj2⟩ := hj
  have hm := hc c (List.mem_of_getElem? c1)
  have hm1 := hm.2.2.1
  have hm2 := hm.2.2.2
  have hix : idx d.Chans e = some c := by
   have := fB c1
   rwa [show ((e.toNat : Nat) : Int) = e by omega] at this
  rw [lC, h, if_pos (bT _ _ _), bR, bsm, hix, bsm, aS (by omega), bsm, aS (by omega), bsm, cA pre e, ih (pre ++ [e]) _ k _ (by rw [h]; simp) hj2 (by omega) (by simp; omega) (by omega)]
  simp only [eT, c1]
  congr 1; omega
theorem pf2 {fuel : Nat} {d : ScopeDef} (hf : 4000000 ≤ fuel) (hok : okD d) {a : Int} (ha : 0 ≤ a ∧ a ≤ 100000000) (suf : List ScopeRule) : ∀ (pre : List ScopeRule) (k : Nat) (x : Code_checker), d.Rules = pre ++ suf → suf.length < k → pre.length + suf.length ≤ 3000000 → x.todo.length + suf.length ≤ 9000000 →
 kG fuel d a k (pre.length : Int) x.CodeProg.Free x.CodeProg.Defs x.CodeProg.Code x.CodeProg.Main x.begins x.last x.levels x.todo = some (cY x (suf.map fun r => (r.Node, (⟨0, a + eT d.Chans r.Joins⟩ : CodeLevel)))) := by
 induction suf with
 | nil =>
  intro pre k x h hk _ _
  obtain _ | k := k
  ·omega
  rw [kG, h, if_neg (by simp)]; rfl
 | cons e suf ih =>
  intro pre k x h hk hB hT
  obtain _ | k := k
  ·omega
  simp only [List.length_cons] at hk hB hT
  have he := hok.2.2.2.1 e (by rw [h]; simp)
  have hl3 := he.1.2.2.2
  have e3 := pf3 (d := d) (r := e) hok.2.1 e.Joins [] [] fuel 0 rfl he.2 (by omega) (by simp; omega) (by omega)
  have hjs := yT hok.2.1 he.2
  simp only [List.length_nil, Int.natCast_zero, Int.zero_add] at e3
  rw [kG, h, if_pos (bT _ _ _), bR]
  refine bb rfl ?_
  refine bb e3 ?_
  refine bb (aS (by omega)) ?_
  refine bb (fJ (x := x) (by omega)) ?_
  rw [List.map_cons, wG _ (suf.map fun r => (r.Node, (⟨0, a + eT d.Chans r.Joins⟩ : CodeLevel)))]
  cases hy : cY x [(e.Node, (⟨0, a + eT d.Chans e.Joins⟩ : CodeLevel))] with
  | inr v => rfl
  | inl y =>
   obtain ⟨_, _, _, h4⟩ := lZ _ _ _ hy
   simp only [List.length_cons, List.length_nil] at h4
   refine b1 rfl ?_
   dsimp only
   rw [aS (by omega), bsm, cA pre e]
   exact ih (pre ++ [e]) k y (by rw [h]; simp) (by omega) (by simp; omega) (by omega)
theorem def_eq {fuel : Nat} {d : ScopeDef} (hf : 4000000 ≤ fuel) (hok : okD d) {a : Int} (ha : 0 ≤ a ∧ a ≤ 100000000) {x : Code_checker} (ht : x.todo.length ≤ 1000000) : tD fuel x d a = some (cY x (gE d a)) := by
 obtain ⟨⟨h1, h2, h3⟩, _⟩ := id hok
 have e1 := pf1 (d := d) (a := a) d.Spots [] fuel x rfl (by omega) (by simp; omega) (by omega)
 simp only [List.length_nil, Int.natCast_zero] at e1
 rw [tD, e1, bsm, gE, tQ]
 cases hy : cY x (d.Spots.map fun s => (s.Node, (⟨0, a⟩ : CodeLevel))) with
 | inr v => rfl
 | inl y =>
  obtain ⟨_, _, _, h4⟩ := lZ _ _ _ hy
  simp only [List.length_map] at h4
  have e2 := pf2 (fuel := fuel) (d := d) hf hok ha d.Rules [] fuel y rfl (by omega) (by simp; omega) (by omega)
  simp only [List.length_nil, Int.natCast_zero] at e2
  exact e2
theorem grp5 (a : Int) : (if a = 3 then some (decide (a = 3)) else if a = 4 then some (decide (a = 4)) else if a = 5 then some (decide (a = 5)) else if a = 6 then some (decide (a = 6)) else some (decide (a = 7))) = some (decide (3 ≤ a ∧ a ≤ 7)) := by
 by_cases h : 3 ≤ a ∧ a ≤ 7
 ·have : a = 3 ∨ a = 4 ∨ a = 5 ∨ a = 6 ∨ a = 7 := by omega
  rcases this with rfl | rfl | rfl | rfl | rfl <;> rfl
 ·rw [if_neg (by omega), if_neg (by omega), if_neg (by omega), if_neg (by omega), decide_eq_false h, decide_eq_false (by omega)]
theorem grp2 (a : Int) : (if a = 13 then some (decide (a = 13)) else some (decide (a = 15))) = some (decide (a = 13 ∨ a = 15)) := by
 by_cases h : a = 13
 ·subst h; rfl
 ·rw [if_neg h]; simp [h]
theorem aCz {C : List CodeIns} {la : List Int} (h : mE C la C.length) {n : Nat} {i : CodeIns} (hn : n < C.length) (ho : i.Op = 9 ∨ i.Op = 10) (hA : (n : Int) < i.A ∧ i.A < (C.length : Int)) : ∃ q : Int, idx la (n : Int) = some q ∧ (i.A ≤ q ↔ dR C n i) := by
 obtain ⟨q, h1, h2, h3, ⟨e, h4, h5⟩, h6⟩ := h n hn
 refine ⟨(q : Int), fB h1, fun g _ k k1 k2 j k3 => h6 k k1 (by omega) j k3, fun g => ?_⟩
 by_cases g2 : (q : Int) < i.A
 ·exact absurd h5 (g ho q h2 g2 e h4)
 ·omega
open Go.SX Go.SW Go.Dt
theorem rr (r : Code_checker ⊕ Value) : (match r with | Sum.inr pv => some (Sum.inr pv) | Sum.inl y => some (Sum.inl (⟨(⟨y.CodeProg.Free, y.CodeProg.Defs, y.CodeProg.Code, y.CodeProg.Main⟩ : CodeProg), y.begins, y.last, y.levels, y.todo⟩ : Code_checker))) = some r := by cases r <;> rfl
theorem aFf {fuel : Nat} {x : Code_checker} {n : Nat} {i : CodeIns} {l : CodeLevel} (hf : 4000000 ≤ fuel) (hp : Pre x.CodeProg) (hi : x.CodeProg.Code[n]? = some i) (hl : x.levels.get (n : Int) = some l) (hla : mE x.CodeProg.Code x.last x.CodeProg.Code.length)
 (hS : 0 ≤ l.Stack ∧ l.Stack ≤ 10000000) (hK : 0 ≤ l.Slots ∧ l.Slots ≤ 10000000) (ht : x.todo.length ≤ 100000) :
 pA fuel x (n : Int) = some (match scI x.CodeProg n i l with | none => .inr W | some s => cY x s) := by
 obtain ⟨hok, hin⟩ := hp.okI n i hi
 have hn := (List.getElem?_eq_some_iff.1 hi).1
 have hlen := hp.len
 have hj := hok.jump; have hs8 := hok.send; have h11 := hok.df; have hpos := hok.pos; have hop := hok.op
 rw [pA]
 refine b1 (fB hi) ?_
 dsimp only
 rw [hl]
 dsimp only [Option.getD_some]
 rw [scI]
 by_cases o1 : i.Op = 1
 ·rw [if_pos o1, if_pos o1, sT (l := ⟨l.Stack, l.Slots⟩) (by dsimp only; omega) (by omega) (by omega), if_pos (by dsimp only; omega)]
  refine bb rfl ?_
  dsimp only
  refine b1 rfl ?_
  dsimp only
  refine b1 (aS (by omega)) ?_
  refine b1 (fJ (x := x) (by omega)) ?_
  rw [show l.Stack - 0 + 1 = l.Stack + 1 by omega]
  exact rr _
 rw [if_neg o1, if_neg o1]
 by_cases o2 : i.Op = 2
 ·rw [if_pos o2, if_pos o2, f1_eq]
  by_cases g : i.A < l.Slots
  ·rw [if_pos g, if_pos g]
   refine bb rfl ?_
   dsimp only
   rw [sT (l := ⟨l.Stack, l.Slots⟩) (by dsimp only; omega) (by omega) (by omega), if_pos (by dsimp only; omega)]
   refine bb rfl ?_
   dsimp only
   refine b1 rfl ?_
   dsimp only
   refine b1 (aS (by omega)) ?_
   refine b1 (fJ (x := x) (by omega)) ?_
   rw [show l.Stack - 0 + 1 = l.Stack + 1 by omega]
   exact rr _
  ·rw [if_neg g, if_neg g]; rfl
 rw [if_neg o2, if_neg o2]
 refine bb (grp5 i.Op) ?_
 by_cases o3 : 3 ≤ i.Op ∧ i.Op ≤ 7
 ·rw [decide_eq_true o3, cond_true, if_pos o3, sT (l := ⟨l.Stack, l.Slots⟩) (by dsimp only; omega) (by omega) (by omega)]
  dsimp only
  by_cases g : 2 ≤ l.Stack
  ·rw [if_pos g, if_pos g]
   refine bb rfl ?_
   dsimp only
   refine b1 rfl ?_
   dsimp only
   refine b1 (aS (by omega)) ?_
   refine b1 (fJ (x := x) (by omega)) ?_
   rw [show l.Stack - 2 + 1 = l.Stack - 1 by omega]
   exact rr _
  ·rw [if_neg g, if_neg g]; rfl
 rw [decide_eq_false o3, cond_false, if_neg o3]
 by_cases o8 : i.Op = 8
 ·have hb := hs8 o8
  rw [if_pos o8, if_pos o8, f1_eq]
  by_cases g : i.A < l.Slots
  ·rw [if_pos g]
   refine bb rfl ?_
   dsimp only
   rw [sT (l := ⟨l.Stack, l.Slots⟩) (by dsimp only; omega) (by omega) (by omega)]
   dsimp only
   by_cases g2 : i.B ≤ l.Stack
   ·rw [if_pos g2, if_pos ⟨g, g2⟩]
    refine bb rfl ?_
    dsimp only
    refine b1 rfl ?_
    dsimp only
    refine b1 (aS (by omega)) ?_
    refine b1 (fJ (x := x) (by omega)) ?_
    rw [show l.Stack - i.B + 0 = l.Stack - i.B by omega]
    exact rr _
   ·rw [if_neg g2, if_neg (fun q : i.A < l.Slots ∧ i.B ≤ l.Stack => g2 q.2)]; rfl
  ·rw [if_neg g, if_neg (fun q : i.A < l.Slots ∧ i.B ≤ l.Stack => g q.1)]; rfl
 rw [if_neg o8, if_neg o8]
 by_cases o9 : i.Op = 9
 ·obtain ⟨q, q1, q2⟩ := aCz hla hn (.inl o9) (hj (.inl o9))
  rw [if_pos o9, if_pos o9, sT (l := ⟨l.Stack, l.Slots⟩) (by dsimp only; omega) (by omega) (by omega)]
  dsimp only
  by_cases g : 1 ≤ l.Stack
  ·rw [if_pos g]
   refine bb rfl ?_
   dsimp only
   refine bb q1 ?_
   by_cases g2 : i.A ≤ q
   ·rw [decide_eq_true g2, dP, if_pos ⟨g, q2.1 g2⟩, show l.Stack - 1 + 0 = l.Stack - 1 by omega]
    refine bb rfl ?_
    dsimp only
    rw [wG _ [((n : Int) + 1, _)]]
    refine bb (fJ (x := x) (by omega)) ?_
    cases hy : cY x [(i.A, (⟨l.Stack - 1, l.Slots⟩ : CodeLevel))] with
    | inr v => rfl
    | inl y =>
     obtain ⟨_, _, _, h4⟩ := lZ _ _ _ hy
     simp only [List.length_cons, List.length_nil] at h4
     dsimp only
     refine b1 rfl ?_
     dsimp only
     refine b1 (aS (by omega)) ?_
     refine b1 (fJ (x := y) (by omega)) ?_
     exact rr _
   ·rw [decide_eq_false g2, cC, if_neg (fun z : 1 ≤ l.Stack ∧ dR x.CodeProg.Code n i => g2 (q2.2 z.2))]; rfl
  ·rw [if_neg g, if_neg (fun z : 1 ≤ l.Stack ∧ dR x.CodeProg.Code n i => g z.1)]; rfl
 rw [if_neg o9, if_neg o9]
 by_cases o10 : i.Op = 10
 ·obtain ⟨q, q1, q2⟩ := aCz hla hn (.inr o10) (hj (.inr o10))
  rw [if_pos o10, if_pos o10]
  refine bb q1 ?_
  by_cases g2 : i.A ≤ q
  ·rw [decide_eq_true g2, dP, if_pos (q2.1 g2)]
   refine bb rfl ?_
   dsimp only
   refine bb (fJ (x := x) (by omega)) ?_
   have : (⟨l.Stack, l.Slots⟩ : CodeLevel) = l := rfl
   rw [this]
   cases hy : cY x [(i.A, l)] with
   | inr v => rfl
   | inl y => rfl
  ·rw [decide_eq_false g2, cC, if_neg (fun z => g2 (q2.2 z))]; rfl
 rw [if_neg o10, if_neg o10]
 by_cases o11 : i.Op = 11
 ·have hA := h11 o11
  have hA2 := hpos (by omega)
  rw [if_pos o11, if_pos o11, f2_eq]
  dsimp only
  by_cases g : l.Stack = 0
  ·rw [if_pos g, if_pos g]
   refine bb rfl ?_
   dsimp only
   have hd : x.CodeProg.Defs[i.A.toNat]? = some (x.CodeProg.Defs[i.A.toNat]'(by omega)) := List.getElem?_eq_getElem _
   have hix := dF (xs := x.CodeProg.Defs) hA2.1 hA
   have hdm := List.mem_of_getElem? hd
   rw [hd]
   refine bb hix ?_
   generalize x.CodeProg.Defs[i.A.toNat]'(by omega) = d at hdm
   have hdo := (hp.okD d hdm).1
   have hd3 := hdo.1
   refine bb (aS (by omega)) ?_
   refine bb (aS (by omega)) ?_
   have hk : l.Slots + ((d.Chans.length : Int) + (d.Spots.length : Int)) = l.Slots + (d.Chans.length + d.Spots.length : Nat) := by omega
   rw [hk]
   refine bb (def_eq (x := x) hf hdo (by omega) (by omega)) ?_
   dsimp only
   rw [tQ]
   cases hy : cY x (gE d (l.Slots + (d.Chans.length + d.Spots.length : Nat))) with
   | inr v => rfl
   | inl y =>
    obtain ⟨_, _, _, h4⟩ := lZ _ _ _ hy
    simp only [gE, List.length_append, List.length_map] at h4
    dsimp only
    refine b1 rfl ?_
    dsimp only
    refine b1 (aS (by omega)) ?_
    refine b1 (fJ (x := y) (by omega)) ?_
    exact rr _
  ·rw [if_neg g, if_neg g]; rfl
 rw [if_neg o11, if_neg o11]
 by_cases o12 : i.Op = 12
 ·rw [if_pos o12, if_pos o12]
  by_cases g : i.A ≤ l.Slots
  ·rw [decide_eq_true g, dP, if_pos g]
   refine bb rfl ?_
   dsimp only
   refine b1 rfl ?_
   dsimp only
   refine b1 (aS (by omega)) ?_
   refine b1 (fJ (x := x) (by omega)) ?_
   exact rr _
  ·rw [decide_eq_false g, cC, if_neg g]; rfl
 rw [if_neg o12, if_neg o12]
 refine bb (grp2 i.Op) ?_
 by_cases o13 : i.Op = 13 ∨ i.Op = 15
 ·rw [decide_eq_true o13, cond_true, if_pos o13, f1_eq]
  by_cases g : i.A < l.Slots
  ·rw [if_pos g]
   refine bb rfl ?_
   dsimp only
   rw [f2_eq]
   dsimp only
   by_cases g2 : l.Stack = 0
   ·rw [if_pos g2, if_pos ⟨g, g2⟩]
    refine bb rfl ?_
    dsimp only
    rw [wG _ [((n : Int) + 1, _)]]
    refine bb (fJ (x := x) (by omega)) ?_
    cases hy : cY x [(i.B, (⟨0, l.Slots⟩ : CodeLevel))] with
    | inr v => rfl
    | inl y =>
     obtain ⟨_, _, _, h4⟩ := lZ _ _ _ hy
     simp only [List.length_cons, List.length_nil] at h4
     dsimp only
     refine b1 rfl ?_
     dsimp only
     refine b1 (aS (by omega)) ?_
     refine b1 (fJ (x := y) (by omega)) ?_
     exact rr _
   ·rw [if_neg g2, if_neg (fun z : i.A < l.Slots ∧ l.Stack = 0 => g2 z.2)]; rfl
  ·rw [if_neg g, if_neg (fun z : i.A < l.Slots ∧ l.Stack = 0 => g z.1)]; rfl
 rw [decide_eq_false o13, cond_false, if_neg o13]
 by_cases o14 : i.Op = 14
 ·rw [if_pos o14, if_pos o14, f2_eq]
  dsimp only
  by_cases g : l.Stack = 0
  ·rw [if_pos g, if_pos g]
   refine bb rfl ?_
   dsimp only
   refine b1 rfl ?_
   dsimp only
   refine b1 (aS (by omega)) ?_
   refine b1 (fJ (x := x) (by omega)) ?_
   exact rr _
  ·rw [if_neg g, if_neg g]; rfl
 rw [if_neg o14, if_neg o14]
 have o16 : i.Op = 16 := by omega
 rw [if_pos o16, f2_eq]
 dsimp only
 by_cases g : l.Stack = 0
 ·rw [if_pos g, if_pos g]; rfl
 ·rw [if_neg g, if_neg g]; rfl
open Go.SX Go.SW Go.Dt
theorem aAe {c : CodeProg} {m : Int} {i : CodeIns} (hi : c.Code[m.toNat]? = some i) (l : CodeLevel) : scP c m l = scI c m.toNat i l := by unfold scP; rw [hi]
theorem pl2 {fuel n : Nat} {c : CodeProg} {b la : List Int} {a : Int} {l0 : CodeLevel} (hf : 4000000 ≤ fuel) (hp : Pre c) (hn : n = c.Code.length) (hla : mE c.Code la c.Code.length) : ∀ (k : Nat) (lv : aE Int CodeLevel) (td : List Int) (B : Int), eZ lv n → LvI (scP c) n a l0 lv.get td B → cnt lv.get n + td.length < k → 0 ≤ B → B + 1000 * ((cnt lv.get n + td.length : Nat) : Int) ≤ 1000000 →
 (∃ lv' B', gV fuel k c.Free c.Defs c.Code c.Main b la lv td = some (.inl (c.Free, c.Defs, c.Code, c.Main, b, la, lv', [])) ∧ eZ lv' n ∧ LvI (scP c) n a l0 lv'.get [] B') ∨ (gV fuel k c.Free c.Defs c.Code c.Main b la lv td = some (.inr (none, false)) ∧ Bad (scP c) a l0)
 | 0, _, _, _, _, _, h, _, _ => by omega
 | k + 1, lv, td, B, hk, hI, hm, hB0, hB => by
  rcases List.eq_nil_or_concat td with rfl | ⟨td, m, rfl⟩
  ·exact .inl ⟨lv, B, by rw [gV, if_neg (by simp)], hk, hI⟩
  ·rw [List.concat_eq_append] at *
   obtain ⟨l, hl⟩ := hI.has m (by simp)
   obtain ⟨r1, r2, r3, r4⟩ := hI.r m l hl
   subst hn
   have hmn : ((m.toNat : Nat) : Int) = m := by omega
   have hi : c.Code[m.toNat]? = some (c.Code[m.toNat]'(by omega)) := List.getElem?_eq_getElem _
   have hlen := hp.len
   have hcl := nY lv.get c.Code.length
   simp only [List.length_append, List.length_singleton] at hm hB
   have hfo := aFf (fuel := fuel) (x := ⟨c, b, la, lv, td⟩) (n := m.toNat) (l := l) hf hp hi (by rw [hmn]; exact hl) hla (by omega) (by omega) (by dsimp only; omega)
   rw [hmn] at hfo
   have hsc := aAe hi l
   have hrest : ∀ z, pA fuel (⟨(⟨c.Free, c.Defs, c.Code, c.Main⟩ : CodeProg), b, la, lv, td⟩ : Code_checker) m = some z → gV fuel (k + 1) c.Free c.Defs c.Code c.Main b la lv (td ++ [m]) = match z with
    | Sum.inr pv11 => ((unW 163 pv11).bind fun e16 => some (none, false)).bind fun r => some (Sum.inr r)
    | Sum.inl y15 => gV fuel k y15.CodeProg.Free y15.CodeProg.Defs y15.CodeProg.Code y15.CodeProg.Main y15.begins y15.last y15.levels y15.todo := fun z hz => by
    have e1 : ((td ++ [m]).length : Int) - 1 = (td.length : Int) := by simp
    rw [gV, if_pos (by simp), e1]
    refine b1 (aS (by omega)) ?_
    refine b1 (bR td [] m) ?_
    refine b1 (aS (by omega)) ?_
    refine b1 (vF td [m]) ?_
    refine b1 hz ?_
    cases z <;> rfl
   cases hs : scI c m.toNat (c.Code[m.toNat]'(by omega)) l with
   | none =>
    rw [hs] at hfo hsc
    refine .inr ⟨?_, m, l, r1, .inl hsc⟩
    rw [hrest _ hfo]; rfl
   | some s =>
    rw [hs] at hfo hsc
    dsimp only at hfo
    have hsane := aBq hp
    have hrs : ∀ p ∈ s, 0 ≤ p.1 ∧ p.1 < (c.Code.length : Int) := fun p hp' => (hsane m l s r2.1 r2.2 r3.1 r4.1 hsc p hp').1
    have hpp := zA (n := c.Code.length) s ⟨c, b, la, lv, td⟩ hrs hk
    dsimp only at hpp
    cases hps : psh lv.get td s with
    | none =>
     rw [hps] at hpp
     dsimp only at hpp
     refine .inr ⟨?_, hI.bad hl hsc (fun _ => Iff.rfl) hps⟩
     rw [hrest _ hfo, hpp]; rfl
    | some ft =>
     obtain ⟨f, td'⟩ := ft
     rw [hps] at hpp
     obtain ⟨lv', p1, p2, p3⟩ := hpp
     obtain ⟨i1, i2⟩ := hI.step hsane hl hsc (fun _ => Iff.rfl) hps
     subst p2
     rw [hrest _ hfo, p1]
     exact pl2 hf hp rfl hla k lv' td' (B + 1000) p3 i1 (by omega) (by omega) (by omega)
open Classical in
theorem pl1 {fuel n : Nat} {c : CodeProg} {F M : Int} {D : List ScopeDef} {C : List CodeIns} {b la td : List Int} {lv : aE Int CodeLevel} (hf : 4000000 ≤ fuel) (suf : List ScopeDef) : ∀ (pre : List ScopeDef) (k : Nat), c.Defs = pre ++ suf → suf.length < k → pre.length + suf.length ≤ 3000000 → (∀ d ∈ suf, smD d) →
 lH fuel c k (pre.length : Int) F D C M b la lv td = some (if ∀ d ∈ suf, okD d ∧ inD C.length d then .inl (F, D, C, M, b, la, lv, td) else .inr (none, false)) := by
 induction suf with
 | nil =>
  intro pre k h hk _ _
  obtain _ | k := k
  ·omega
  rw [lH, h, if_neg (by simp), if_pos (fun d h => by cases h)]
 | cons e suf ih =>
  intro pre k h hk hB hs
  obtain _ | k := k
  ·omega
  simp only [List.length_cons] at hk hB
  rw [lH, h, if_pos (bT _ _ _), bR, bsm]
  refine b1 (aE5 (x := ⟨⟨F, D, C, M⟩, b, la, lv, td⟩) (d := e) hf (hs e (.head _))) ?_
  dsimp only
  by_cases g : okD e ∧ inD C.length e
  ·rw [if_pos g]
   dsimp only
   rw [aS (by omega), bsm, cA pre e, ih (pre ++ [e]) k (by rw [h]; simp) (by omega) (by simp; omega) (fun d hd => hs d (.tail _ hd))]
   have : (∀ d ∈ e :: suf, okD d ∧ inD C.length d) ↔ ∀ d ∈ suf, okD d ∧ inD C.length d := ⟨fun q d hd => q d (.tail _ hd), fun q d hd => by
    cases hd with
    | head => exact g
    | tail _ hd => exact q d hd⟩
   by_cases q : ∀ d ∈ suf, okD d ∧ inD C.length d
   ·rw [if_pos q, if_pos (this.2 q)]
   ·rw [if_neg q, if_neg (fun z => q (this.1 z))]
  ·rw [if_neg g, if_neg (fun q : ∀ d ∈ e :: suf, okD d ∧ inD C.length d => g (q e (.head _)))]; rfl
structure jN (c : CodeProg) : Prop where
 free : 0 ≤ c.Free ∧ c.Free ≤ 12
 defs : c.Defs.length ≤ 12
 code : 0 < c.Code.length ∧ c.Code.length ≤ 12000
 main : 0 ≤ c.Main ∧ c.Main < (c.Code.length : Int)
 okD : ∀ d ∈ c.Defs, okD d ∧ inD c.Code.length d
 ins : (fW c.Defs.length c.Code.length 0 c.Code ∧ dO [] c.Code) ∧ (dW [] c.Code).length = c.Defs.length
 bl : okB c
theorem uV {dl len : Nat} : ∀ {l : List CodeIns} {n : Nat}, fW dl len n l ↔ ∀ (j : Nat) i, l[j]? = some i → okI dl len ((n + j : Nat) : Int) i ∧ inI len i
 | [], n => by simp [fW]
 | e :: l, n => by
  simp only [fW, uV (l := l)]
  constructor
  ·rintro ⟨h1, h2⟩ j i hj
   cases j with
   | zero => simp at hj; subst hj; exact h1
   | succ j => have := h2 j i (by simpa using hj); rwa [show n + 1 + j = n + (j + 1) by omega] at this
  ·intro h
   refine ⟨h 0 e rfl, fun j i hj => ?_⟩
   have := h (j + 1) i (by simpa using hj)
   rwa [show n + (j + 1) = n + 1 + j by omega] at this
theorem jN.pre {c : CodeProg} (h : jN c) (hl : c.Code.length ≤ 400) : Pre c where
 len := hl
 defs := h.defs
 okD := h.okD
 okI := fun n i hi => by have := uV.1 h.ins.1.1 n i hi; rwa [Nat.zero_add] at this
 end_ := fun i hi => by
  have := h.bl.2.2
  rw [zU hi] at this
  exact of_decide_eq_true this
theorem smB_of {c : CodeProg} (hd : c.Defs.length ≤ 12) (hl : c.Code.length ≤ 400) (hp : ∀ d ∈ c.Defs, okD d) : SmB c := ⟨by omega, hd, fun d h => ⟨(hp d h).1.2.2, (hp d h).1.2.1⟩⟩
def oE (c : CodeProg) : Prop := jN c ∧ ¬ Bad (scP c) c.Main ⟨0, c.Free⟩ ∧ ∀ i : Nat, i < c.Code.length → ∃ l, R (scP c) c.Main ⟨0, c.Free⟩ (i : Int) l
theorem aAr {c : Prop} [Decidable c] (h : ¬ c) : bH (decide c) = some (.inr W) := by rw [decide_eq_false h]; rfl
theorem start {c : CodeProg} {f : FT} (hb : jN c) (h : f = fup (fun _ => none) c.Main ⟨0, c.Free⟩) : LvI (scP c) c.Code.length c.Main ⟨0, c.Free⟩ f [c.Main] 12 := by
 subst h
 have h1 : ∀ m l, fup (fun _ => none) c.Main ⟨0, c.Free⟩ m = some l → m = c.Main ∧ l = ⟨0, c.Free⟩ := fun m l hm => by
  unfold fup at hm
  split at hm
  ·cases hm; exact ⟨by assumption, rfl⟩
  ·cases hm
 refine ⟨fun m hm => ⟨⟨0, c.Free⟩, if_pos (List.mem_singleton.1 hm)⟩, fun m l hm => ?_, fun m l hm hn => ?_, if_pos rfl⟩
 ·obtain ⟨rfl, rfl⟩ := h1 m l hm
  exact ⟨.base, hb.main, by simp, hb.free⟩
 ·obtain ⟨rfl, rfl⟩ := h1 m l hm
  exact absurd (List.mem_singleton.2 rfl) hn
theorem aDt {fuel : Nat} {c : CodeProg} (hf : 4000000 ≤ fuel) (hl : c.Code.length ≤ 400) (hd : ∀ d ∈ c.Defs, smD d) :
 (oE c ∧ ∃ x, dY fuel c = some (some x, true) ∧ ∀ (i : Nat) l, x.levels.get (i : Int) = some l ↔ R (scP c) c.Main ⟨0, c.Free⟩ (i : Int) l) ∨ (¬ oE c ∧ dY fuel c = some (none, false)) := by
 have hno : ¬ jN c → dY fuel c = some (none, false) → (oE c ∧ ∃ x, dY fuel c = some (some x, true) ∧ ∀ (i : Nat) l, x.levels.get (i : Int) = some l ↔ R (scP c) c.Main ⟨0, c.Free⟩ (i : Int) l) ∨ (¬ oE c ∧ dY fuel c = some (none, false)) := fun h1 h2 => .inr ⟨fun g => h1 g.1, h2⟩
 by_cases h1 : 0 ≤ c.Free
 rotate_left
 ·refine hno (fun g => h1 g.free.1) ?_
  rw [dY, if_neg h1]; rfl
 by_cases h2 : c.Free ≤ 12
 rotate_left
 ·refine hno (fun g => h2 g.free.2) ?_
  rw [dY, if_pos h1, if_neg h2]; rfl
 by_cases h3 : (c.Defs.length : Int) ≤ 12
 rotate_left
 ·refine hno (fun g => h3 (by have := g.defs; omega)) ?_
  rw [dY, if_pos h1, if_pos h2, if_neg h3]; rfl
 by_cases h4 : 0 < (c.Code.length : Int)
 rotate_left
 ·refine hno (fun g => h4 (by have := g.code; omega)) ?_
  rw [dY, if_pos h1, if_pos h2, if_pos h3, if_neg h4]; rfl
 by_cases h5 : (c.Code.length : Int) ≤ 12000
 rotate_left
 ·refine hno (fun g => h5 (by have := g.code; omega)) ?_
  rw [dY, if_pos h1, if_pos h2, if_pos h3, if_pos h4, if_neg h5]; rfl
 by_cases h6 : 0 ≤ c.Main ∧ c.Main < (c.Code.length : Int)
 rotate_left
 ·refine hno (fun g => h6 g.main) ?_
  rw [dY, if_pos h1, if_pos h2, if_pos h3, if_pos h4, if_pos h5]
  refine bb (nC _ _) ?_
  refine bb (aAr h6) ?_
  rfl
 have hins : ∀ x : Code_checker, x.CodeProg = c → jB x c.Main = some (x, true) := fun x hx => by rw [nC, hx, decide_eq_true h6]
 have e1 := pl1 (fuel := fuel) (n := 0) (c := c) (F := c.Free) (M := c.Main) (D := c.Defs) (C := c.Code) (b := []) (la := []) (td := []) (lv := aE.none) hf c.Defs [] fuel rfl (by omega) (by simp; omega) hd
 simp only [List.length_nil, Int.natCast_zero] at e1
 by_cases h7 : ∀ d ∈ c.Defs, okD d ∧ inD c.Code.length d
 rotate_left
 ·refine hno (fun g => h7 g.okD) ?_
  rw [if_neg h7] at e1
  rw [dY, if_pos h1, if_pos h2, if_pos h3, if_pos h4, if_pos h5]
  refine bb (hins _ rfl) ?_
  refine bb dP ?_
  refine b1 rfl ?_
  dsimp only
  refine b1 e1 ?_
  rfl
 rw [if_pos h7] at e1
 have e2 := aEt (fuel := fuel) (x := ⟨c, [], [], aE.none, []⟩) hf (by dsimp only; omega)
 dsimp only at e2
 by_cases h8 : (fW c.Defs.length c.Code.length 0 c.Code ∧ dO [] c.Code) ∧ (dW [] c.Code).length = c.Defs.length
 rotate_left
 ·refine hno (fun g => h8 g.ins) ?_
  rw [if_neg h8] at e2
  rw [dY, if_pos h1, if_pos h2, if_pos h3, if_pos h4, if_pos h5]
  refine bb (hins _ rfl) ?_
  refine bb dP ?_
  refine b1 rfl ?_
  dsimp only
  refine b1 e1 ?_
  dsimp only
  refine b1 e2 ?_
  rfl
 rw [if_pos h8] at e2
 have hsm := smB_of (by omega) hl fun d hd => (h7 d hd).1
 obtain ⟨la, e3, hla⟩ := aD3 (fuel := fuel) (x := ⟨c, [], [], aE.none, []⟩) hf hsm (by intro g; dsimp only at g; rw [g] at h4; simp at h4)
 dsimp only at e3 hla
 by_cases h9 : okB c
 rotate_left
 ·refine hno (fun g => h9 g.bl) ?_
  rw [if_neg h9] at e3
  rw [dY, if_pos h1, if_pos h2, if_pos h3, if_pos h4, if_pos h5]
  refine bb (hins _ rfl) ?_
  refine bb dP ?_
  refine b1 rfl ?_
  dsimp only
  refine b1 e1 ?_
  dsimp only
  refine b1 e2 ?_
  dsimp only
  refine b1 e3 ?_
  rfl
 rw [if_pos h9] at e3
 have hbasic : jN c := ⟨⟨h1, h2⟩, by omega, ⟨by omega, by omega⟩, h6, h7, h8, h9⟩
 have hpre := hbasic.pre hl
 have e4 := fJ (x := ⟨c, bV (bgs c), la, aE.none, []⟩) (m := c.Main) (l := ⟨0, c.Free⟩) (by simp)
 have e4' : cY ⟨c, bV (bgs c), la, aE.none, []⟩ [(c.Main, ⟨0, c.Free⟩)] = .inl ⟨c, bV (bgs c), la, aE.none.upd c.Main ⟨0, c.Free⟩, [c.Main]⟩ := rfl
 rw [e4'] at e4
 have hst := start (f := (aE.none.upd c.Main (⟨0, c.Free⟩ : CodeLevel)).get) hbasic rfl
 have hcl := nY (aE.none.upd c.Main (⟨0, c.Free⟩ : CodeLevel)).get c.Code.length
 have e5 := pl2 (fuel := fuel) (n := c.Code.length) (c := c) (b := bV (bgs c)) (la := la) hf hpre rfl (hla h9).2 fuel (aE.none.upd c.Main ⟨0, c.Free⟩) [c.Main] 12 ((eZ.none _).upd h6) hst (by simp only [List.length_singleton]; omega) (by omega) (by simp only [List.length_singleton]; omega)
 rcases e5 with ⟨lv, B, e5, hk, hI⟩ | ⟨e5, hbad⟩
 ·have hcl := hI.closed
  by_cases h10 : (lv.size : Int) = (c.Code.length : Int)
  ·refine .inl ⟨⟨hbasic, hI.good, fun i hi => ?_⟩, ⟨c, bV (bgs c), la, lv, []⟩, ?_, fun i l => (hcl _ _).symm⟩
   ·have := hk.full.1 (by omega) i hi
    obtain ⟨l, hl⟩ := Option.isSome_iff_exists.1 this
    exact ⟨l, (hcl _ _).2 hl⟩
   ·rw [dY, if_pos h1, if_pos h2, if_pos h3, if_pos h4, if_pos h5]
    refine bb (hins _ rfl) ?_
    refine bb dP ?_
    refine b1 rfl ?_
    dsimp only
    refine b1 e1 ?_
    dsimp only
    refine b1 e2 ?_
    dsimp only
    refine b1 e3 ?_
    dsimp only
    refine b1 e4 ?_
    dsimp only
    refine b1 e5 ?_
    dsimp only
    refine b1 (z := .inl ()) (by rw [decide_eq_true h10]; rfl) ?_
    rfl
  ·refine .inr ⟨fun g => h10 ?_, ?_⟩
   ·have := hk.full.2 fun i hi => by
     obtain ⟨l, hl⟩ := g.2.2 i hi
     rw [(hcl _ _).1 hl]; rfl
    omega
   ·rw [dY, if_pos h1, if_pos h2, if_pos h3, if_pos h4, if_pos h5]
    refine bb (hins _ rfl) ?_
    refine bb dP ?_
    refine b1 rfl ?_
    dsimp only
    refine b1 e1 ?_
    dsimp only
    refine b1 e2 ?_
    dsimp only
    refine b1 e3 ?_
    dsimp only
    refine b1 e4 ?_
    dsimp only
    refine b1 e5 ?_
    dsimp only
    refine b1 (aAr h10) ?_
    rfl
 ·refine .inr ⟨fun g => g.2.1 hbad, ?_⟩
  rw [dY, if_pos h1, if_pos h2, if_pos h3, if_pos h4, if_pos h5]
  refine bb (hins _ rfl) ?_
  refine bb dP ?_
  refine b1 rfl ?_
  dsimp only
  refine b1 e1 ?_
  dsimp only
  refine b1 e2 ?_
  dsimp only
  refine b1 e3 ?_
  dsimp only
  refine b1 e4 ?_
  dsimp only
  refine b1 e5 ?_
  rfl
open Go.SX Go.SW Go.Dt
def oU (c : CodeProg) : Prop := ∀ (n : Nat) i, c.Code[n]? = some i → dR c.Code n i
open Classical in
theorem rs1 {fuel : Nat} {c : CodeProg} (hf : 4000000 ≤ fuel) (suf : List ScopeDef) : ∀ (pre : List ScopeDef) (k : Nat), c.Defs = pre ++ suf → suf.length < k → pre.length + suf.length ≤ 3000000 → (∀ d ∈ suf, smD d) →
 lF fuel c k (pre.length : Int) = some (if ∀ d ∈ suf, okD d then .inl () else .inr false) := by
 induction suf with
 | nil =>
  intro pre k h hk _ _
  obtain _ | k := k
  ·omega
  rw [lF, h, if_neg (by simp), if_pos (fun d h => by cases h)]
 | cons e suf ih =>
  intro pre k h hk hB hs
  obtain _ | k := k
  ·omega
  simp only [List.length_cons] at hk hB
  rw [lF, h, if_pos (bT _ _ _), bR, bsm, parts_eq hf (hs e (.head _)), bsm]
  by_cases g : okD e
  ·rw [decide_eq_true g, cond_true, aS (by omega), bsm, cA pre e, ih (pre ++ [e]) k (by rw [h]; simp) (by omega) (by simp; omega) (fun d hd => hs d (.tail _ hd))]
   have : (∀ d ∈ e :: suf, okD d) ↔ ∀ d ∈ suf, okD d := ⟨fun q d hd => q d (.tail _ hd), fun q d hd => by
    cases hd with
    | head => exact g
    | tail _ hd => exact q d hd⟩
   by_cases q : ∀ d ∈ suf, okD d
   ·rw [if_pos q, if_pos (this.2 q)]
   ·rw [if_neg q, if_neg (fun z => q (this.1 z))]
  ·rw [decide_eq_false g, cond_false, if_neg (fun q : ∀ d ∈ e :: suf, okD d => g (q e (.head _)))]; rfl
open Classical in
theorem rs2 {fuel : Nat} {c : CodeProg} (hf : 4000000 ≤ fuel) (hl : c.Code.length ≤ 2000000) : ∀ (k n : Nat), n ≤ c.Code.length → c.Code.length - n < k → kD fuel c k (n : Int) = some (if ∀ (j : Nat) i, n ≤ j → c.Code[j]? = some i → okI c.Defs.length c.Code.length j i ∧ dR c.Code j i then .inl () else .inr false)
 | 0, _, _, hk => by omega
 | k + 1, n, hn, hk => by
  by_cases h : n < c.Code.length
  ·have hi := List.getElem?_eq_getElem h
   rw [kD, if_pos (by omega)]
   refine b1 (aDy (c := c) hf hl hi) ?_
   by_cases g : okI c.Defs.length c.Code.length n c.Code[n] ∧ dR c.Code n c.Code[n]
   ·rw [decide_eq_true g, cond_true, aS (by omega), bsm]
    have := rs2 hf hl k (n + 1) (by omega) (by omega)
    rw [show (n : Int) + 1 = ((n + 1 : Nat) : Int) by omega, this]
    have e : (∀ (j : Nat) i, n + 1 ≤ j → c.Code[j]? = some i → okI c.Defs.length c.Code.length j i ∧ dR c.Code j i) ↔ (∀ (j : Nat) i, n ≤ j → c.Code[j]? = some i → okI c.Defs.length c.Code.length j i ∧ dR c.Code j i) := ⟨fun q j i h1 h2 => by
     by_cases z : j = n
     ·subst z; rw [hi] at h2; cases h2; exact g
     ·exact q j i (by omega) h2, fun q j i h1 h2 => q j i (by omega) h2⟩
    by_cases q : (∀ (j : Nat) i, n + 1 ≤ j → c.Code[j]? = some i → okI c.Defs.length c.Code.length j i ∧ dR c.Code j i)
    ·rw [if_pos q, if_pos (e.1 q)]
    ·rw [if_neg q, if_neg (fun z => q (e.2 z))]
   ·rw [decide_eq_false g, cond_false, if_neg (fun q : (∀ (j : Nat) i, n ≤ j → c.Code[j]? = some i → okI c.Defs.length c.Code.length j i ∧ dR c.Code j i) => g (q n _ (Nat.le_refl _) hi))]; rfl
  ·rw [kD, if_neg (by omega), if_pos (fun j i h1 h2 => by have := (List.getElem?_eq_some_iff.1 h2).1; omega)]
theorem aAJ {i : CodeIns} : ∀ {l : List CodeIns}, i ∈ l → (i.Op = 13 ∨ i.Op = 15) → i.B ∈ onB l
 | e :: l, h, ho => by
  rw [onB]
  cases h with
  | head => rw [if_pos (show isOn i = true from decide_eq_true ho)]; simp
  | tail _ h => exact List.mem_append_right _ (aAJ h ho)
theorem bgs_in {c : CodeProg} (hb : okB c) : (0 ≤ c.Main ∧ c.Main < (c.Code.length : Int)) ∧ (∀ d ∈ c.Defs, inD c.Code.length d) ∧ ∀ i ∈ c.Code, inI c.Code.length i := by
 have h := (zE hb.1).1 hb
 have hr : ∀ b ∈ bgs c, 0 ≤ b ∧ b < (c.Code.length : Int) := fun b hb => ⟨(h.2.1 b hb).1, (h.2.1 b hb).2.1⟩
 refine ⟨hr _ (.head _), fun d hd => ⟨fun s hs => hr _ ?_, fun r h2 => hr _ ?_⟩, fun i hi ho => (hr _ ?_).2⟩
 ·exact .tail _ (List.mem_append_left _ (List.mem_flatMap.2 ⟨d, hd, List.mem_append_right _ (List.mem_map_of_mem hs)⟩))
 ·exact .tail _ (List.mem_append_left _ (List.mem_flatMap.2 ⟨d, hd, List.mem_append_left _ (List.mem_map_of_mem h2)⟩))
 ·exact .tail _ (List.mem_append_right _ (aAJ hi ho))
open Classical in
theorem still_eq {fuel : Nat} {c : CodeProg} (hf : 4000000 ≤ fuel) (hl : c.Code.length ≤ 400) (hd : ∀ d ∈ c.Defs, smD d) : rN fuel c = some (decide (jN c ∧ oU c)) := by
 have hno : ∀ {r : Option Bool}, r = some false → ¬ (jN c ∧ oU c) → r = some (decide (jN c ∧ oU c)) := fun h1 h2 => by rw [h1, decide_eq_false h2]
 rw [rN]
 by_cases h1 : c.Free < 0
 ·rw [if_pos h1]; exact hno rfl fun g => by have := g.1.free; omega
 rw [if_neg h1]
 by_cases h2 : 12 < c.Free
 ·rw [if_pos h2]; exact hno rfl fun g => by have := g.1.free; omega
 rw [if_neg h2]
 by_cases h3 : 12 < (c.Defs.length : Int)
 ·rw [if_pos h3]; exact hno rfl fun g => by have := g.1.defs; omega
 rw [if_neg h3]
 by_cases h4 : (c.Code.length : Int) < 1
 ·rw [if_pos h4]; exact hno rfl fun g => by have := g.1.code; omega
 rw [if_neg h4]
 by_cases h5 : 12000 < (c.Code.length : Int)
 ·rw [if_pos h5]; exact hno rfl fun g => by have := g.1.code; omega
 rw [if_neg h5]
 have e1 := rs1 (fuel := fuel) (c := c) hf c.Defs [] fuel rfl (by omega) (by simp; omega) hd
 have e2 := rs2 (fuel := fuel) (c := c) hf (by omega) fuel 0 (by omega) (by omega)
 simp only [List.length_nil, Int.natCast_zero, Nat.zero_le, true_implies] at e1 e2
 by_cases h6 : ∀ d ∈ c.Defs, okD d
 rotate_left
 ·rw [if_neg h6] at e1
  refine b1 e1 ?_
  exact hno rfl fun g => h6 fun d hd => (g.1.okD d hd).1
 rw [if_pos h6] at e1
 refine b1 e1 ?_
 dsimp only
 by_cases h7 : ∀ (j : Nat) i, c.Code[j]? = some i → okI c.Defs.length c.Code.length j i ∧ dR c.Code j i
 rotate_left
 ·rw [if_neg h7] at e2
  refine b1 e2 ?_
  exact hno rfl fun g => h7 fun j i hi => ⟨by have := (uV.1 g.1.ins.1.1 j i hi).1; rwa [Nat.zero_add] at this, g.2 j i hi⟩
 rw [if_pos h7] at e2
 refine b1 e2 ?_
 dsimp only
 have hsm := smB_of (by omega) hl h6
 have hne : c.Code ≠ [] := fun g => by rw [g] at h4; simp at h4
 refine bb (aEw (c := c) hf hsm hne) ?_
 by_cases h8 : okB c
 rotate_left
 ·rw [decide_eq_false h8, cond_false]
  exact hno rfl fun g => h8 g.1.bl
 rw [decide_eq_true h8, cond_true]
 obtain ⟨b1', b2, b3⟩ := bgs_in h8
 refine bb (once_eq (c := c) hf (by omega) (by omega) (fun i hi ho => by
  obtain ⟨j, hj⟩ := List.mem_iff_getElem?.1 hi
  have := (h7 j i hj).1
  exact ⟨(this.pos (by omega)).1, this.df ho⟩)) ?_
 refine b1 rfl ?_
 congr 1
 rw [decide_eq_decide]
 constructor
 ·rintro ⟨g1, g2⟩
  exact ⟨⟨by omega, by omega, by omega, b1', fun d hd => ⟨h6 d hd, b2 d hd⟩, ⟨⟨uV.2 fun j i hi => ⟨by rw [Nat.zero_add]; exact (h7 j i hi).1, b3 i (List.mem_of_getElem? hi)⟩, g1⟩, g2⟩, h8⟩, fun j i hi => (h7 j i hi).2⟩
 ·rintro ⟨g, _⟩
  exact ⟨g.ins.1.2, g.ins.2⟩
open Classical in
noncomputable def to1 (f : Ref09_flow) (p : Int × CodeLevel) : Ref09_flow := match f.levels[p.1.toNat]? with
 | none => f
 | some l' => if l'.Stack < 0 then ⟨f.levels.set p.1.toNat p.2, f.wait ++ [p.1], f.wrong⟩ else ⟨f.levels, f.wait, f.wrong || !decide (l' = p.2)⟩
noncomputable def tos (f : Ref09_flow) (s : List (Int × CodeLevel)) : Ref09_flow := s.foldl to1 f
theorem aC2 (f : Ref09_flow) (s t : List (Int × CodeLevel)) : tos f (s ++ t) = tos (tos f s) t := List.foldl_append
theorem qT (f : Ref09_flow) (p : Int × CodeLevel) (s : List (Int × CodeLevel)) : tos f (p :: s) = tos (to1 f p) s := rfl
theorem qI (f : Ref09_flow) (p : Int × CodeLevel) : (to1 f p).levels.length = f.levels.length ∧ (to1 f p).wait.length ≤ f.wait.length + 1 := by
 unfold to1
 split
 ·exact ⟨rfl, by omega⟩
 ·split <;> simp
theorem uQ : ∀ (s : List (Int × CodeLevel)) (f : Ref09_flow), (tos f s).levels.length = f.levels.length ∧ (tos f s).wait.length ≤ f.wait.length + s.length
 | [], f => ⟨rfl, by simp [tos]⟩
 | p :: s, f => by
  have h1 := qI f p
  have h2 := uQ s (to1 f p)
  rw [qT, List.length_cons]; omega
open Classical in
theorem fN {f : Ref09_flow} {m a b : Int} (hm : 0 ≤ m ∧ m < (f.levels.length : Int)) (hw : f.wait.length ≤ 10000000) : eM f m a b = some (to1 f (m, ⟨a, b⟩)) := by
 have hi := dF hm.1 hm.2
 have hi2 : f.levels[m.toNat]? = some (f.levels[m.toNat]'(by omega)) := List.getElem?_eq_getElem _
 rw [eM, hi, bsm, to1, hi2]
 dsimp only
 generalize f.levels[m.toNat]'(by omega) = l'
 by_cases h : l'.Stack < 0
 ·rw [if_pos h, if_pos h, bsm, iL (by simp; omega), bsm]
 ·rw [if_neg h, if_neg h, bsm]
  cases f.wrong with
  | true => rfl
  | false =>
   rw [cond_false, Bool.false_or, ← Bool.decide_and]
   congr 3
   rw [decide_eq_decide]
   exact (xY (a := l') (b := ⟨a, b⟩)).symm
def dZ (lv : List CodeLevel) : FT := fun m => if 0 ≤ m then match lv[m.toNat]? with
 | some l => if l.Stack < 0 then none else some l
 | none => none else none
theorem aBh {lv : List CodeLevel} {m : Int} {l : CodeLevel} (hm : 0 ≤ m ∧ m < (lv.length : Int)) (hl : 0 ≤ l.Stack) : dZ (lv.set m.toNat l) = fup (dZ lv) m l := by
 funext x
 simp only [dZ, fup]
 by_cases h0 : 0 ≤ x
 ·rw [if_pos h0, if_pos h0]
  by_cases e : x = m
  ·subst e
   rw [if_pos rfl, List.getElem?_set_self (by omega)]
   dsimp only
   rw [if_neg (by omega)]
  ·rw [if_neg e, List.getElem?_set_ne (by omega)]
 ·rw [if_neg h0, if_neg h0, if_neg (by omega)]
theorem aAC : ∀ (s : List (Int × CodeLevel)) (f : Ref09_flow), f.wrong = true → (tos f s).wrong = true
 | [], f, h => h
 | p :: s, f, h => by
  rw [qT]
  refine aAC s _ ?_
  unfold to1
  split
  ·exact h
  ·split
   ·exact h
   ·simp [h]
open Classical in
theorem yG : ∀ (s : List (Int × CodeLevel)) (f : Ref09_flow), f.wrong = false → (∀ p ∈ s, (0 ≤ p.1 ∧ p.1 < (f.levels.length : Int)) ∧ 0 ≤ p.2.Stack) → (match psh (dZ f.levels) f.wait s with | none => (tos f s).wrong = true | some (g, td) => ∃ lv, tos f s = ⟨lv, td, false⟩ ∧ dZ lv = g ∧ lv.length = f.levels.length)
 | [], f, hw, _ => ⟨f.levels, by obtain ⟨a, b, c⟩ := f; simp only at hw; subst hw; rfl, rfl, rfl⟩
 | p :: s, f, hw, hr => by
  obtain ⟨h1, h2⟩ := hr p (.head _)
  have hr' : ∀ q ∈ s, (0 ≤ q.1 ∧ q.1 < (f.levels.length : Int)) ∧ 0 ≤ q.2.Stack := fun q hq => hr q (.tail _ hq)
  have hi2 : f.levels[p.1.toNat]? = some (f.levels[p.1.toNat]'(by omega)) := List.getElem?_eq_getElem _
  rw [psh, qT, to1, hi2]
  dsimp only
  have habs : dZ f.levels p.1 = if (f.levels[p.1.toNat]'(by omega)).Stack < 0 then none else some (f.levels[p.1.toNat]'(by omega)) := by
   unfold dZ; rw [if_pos h1.1, hi2]
  rw [habs]
  generalize f.levels[p.1.toNat]'(by omega) = l'
  by_cases h : l'.Stack < 0
  ·rw [if_pos h, if_pos h]
   dsimp only
   have := yG s ⟨f.levels.set p.1.toNat p.2, f.wait ++ [p.1], f.wrong⟩ hw (fun q hq => by rw [List.length_set]; exact hr' q hq)
   rw [aBh h1 h2, List.length_set] at this
   exact this
  ·rw [if_neg h, if_neg h]
   dsimp only
   by_cases e : l' = p.2
   ·rw [if_pos e, decide_eq_true e, hw]
    exact yG s ⟨f.levels, f.wait, false⟩ rfl hr'
   ·rw [if_neg e, decide_eq_false e]
    exact aAC s _ (by simp)
theorem rf1 {d : ScopeDef} {a : Int} (suf : List ScopeSpot) : ∀ (pre : List ScopeSpot) (k : Nat) (f : Ref09_flow), d.Spots = pre ++ suf → suf.length < k → pre.length + suf.length ≤ 3000000 → f.wait.length + suf.length ≤ 9000000 → (∀ s ∈ suf, 0 ≤ s.Node ∧ s.Node < (f.levels.length : Int)) →
 jV d a k (pre.length : Int) f.levels f.wait f.wrong = some ((tos f (suf.map fun s => (s.Node, (⟨0, a⟩ : CodeLevel)))).levels, (tos f (suf.map fun s => (s.Node, (⟨0, a⟩ : CodeLevel)))).wait, (tos f (suf.map fun s => (s.Node, (⟨0, a⟩ : CodeLevel)))).wrong) := by
 induction suf with
 | nil =>
  intro pre k f h hk _ _ _
  obtain _ | k := k
  ·omega
  rw [jV, h, if_neg (by simp)]; rfl
 | cons e suf ih =>
  intro pre k f h hk hB hT hr
  obtain _ | k := k
  ·omega
  simp only [List.length_cons] at hk hB hT
  have hl := qI f (e.Node, ⟨0, a⟩)
  rw [jV, h, if_pos (bT _ _ _), bR, bsm]
  refine b1 (fN (f := f) (hr e (.head _)) (by omega)) ?_
  rw [aS (by omega), bsm, cA pre e, List.map_cons, qT]
  exact ih (pre ++ [e]) k _ (by rw [h]; simp) (by omega) (by simp; omega) (by omega) (fun s hs => by rw [hl.1]; exact hr s (.tail _ hs))
theorem rf3 {d : ScopeDef} {r : ScopeRule} {x : Int} (hx : idx d.Rules x = some r) {n : Nat} (hc : ∀ c ∈ d.Chans, fA n c) {at_ : Int} (suf : List Int) : ∀ (pre pre' : List Int) (k : Nat) (acc : Int), r.Joins = pre ++ suf → dX d.Chans at_ pre' suf → suf.length < k → pre.length + suf.length ≤ 3000000 → 0 ≤ acc ∧ acc + 3 * (suf.length : Int) ≤ 1000000000 → lB d x k acc (pre.length : Int) = some (acc + eT d.Chans suf) := by
 induction suf with
 | nil =>
  intro pre pre' k acc h _ hk _ _
  obtain _ | k := k
  ·omega
  rw [lB, hx, bsm, h, if_neg (by simp), eT]; simp
 | cons e suf ih =>
  intro pre pre' k acc h hj hk hB ha
  obtain _ | k := k
  ·omega
  simp only [List.length_cons] at hk hB ha
  obtain ⟨⟨j1, j2, ⟨c, c1, _⟩, _⟩, hj2⟩ := hj
  have hm := hc c (List.mem_of_getElem? c1)
  have hm1 := hm.2.2.1
  have hm2 := hm.2.2.2
  have hix : idx d.Chans e = some c := by
   have := fB c1
   rwa [show ((e.toNat : Nat) : Int) = e by omega] at this
  rw [lB, hx, bsm, h, if_pos (bT _ _ _), bsm, h, bR, bsm, hix, bsm, aS (by omega), bsm, aS (by omega), bsm, cA pre e, ih (pre ++ [e]) _ k _ (by rw [h]; simp) hj2 (by omega) (by simp; omega) (by omega)]
  simp only [eT, c1]
  congr 1; omega
theorem rf2 {fuel : Nat} {d : ScopeDef} (hf : 4000000 ≤ fuel) (hok : okD d) {a : Int} (ha : 0 ≤ a ∧ a ≤ 100000000) (suf : List ScopeRule) : ∀ (pre : List ScopeRule) (k : Nat) (f : Ref09_flow), d.Rules = pre ++ suf → suf.length < k → pre.length + suf.length ≤ 3000000 → f.wait.length + suf.length ≤ 9000000 → (∀ r ∈ suf, 0 ≤ r.Node ∧ r.Node < (f.levels.length : Int)) →
 lI fuel d a k (pre.length : Int) f.levels f.wait f.wrong = some (tos f (suf.map fun r => (r.Node, (⟨0, a + eT d.Chans r.Joins⟩ : CodeLevel)))) := by
 induction suf with
 | nil =>
  intro pre k f h hk _ _ _
  obtain _ | k := k
  ·omega
  rw [lI, h, if_neg (by simp)]; rfl
 | cons e suf ih =>
  intro pre k f h hk hB hT hr
  obtain _ | k := k
  ·omega
  simp only [List.length_cons] at hk hB hT
  have he := hok.2.2.2.1 e (by rw [h]; simp)
  have hl3 := he.1.2.2.2
  have hx : idx d.Rules (pre.length : Int) = some e := by rw [h, bR]
  have e3 := rf3 (d := d) (r := e) hx hok.2.1 e.Joins [] [] fuel a rfl he.2 (by omega) (by simp; omega) (by omega)
  have hl := qI f (e.Node, ⟨0, a + eT d.Chans e.Joins⟩)
  simp only [List.length_nil, Int.natCast_zero] at e3
  rw [lI, if_pos (by rw [h]; exact bT _ _ _)]
  refine bb e3 ?_
  refine bb hx ?_
  refine bb (fN (f := f) (hr e (.head _)) (by omega)) ?_
  refine b1 rfl ?_
  dsimp only
  rw [aS (by omega), bsm, cA pre e, List.map_cons, qT]
  exact ih (pre ++ [e]) k _ (by rw [h]; simp) (by omega) (by simp; omega) (by omega) (fun s hs => by rw [hl.1]; exact hr s (.tail _ hs))
theorem aDO {fuel : Nat} {d : ScopeDef} (hf : 4000000 ≤ fuel) (hok : okD d) {k : Int} (hk : 0 ≤ k ∧ k ≤ 10000000) {f : Ref09_flow} (hr : inD f.levels.length d) (ht : f.wait.length ≤ 1000000) : sK fuel f d k = some (tos f (gE d (k + (d.Chans.length + d.Spots.length : Nat)))) := by
 obtain ⟨⟨h1, h2, h3⟩, _⟩ := id hok
 have hl := uQ (d.Spots.map fun s => (s.Node, (⟨0, k + (d.Chans.length + d.Spots.length : Nat)⟩ : CodeLevel))) f
 rw [List.length_map] at hl
 have e1 := rf1 (d := d) (a := k + (d.Chans.length + d.Spots.length : Nat)) d.Spots [] fuel f rfl (by omega) (by simp; omega) (by omega) hr.1
 have e2 := rf2 (fuel := fuel) (d := d) hf hok (a := k + (d.Chans.length + d.Spots.length : Nat)) (by omega) d.Rules [] fuel (tos f (d.Spots.map fun s => (s.Node, (⟨0, k + (d.Chans.length + d.Spots.length : Nat)⟩ : CodeLevel)))) rfl (by omega) (by simp; omega) (by omega) (by rw [hl.1]; exact hr.2)
 simp only [List.length_nil, Int.natCast_zero] at e1 e2
 rw [sK, aS (by omega), bsm, aS (by omega), bsm, show k + (d.Chans.length : Int) + (d.Spots.length : Int) = k + (d.Chans.length + d.Spots.length : Nat) by omega]
 refine b1 e1 ?_
 dsimp only
 rw [e2, gE, aC2]
open Go.SX Go.SW Go.Dt
def isE (op : Int) : Prop := op = 13 ∨ op = 15 ∨ op = 14 ∨ op = 11 ∨ op = 16
def isS (op : Int) : Prop := op = 13 ∨ op = 15 ∨ op = 2 ∨ op = 8
instance {op : Int} : Decidable (isE op) := by unfold isE; infer_instance
instance {op : Int} : Decidable (isS op) := by unfold isS; infer_instance
def gD (op B : Int) : Int := if 3 ≤ op ∧ op ≤ 7 then 2 else if op = 9 then 1 else if op = 8 then B else 0
def mP (i : CodeIns) (l : CodeLevel) : Prop := l.Stack < gD i.Op i.B ∨ (isE i.Op ∧ 0 < l.Stack) ∨ (isS i.Op ∧ l.Slots ≤ i.A) ∨ (i.Op = 12 ∧ l.Slots < i.A)
theorem aBL (op B : Int) : ((pT op).bind fun y4 => bif y4 then some 2 else if op = 9 then some 1 else if op = 8 then some B else some 0) = some (gD op B) := by
 have h2 : pT op = some (decide (3 ≤ op ∧ op ≤ 7)) := by
  rw [pT]
  by_cases h : 3 ≤ op
  ·rw [if_pos h, bsm]; simp [h]
  ·rw [if_neg h, bsm]; simp [h]
 rw [h2, bsm, gD]
 by_cases h : 3 ≤ op ∧ op ≤ 7
 ·rw [decide_eq_true h, cond_true, if_pos h]
 ·rw [decide_eq_false h, cond_false, if_neg h]
  by_cases h9 : op = 9
  ·rw [if_pos h9, if_pos h9]
  ·rw [if_neg h9, if_neg h9]
   by_cases h8 : op = 8
   ·rw [if_pos h8, if_pos h8]
   ·rw [if_neg h8, if_neg h8]
theorem emp_eq (op : Int) : ((mI op).bind fun y5 => bif y5 then some true else if op = 14 then some true else if op = 11 then some true else some (decide (op = 16))) = some (decide (isE op)) := by
 rw [zC, bsm]
 by_cases h : op = 13 ∨ op = 15
 ·rw [decide_eq_true h, cond_true, decide_eq_true (show isE op by unfold isE; omega)]
 ·rw [decide_eq_false h, cond_false]
  by_cases h1 : op = 14
  ·rw [if_pos h1, decide_eq_true (show isE op by unfold isE; omega)]
  ·rw [if_neg h1]
   by_cases h2 : op = 11
   ·rw [if_pos h2, decide_eq_true (show isE op by unfold isE; omega)]
   ·rw [if_neg h2]; congr 1; rw [decide_eq_decide]; unfold isE; omega
theorem slo_eq (op : Int) : ((mI op).bind fun y6 => bif y6 then some true else if op = 2 then some true else some (decide (op = 8))) = some (decide (isS op)) := by
 rw [zC, bsm]
 by_cases h : op = 13 ∨ op = 15
 ·rw [decide_eq_true h, cond_true, decide_eq_true (show isS op by unfold isS; omega)]
 ·rw [decide_eq_false h, cond_false]
  by_cases h1 : op = 2
  ·rw [if_pos h1, decide_eq_true (show isS op by unfold isS; omega)]
  ·rw [if_neg h1]; congr 1; rw [decide_eq_decide]; unfold isS; omega
theorem grp12 (a : Int) : (if a = 1 then some (decide (a = 1)) else some (decide (a = 2))) = some (decide (a = 1 ∨ a = 2)) := by
 by_cases h : a = 1
 ·subst h; rfl
 ·rw [if_neg h]; simp [h]
theorem aEK {c : CodeProg} {n : Nat} {i : CodeIns} {l : CodeLevel} (h0 : 0 ≤ l.Stack) (hb : i.Op = 8 → 0 ≤ i.B) (h : mP i l) : scI c n i l = none := by
 unfold mP isE isS at h
 rw [scI]
 by_cases o1 : i.Op = 1
 ·unfold gD at h; rw [if_neg (by omega), if_neg (by omega), if_neg (by omega)] at h; omega
 rw [if_neg o1]
 by_cases o2 : i.Op = 2
 ·unfold gD at h; rw [if_neg (by omega), if_neg (by omega), if_neg (by omega)] at h
  rw [if_pos o2, if_neg (by omega)]
 rw [if_neg o2]
 by_cases o3 : 3 ≤ i.Op ∧ i.Op ≤ 7
 ·unfold gD at h; rw [if_pos o3] at h
  rw [if_pos o3, if_neg (by omega)]
 rw [if_neg o3]
 by_cases o8 : i.Op = 8
 ·unfold gD at h; rw [if_neg o3, if_neg (by omega), if_pos o8] at h
  rw [if_pos o8, if_neg (by omega)]
 rw [if_neg o8]
 by_cases o9 : i.Op = 9
 ·unfold gD at h; rw [if_neg o3, if_pos o9] at h
  rw [if_pos o9, if_neg (by rintro ⟨g, _⟩; omega)]
 unfold gD at h; rw [if_neg o3, if_neg o9, if_neg o8] at h
 rw [if_neg o9]
 by_cases o10 : i.Op = 10
 ·omega
 rw [if_neg o10]
 by_cases o11 : i.Op = 11
 ·rw [if_pos o11, if_neg (by omega)]
 rw [if_neg o11]
 by_cases o12 : i.Op = 12
 ·rw [if_pos o12, if_neg (by omega)]
 rw [if_neg o12]
 by_cases o13 : i.Op = 13 ∨ i.Op = 15
 ·rw [if_pos o13, if_neg (by omega)]
 rw [if_neg o13]
 by_cases o14 : i.Op = 14
 ·rw [if_pos o14, if_neg (by omega)]
 rw [if_neg o14, if_neg (by omega)]
theorem blk_eq {op S K A need : Int} {E T : Prop} [Decidable E] [Decidable T] {r : Ref09_flow} :
 (if S < need then
  (some r).bind fun r => some (Sum.inr r)
 else
  bif decide (E) then
   if 0 < S then
    (some r).bind fun r => some (Sum.inr r)
   else
    bif decide (T) then
     if K ≤ A then
      (some r).bind fun r => some (Sum.inr r)
     else
      if op = 12 then
       if K < A then
        (some r).bind fun r => some (Sum.inr r)
       else
        some (Sum.inl ())
      else
       some (Sum.inl ())
    else
     if op = 12 then
      if K < A then
       (some r).bind fun r => some (Sum.inr r)
      else
       some (Sum.inl ())
     else
      some (Sum.inl ())
  else
   bif decide (T) then
    if K ≤ A then
     (some r).bind fun r => some (Sum.inr r)
    else
     if op = 12 then
      if K < A then
       (some r).bind fun r => some (Sum.inr r)
      else
       some (Sum.inl ())
     else
      some (Sum.inl ())
   else
    if op = 12 then
     if K < A then
      (some r).bind fun r => some (Sum.inr r)
     else
      some (Sum.inl ())
    else
     some (Sum.inl ())) = some (if S < need ∨ (E ∧ 0 < S) ∨ (T ∧ K ≤ A) ∨ (op = 12 ∧ K < A) then (Sum.inr r : Unit ⊕ Ref09_flow) else Sum.inl ()) := by
 by_cases h1 : S < need
 ·rw [if_pos h1, if_pos (.inl h1)]; rfl
 rw [if_neg h1]
 by_cases h2 : E <;> by_cases h3 : 0 < S <;> by_cases h4 : T <;> by_cases h5 : K ≤ A <;> by_cases h6 : op = 12 <;> by_cases h7 : K < A <;> simp [h1, h2, h3, h4, h5, h6, h7]
theorem aD4 {fuel : Nat} {f : Ref09_flow} {c : CodeProg} {n : Nat} {i : CodeIns} {l : CodeLevel} (hi : c.Code[n]? = some i) (hl : f.levels[n]? = some l) (h : mP i l) : mD fuel f c (n : Int) = some ⟨f.levels, f.wait, true⟩ := by
 rw [mD]
 refine b1 (fB hl) ?_
 refine b1 (fB hl) ?_
 refine b1 (fB hi) ?_
 refine b1 (aBL _ _) ?_
 refine b1 (emp_eq _) ?_
 refine b1 (slo_eq _) ?_
 refine b1 blk_eq ?_
 unfold mP at h
 rw [if_pos h]
theorem from_eq {fuel : Nat} {f : Ref09_flow} {c : CodeProg} {n : Nat} {i : CodeIns} {l : CodeLevel} (hf : 4000000 ≤ fuel) (hp : Pre c) (hne : dR c.Code n i) (hi : c.Code[n]? = some i) (hl : f.levels[n]? = some l) (hlen : f.levels.length = c.Code.length)
 (hS : 0 ≤ l.Stack ∧ l.Stack ≤ 10000000) (hK : 0 ≤ l.Slots ∧ l.Slots ≤ 10000000) (ht : f.wait.length ≤ 100000) (h : ¬ mP i l) :
 ∃ s s', scI c n i l = some s ∧ (∀ p, p ∈ s' ↔ p ∈ s) ∧ mD fuel f c (n : Int) = some (tos f s') := by
 obtain ⟨hok, hin⟩ := hp.okI n i hi
 have hnx := hp.next hi
 have hn := (List.getElem?_eq_some_iff.1 hi).1
 have hlen4 := hp.len
 have hj := hok.jump; have hs8 := hok.send; have h11 := hok.df; have hpos := hok.pos; have hop := hok.op
 unfold inI at hin
 have hw := h
 unfold mP isE isS at hw
 rw [scI, mD]
 have e0 := fB hl
 have e0' := fB hi
 rw [e0, bsm, bsm, e0', bsm, aBL, bsm, emp_eq, bsm, slo_eq, bsm]
 have h' := h
 unfold mP at h'
 rw [blk_eq, if_neg h', bsm]
 dsimp only
 rw [grp12, bsm]
 by_cases o1 : i.Op = 1
 ·have := hnx (by omega)
  rw [if_pos o1, decide_eq_true (.inl o1), cond_true]
  refine ⟨_, _, rfl, fun _ => Iff.rfl, ?_⟩
  refine b1 (aS (by omega)) ?_
  refine b1 (aS (by omega)) ?_
  refine b1 (fN (f := f) (by omega) (by omega)) ?_
  rfl
 rw [if_neg o1]
 by_cases o2 : i.Op = 2
 ·have := hnx (by omega)
  unfold gD at hw; rw [if_neg (by omega), if_neg (by omega), if_neg (by omega)] at hw
  rw [if_pos o2, if_pos (by omega), decide_eq_true (.inr o2), cond_true]
  refine ⟨_, _, rfl, fun _ => Iff.rfl, ?_⟩
  refine b1 (aS (by omega)) ?_
  refine b1 (aS (by omega)) ?_
  refine b1 (fN (f := f) (by omega) (by omega)) ?_
  rfl
 rw [if_neg o2, decide_eq_false (by omega), cond_false]
 by_cases o3 : 3 ≤ i.Op ∧ i.Op ≤ 7
 ·have := hnx (by omega)
  unfold gD at hw; rw [if_pos o3] at hw
  rw [if_pos o3, if_pos (by omega), if_neg (by omega), if_neg (by omega), if_neg (by omega), if_neg (by omega), if_neg (by omega), grp2, bsm, decide_eq_false (by omega), cond_false, if_neg (by omega), if_neg (by omega)]
  refine ⟨_, _, rfl, fun _ => Iff.rfl, ?_⟩
  refine b1 (aS (by omega)) ?_
  refine b1 (aS (by omega)) ?_
  refine b1 (fN (f := f) (by omega) (by omega)) ?_
  rfl
 rw [if_neg o3]
 by_cases o8 : i.Op = 8
 ·have := hnx (by omega)
  have hb := hs8 o8
  unfold gD at hw; rw [if_neg o3, if_neg (by omega), if_pos o8] at hw
  rw [if_pos o8, if_pos o8, if_pos (by omega)]
  refine ⟨_, _, rfl, fun _ => Iff.rfl, ?_⟩
  refine b1 (aS (by omega)) ?_
  refine b1 (aS (by omega)) ?_
  refine b1 (fN (f := f) (by omega) (by omega)) ?_
  rfl
 rw [if_neg o8, if_neg o8]
 by_cases o9 : i.Op = 9
 ·have := hnx (by omega)
  have hA := hj (.inl o9)
  unfold gD at hw; rw [if_neg o3, if_pos o9] at hw
  rw [if_pos o9, if_pos o9, if_pos (show 1 ≤ l.Stack ∧ dR c.Code n i from ⟨by omega, hne⟩)]
  refine ⟨_, [((n : Int) + 1, ⟨l.Stack - 1, l.Slots⟩), (i.A, ⟨l.Stack - 1, l.Slots⟩)], rfl, fun p => by simp only [List.mem_cons, List.not_mem_nil, or_false]; exact Or.comm, ?_⟩
  have h1 := qI f ((n : Int) + 1, ⟨l.Stack - 1, l.Slots⟩)
  refine b1 (aS (by omega)) ?_
  refine b1 (aS (by omega)) ?_
  refine b1 (fN (f := f) (by omega) (by omega)) ?_
  refine b1 (aS (by omega)) ?_
  refine b1 (fN (f := to1 f ((n : Int) + 1, ⟨l.Stack - 1, l.Slots⟩)) (by omega) (by omega)) ?_
  rfl
 unfold gD at hw; rw [if_neg o3, if_neg o9, if_neg o8] at hw
 rw [if_neg o9, if_neg o9]
 by_cases o10 : i.Op = 10
 ·have hA := hj (.inr o10)
  rw [if_pos o10, if_pos o10, if_pos hne]
  refine ⟨_, _, rfl, fun _ => Iff.rfl, ?_⟩
  refine b1 (fN (f := f) (by omega) (by omega)) ?_
  rfl
 rw [if_neg o10, if_neg o10]
 by_cases o11 : i.Op = 11
 ·have := hnx (by omega)
  have hA := h11 o11
  have hA2 := hpos (by omega)
  have hd : c.Defs[i.A.toNat]? = some (c.Defs[i.A.toNat]'(by omega)) := List.getElem?_eq_getElem _
  have hix := dF (xs := c.Defs) hA2.1 hA
  have hdm := List.mem_of_getElem? hd
  rw [if_pos o11, if_pos o11, if_pos (by omega), hd, hix]
  generalize c.Defs[i.A.toNat]'(by omega) = d at hdm
  have hdo := hp.okD d hdm
  have hd3 := hdo.1.1
  have h1 := uQ (gE d (l.Slots + (d.Chans.length + d.Spots.length : Nat))) f
  simp only [gE, List.length_append, List.length_map] at h1
  refine ⟨_, _, rfl, fun _ => Iff.rfl, ?_⟩
  refine b1 rfl ?_
  refine b1 (aDO (f := f) hf hdo.1 (by omega) (by rw [hlen]; exact hdo.2) (by omega)) ?_
  refine b1 (aS (by omega)) ?_
  refine b1 rfl ?_
  refine b1 (aS (by omega)) ?_
  refine b1 rfl ?_
  refine b1 (aS (by omega)) ?_
  refine b1 (fN (f := tos f (gE d (l.Slots + (d.Chans.length + d.Spots.length : Nat)))) (by unfold gE; omega) (by unfold gE; omega)) ?_
  rw [aC2, show l.Slots + (d.Chans.length : Int) + (d.Spots.length : Int) = l.Slots + (d.Chans.length + d.Spots.length : Nat) by omega]
  rfl
 rw [if_neg o11, if_neg o11]
 by_cases o12 : i.Op = 12
 ·have := hnx (by omega)
  rw [if_pos o12, if_pos o12, if_pos (by omega)]
  refine ⟨_, _, rfl, fun _ => Iff.rfl, ?_⟩
  refine b1 (aS (by omega)) ?_
  refine b1 (fN (f := f) (by omega) (by omega)) ?_
  rfl
 rw [if_neg o12, if_neg o12, grp2, bsm]
 by_cases o13 : i.Op = 13 ∨ i.Op = 15
 ·have := hnx (by omega)
  have hB := hin o13
  have hB2 := hpos (by omega)
  rw [if_pos o13, decide_eq_true o13, cond_true, if_pos (by omega)]
  refine ⟨_, _, rfl, fun _ => Iff.rfl, ?_⟩
  have h1 := qI f (i.B, ⟨0, l.Slots⟩)
  refine b1 (fN (f := f) (by omega) (by omega)) ?_
  refine b1 (aS (by omega)) ?_
  refine b1 (fN (f := to1 f (i.B, ⟨0, l.Slots⟩)) (by omega) (by omega)) ?_
  rfl
 rw [if_neg o13, decide_eq_false o13, cond_false]
 by_cases o14 : i.Op = 14
 ·have := hnx (by omega)
  rw [if_pos o14, if_pos o14, if_pos (by omega)]
  refine ⟨_, _, rfl, fun _ => Iff.rfl, ?_⟩
  refine b1 (aS (by omega)) ?_
  refine b1 (fN (f := f) (by omega) (by omega)) ?_
  rfl
 rw [if_neg o14, if_neg o14, if_pos (show l.Stack = 0 by omega), if_pos (show i.Op = 16 by omega)]
 exact ⟨_, _, rfl, fun _ => Iff.rfl, rfl⟩
open Go.SX Go.SW Go.Dt
theorem yK {lv : List CodeLevel} {m : Int} {l : CodeLevel} (h : dZ lv m = some l) : 0 ≤ m ∧ lv[m.toNat]? = some l ∧ 0 ≤ l.Stack := by
 unfold dZ at h
 split at h
 ·split at h
  ·split at h
   ·cases h
   ·rename_i l' hl hs; cases h; exact ⟨by assumption, hl, by omega⟩
  ·cases h
 ·cases h
theorem rstop {fuel : Nat} {c : CodeProg} {k : Nat} {lv : List CodeLevel} {wt : List Int} (hk : 0 < k) : fP fuel c k lv wt true = some (lv, wt, true) := by
 obtain _ | k := k
 ·omega
 rw [fP]
 by_cases h : 0 < (wt.length : Int)
 ·rw [if_pos h, cond_true]
 ·rw [if_neg h]
theorem rl2 {fuel n : Nat} {c : CodeProg} {a : Int} {l0 : CodeLevel} (hf : 4000000 ≤ fuel) (hp : Pre c) (hne : oU c) (hn : n = c.Code.length) : ∀ (k : Nat) (lv : List CodeLevel) (wt : List Int) (B : Int), lv.length = n → LvI (scP c) n a l0 (dZ lv) wt B → cnt (dZ lv) n + wt.length + 1 < k → 0 ≤ B → B + 1000 * ((cnt (dZ lv) n + wt.length : Nat) : Int) ≤ 1000000 →
 (∃ lv' B', fP fuel c k lv wt false = some (lv', [], false) ∧ lv'.length = n ∧ LvI (scP c) n a l0 (dZ lv') [] B') ∨ (∃ lv' wt', fP fuel c k lv wt false = some (lv', wt', true) ∧ lv'.length = n ∧ Bad (scP c) a l0)
 | 0, _, _, _, _, _, h, _, _ => by omega
 | k + 1, lv, wt, B, hk, hI, hm, hB0, hB => by
  rcases List.eq_nil_or_concat wt with rfl | ⟨wt, m, rfl⟩
  ·exact .inl ⟨lv, B, by rw [fP, if_neg (by simp)], hk, hI⟩
  ·rw [List.concat_eq_append] at *
   obtain ⟨l, hl⟩ := hI.has m (by simp)
   obtain ⟨r1, r2, r3, r4⟩ := hI.r m l hl
   obtain ⟨_, hll, _⟩ := yK hl
   subst hn
   have hmn : ((m.toNat : Nat) : Int) = m := by omega
   have hi : c.Code[m.toNat]? = some (c.Code[m.toNat]'(by omega)) := List.getElem?_eq_getElem _
   have hlen := hp.len
   have hcl := nY (dZ lv) c.Code.length
   simp only [List.length_append, List.length_singleton] at hm hB
   have hsc := aAe hi l
   have hok := (hp.okI _ _ hi).1
   have hrest : ∀ z, mD fuel (⟨lv, wt, false⟩ : Ref09_flow) c m = some z → fP fuel c (k + 1) lv (wt ++ [m]) false = fP fuel c k z.levels z.wait z.wrong := fun z hz => by
    have e1 : ((wt ++ [m]).length : Int) - 1 = (wt.length : Int) := by simp
    rw [fP, if_pos (by simp), cond_false, e1]
    refine b1 (aS (by omega)) ?_
    refine b1 (bR wt [] m) ?_
    refine b1 (aS (by omega)) ?_
    refine b1 (vF wt [m]) ?_
    exact b1 hz rfl
   by_cases hw : mP (c.Code[m.toNat]'(by omega)) l
   ·have hfo := aD4 (fuel := fuel) (f := ⟨lv, wt, false⟩) hi hll hw
    rw [hmn] at hfo
    rw [aEK r3.1 (fun o8 => (hok.send o8).1) hw] at hsc
    refine .inr ⟨lv, wt, ?_, hk, m, l, r1, .inl hsc⟩
    rw [hrest _ hfo]; exact rstop (by omega)
   ·obtain ⟨s, s', q1, q2, hfo⟩ := from_eq (fuel := fuel) (f := ⟨lv, wt, false⟩) hf hp (hne _ _ hi) hi hll hk (by omega) (by omega) (by dsimp only; omega) hw
    rw [hmn] at hfo
    rw [q1] at hsc
    have hsane := aBq hp
    have hrs : ∀ p ∈ s', (0 ≤ p.1 ∧ p.1 < (lv.length : Int)) ∧ 0 ≤ p.2.Stack := fun p hp' => by
     have := hsane m l s r2.1 r2.2 r3.1 r4.1 hsc p ((q2 p).1 hp')
     rw [hk]; exact ⟨this.1, this.2.1⟩
    have hpp := yG s' ⟨lv, wt, false⟩ rfl hrs
    have htl := uQ s' ⟨lv, wt, false⟩
    dsimp only at hpp htl
    cases hps : psh (dZ lv) wt s' with
    | none =>
     rw [hps] at hpp
     dsimp only at hpp
     refine .inr ⟨(tos ⟨lv, wt, false⟩ s').levels, (tos ⟨lv, wt, false⟩ s').wait, ?_, by rw [htl.1, hk], hI.bad hl hsc q2 hps⟩
     rw [hrest _ hfo, hpp]; exact rstop (by omega)
    | some ft =>
     obtain ⟨f, td'⟩ := ft
     rw [hps] at hpp
     obtain ⟨lv', p1, p2, p3⟩ := hpp
     obtain ⟨i1, i2⟩ := hI.step hsane hl hsc q2 hps
     subst p2
     rw [hrest _ hfo, p1]
     exact rl2 hf hp hne rfl k lv' td' (B + 1000) (by omega) i1 (by omega) (by omega) (by omega)
theorem rl1 {c : CodeProg} (hl : c.Code.length ≤ 2000000) : ∀ (k n : Nat), n ≤ c.Code.length → c.Code.length - n < k → lN c k (n : Int) (List.replicate n ⟨-1, -1⟩) = some (List.replicate c.Code.length ⟨-1, -1⟩)
 | 0, _, _, hk => by omega
 | k + 1, n, hn, hk => by
  by_cases h : n < c.Code.length
  ·rw [lN, if_pos (by omega), iL (by simp; omega), bsm, aS (by omega), bsm]
   have := rl1 hl k (n + 1) (by omega) (by omega)
   rw [List.replicate_succ'] at this
   rw [show (n : Int) + 1 = ((n + 1 : Nat) : Int) by omega]; exact this
  ·have : n = c.Code.length := by omega
   rw [lN, if_neg (by omega), this]
theorem rl3 (suf : List CodeLevel) : ∀ (pre : List CodeLevel) (k : Nat) (b : Bool), suf.length < k → pre.length + suf.length ≤ 3000000 → jK (pre ++ suf) k (pre.length : Int) b = some (b || suf.any fun l => decide (l.Stack < 0)) := by
 induction suf with
 | nil =>
  intro pre k b hk _
  obtain _ | k := k
  ·omega
  rw [jK, if_neg (by simp)]; simp
 | cons e suf ih =>
  intro pre k b hk hB
  obtain _ | k := k
  ·omega
  simp only [List.length_cons] at hk hB
  rw [jK, if_pos (bT _ _ _)]
  have hg : ∀ b', jK (pre ++ e :: suf) k (pre.length + 1 : Int) b' = some (b' || suf.any fun l => decide (l.Stack < 0)) := fun b' => by
   rw [cA pre e, fE pre suf e]; exact ih (pre ++ [e]) k b' (by omega) (by simp; omega)
  cases b with
  | true =>
   rw [cond_true, bsm, aS (by omega), bsm, hg]; rfl
  | false =>
   rw [cond_false, bR]
   refine bb rfl ?_
   rw [bsm, aS (by omega), bsm, hg, List.any_cons, Bool.false_or]
theorem aDv {c : CodeProg} (h : oE c) : oU c := fun n i hi ho => by
 have hn := (List.getElem?_eq_some_iff.1 hi).1
 obtain ⟨l, hl⟩ := h.2.2 n hn
 refine Classical.byContradiction fun g => h.2.1 ⟨_, l, hl, .inl ?_⟩
 have hg : ¬ dR c.Code n i := fun q => g (q ho)
 rw [aAe (by simpa using hi)]
 rw [Int.toNat_natCast, scI, if_neg (by omega), if_neg (by omega), if_neg (by omega), if_neg (by omega)]
 by_cases o9 : i.Op = 9
 ·rw [if_pos o9, if_neg (fun q : 1 ≤ l.Stack ∧ dR c.Code n i => hg q.2)]
 ·rw [if_neg o9, if_pos (by omega), if_neg hg]
open Classical in
theorem aCn {fuel : Nat} {c : CodeProg} (hf : 4000000 ≤ fuel) (hl : c.Code.length ≤ 400) (hd : ∀ d ∈ c.Defs, smD d) :
 (oE c ∧ ∃ lv, mS fuel c = some (lv, 0) ∧ lv.length = c.Code.length ∧ ∀ (i : Nat) l, lv[i]? = some l ↔ R (scP c) c.Main ⟨0, c.Free⟩ (i : Int) l) ∨ (¬ oE c ∧ mS fuel c = some ([], 2)) := by
 have e0 := still_eq (fuel := fuel) hf hl hd
 by_cases h : jN c ∧ oU c
 rotate_left
 ·refine .inr ⟨fun g => h ⟨g.1, aDv g⟩, ?_⟩
  rw [decide_eq_false h] at e0
  rw [mS]
  refine b1 e0 ?_
  rw [cond_false]
 rw [decide_eq_true h] at e0
 obtain ⟨hb, hne⟩ := h
 have hpre := hb.pre hl
 have e1 := rl1 (c := c) (by omega) fuel 0 (by omega) (by omega)
 have e2 := fN (f := ⟨List.replicate c.Code.length ⟨-1, -1⟩, [], false⟩) (m := c.Main) (a := 0) (b := c.Free) (by have := hb.main; simp; omega) (by simp)
 have hmain := hb.main
 have e2' : to1 ⟨List.replicate c.Code.length ⟨-1, -1⟩, [], false⟩ (c.Main, ⟨0, c.Free⟩) = ⟨(List.replicate c.Code.length (⟨-1, -1⟩ : CodeLevel)).set c.Main.toNat ⟨0, c.Free⟩, [c.Main], false⟩ := by
  rw [to1]
  dsimp only
  rw [List.getElem?_replicate, if_pos (by omega)]
  rfl
 rw [e2'] at e2
 have habs : dZ ((List.replicate c.Code.length (⟨-1, -1⟩ : CodeLevel)).set c.Main.toNat ⟨0, c.Free⟩) = fup (fun _ => none) c.Main ⟨0, c.Free⟩ := by
  rw [aBh (by simp; omega) (by simp)]
  congr 1
  funext x
  unfold dZ
  split
  ·split
   ·rename_i l hl
    rw [List.getElem?_replicate] at hl
    split at hl
    ·cases hl; rfl
    ·cases hl
   ·rfl
  ·rfl
 have hst := start (f := dZ ((List.replicate c.Code.length (⟨-1, -1⟩ : CodeLevel)).set c.Main.toNat ⟨0, c.Free⟩)) hb habs
 have hcl := nY (dZ ((List.replicate c.Code.length (⟨-1, -1⟩ : CodeLevel)).set c.Main.toNat ⟨0, c.Free⟩)) c.Code.length
 have e3 := rl2 (fuel := fuel) (n := c.Code.length) (c := c) hf hpre hne rfl fuel _ [c.Main] 12 (by simp) hst (by simp only [List.length_singleton]; omega) (by omega) (by simp only [List.length_singleton]; omega)
 have hgo : ∀ lv wt b, fP fuel c fuel ((List.replicate c.Code.length (⟨-1, -1⟩ : CodeLevel)).set c.Main.toNat ⟨0, c.Free⟩) [c.Main] false = some (lv, wt, b) → lv.length = c.Code.length → mS fuel c = bif (b || lv.any fun l => decide (l.Stack < 0)) then some ([], 2) else some (lv, 0) := fun lv wt b h1 h2 => by
  have e4 := rl3 lv [] fuel b (by omega) (by simp; omega)
  rw [mS]
  refine b1 e0 ?_
  rw [cond_true]
  refine b1 e1 ?_
  refine b1 e2 ?_
  refine b1 h1 ?_
  exact b1 e4 rfl
 rcases e3 with ⟨lv, B, e3, hlv, hI⟩ | ⟨lv, wt, e3, hlv, hbad⟩
 ·rw [hgo _ _ _ e3 hlv, Bool.false_or]
  have hcls := hI.closed
  cases hany : lv.any fun l => decide (l.Stack < 0) with
  | true =>
   refine .inr ⟨fun g => ?_, rfl⟩
   obtain ⟨l, hl1, hl2⟩ := List.any_eq_true.1 hany
   obtain ⟨i, hi⟩ := List.mem_iff_getElem?.1 hl1
   have hin := (List.getElem?_eq_some_iff.1 hi).1
   obtain ⟨l', hl'⟩ := g.2.2 i (by omega)
   obtain ⟨_, q1, q2⟩ := yK ((hcls _ _).1 hl')
   rw [Int.toNat_natCast, hi] at q1
   cases q1
   have := of_decide_eq_true hl2
   omega
  | false =>
   have hall : ∀ (i : Nat) l, lv[i]? = some l ↔ dZ lv (i : Int) = some l := fun i l => by
    constructor
    ·intro hi
     have hs : ¬ l.Stack < 0 := fun g => by
      have := List.any_eq_true (p := fun l : CodeLevel => decide (l.Stack < 0)).2 ⟨l, List.mem_of_getElem? hi, decide_eq_true g⟩
      rw [hany] at this; cases this
     unfold dZ
     rw [if_pos (by omega), Int.toNat_natCast, hi]
     dsimp only
     rw [if_neg hs]
    ·intro hi
     have := (yK hi).2.1
     rwa [Int.toNat_natCast] at this
   refine .inl ⟨⟨hb, hI.good, fun i hi => ⟨lv[i]'(by omega), (hcls _ _).2 ((hall _ _).1 (List.getElem?_eq_getElem _))⟩⟩, lv, rfl, hlv, fun i l => (hall i l).trans (hcls _ _).symm⟩
 ·rw [hgo _ _ _ e3 hlv]
  exact .inr ⟨fun g => g.2.1 hbad, rfl⟩
theorem clv {c : CodeProg} {x : Code_checker} {lv : List CodeLevel} (hl : c.Code.length ≤ 2000000) (hlen : lv.length = c.Code.length) (h : ∀ (i : Nat) l, lv[i]? = some l ↔ x.levels.get (i : Int) = some l) : ∀ (k n : Nat), n ≤ c.Code.length → c.Code.length - n < k → kB c (some x, true) k (lv.take n) (n : Int) = some lv
 | 0, _, _, hk => by omega
 | k + 1, n, hn, hk => by
  by_cases g : n < c.Code.length
  ·have hi : lv[n]? = some (lv[n]'(by omega)) := List.getElem?_eq_getElem _
   have hx := (h n _).1 hi
   rw [kB, if_pos (by omega)]
   refine b1 rfl ?_
   rw [hx, Option.getD_some]
   have ht : lv.take n ++ [lv[n]'(by omega)] = lv.take (n + 1) := by rw [List.take_add_one, hi]; rfl
   have := clv hl hlen h k (n + 1) (by omega) (by omega)
   rw [ht, iL (by simp; omega), bsm, aS (by omega), bsm, show (n : Int) + 1 = ((n + 1 : Nat) : Int) by omega]
   exact this
  ·have : n = c.Code.length := by omega
   rw [kB, if_neg (by omega), List.take_of_length_le (by omega)]
theorem same1 {lv : List CodeLevel} (hl : lv.length ≤ 2000000) : ∀ (k n : Nat), n ≤ lv.length → lv.length - n < k → kO lv lv k (n : Int) = some (.inl ())
 | 0, _, _, hk => by omega
 | k + 1, n, hn, hk => by
  by_cases g : n < lv.length
  ·rw [kO, if_pos (by omega), fB (List.getElem?_eq_getElem g), bsm, bsm, decide_eq_true rfl, decide_eq_true rfl, Bool.and_self, cond_true, aS (by omega), bsm]
   rw [show (n : Int) + 1 = ((n + 1 : Nat) : Int) by omega]
   exact same1 hl k (n + 1) (by omega) (by omega)
  ·rw [kO, if_neg (by omega)]
theorem aBi {fuel : Nat} {lv : List CodeLevel} (hf : 4000000 ≤ fuel) (hl : lv.length ≤ 2000000) : rS fuel lv lv = some true := by
 rw [rS, if_neg (fun g => g rfl)]
 exact b1 (same1 hl fuel 0 (by omega) (by omega)) rfl
theorem aDW {fuel : Nat} {c : CodeProg} (hf : 4000000 ≤ fuel) (hd : ∀ d ∈ c.Defs, smD d) : uI fuel c = some true := by
 have hkn : vI = some true := rfl
 rw [uI, vH, bsm]
 by_cases hlg : 400 < (c.Code.length : Int)
 ·rw [decide_eq_true hlg, cond_true]
  exact b1 hkn rfl
 rw [decide_eq_false hlg, cond_false]
 have hl : c.Code.length ≤ 400 := by omega
 rcases aDt (fuel := fuel) hf hl hd with ⟨hF, x, e1, h1⟩ | ⟨hF, e1⟩
 ·rcases aCn (fuel := fuel) hf hl hd with ⟨_, lv, e2, h2, h3⟩ | ⟨g, _⟩
  ·have e3 : oD fuel c = some (lv, 0) := by
    rw [oD]
    refine b1 e1 ?_
    rw [cond_true]
    refine b1 (clv (x := x) (lv := lv) (by omega) h2 (fun i l => (h3 i l).trans (h1 i l).symm) fuel 0 (by omega) (by omega)) ?_
    rfl
   have e4 : nW fuel c = some 0 := by
    rw [nW]
    refine b1 e1 ?_
    rw [cond_true]
   refine b1 e3 ?_
   refine b1 e2 ?_
   refine bb e4 ?_
   dsimp only
   rw [if_pos rfl, if_pos rfl, aBi hf (by omega), bsm, cond_true, hkn, bsm, bsm]
  ·exact absurd hF g
 ·rcases aCn (fuel := fuel) hf hl hd with ⟨g, _⟩ | ⟨_, e2⟩
  ·exact absurd g hF
  ·have e3 : oD fuel c = some ([], 2) := by
    rw [oD]
    refine b1 e1 ?_
    rw [cond_false]
   have e4 : nW fuel c = some 2 := by
    rw [nW]
    refine b1 e1 ?_
    rw [cond_false]
   refine b1 e3 ?_
   refine b1 e2 ?_
   refine bb e4 ?_
   dsimp only
   rw [if_pos rfl, if_pos rfl, aBi hf (by simp), bsm, cond_true, hkn, bsm, bsm]
open Go.SX Go.SW Go.Dt
section
variable {H : Type} {enc : TypeId × Value → H} {W : World}
abbrev RdP (enc : TypeId × Value → H) (W : World) (n : Nat) {α : Type} (T : Ty α) (t : TypeId) (μ : α → Nat) (S : α → Prop) : Prop := Rd enc Tryz.prog W n T t μ S
theorem gZ (n : Nat) {t : TypeId} (ht : Tryz.prog.underlying t = some (.int .i64)) : RdP enc W n (cW .i64) t (fun _ => 1) (fun _ => True) := (rd_int ht).mono (fun _ => Nat.le_refl _) (fun _ _ _ => trivial)
theorem pF {n : Nat} {t e : TypeId} {α : Type} {T : Ty α} {μ : α → Nat} {S : α → Prop} (ht : Tryz.prog.underlying t = some (.slice e)) (hz : Tryz.prog.cellsOf e = T.sz) (h : ∀ k, RdP enc W k T e μ S) : RdP enc W n (tSl T) t (fun l => msum μ l + 1) (fun l => l.length ≤ 1048576 ∧ ∀ a ∈ l, S a) := by
 cases n with
 | zero => exact nX
 | succ n => exact rd_sl ht hz (h n)
theorem rd_ints (n : Nat) {t e : TypeId} (ht : Tryz.prog.underlying t = some (.slice e)) (he : Tryz.prog.underlying e = some (.int .i64)) (hz : Tryz.prog.cellsOf e = 1) : RdP enc W n (tSl (cW .i64)) t (fun _ => 0) (fun l => l.length ≤ 1048576) :=
 (pF ht hz (fun k => gZ k he)).mono (fun _ => Nat.zero_le _) (fun _ h _ => h.1)
theorem aEb : ∀ n : Nat, RdP enc W n bG 110 (fun _ => 0) (fun _ => True)
 | 0 => nX
 | n + 1 => pJ (T := bG) (fun b : Int × Int × Unit => ⟨b.1, b.2.1⟩) Tryz.underlying110 (e := 2) (by kernel_rfl)
  (eV (gZ n Tryz.underlying3) rfl (by kernel_rfl) (eV (gZ n Tryz.underlying3) rfl (by kernel_rfl) pP))
  (fun _ => rfl) (fun _ => Nat.zero_le _) (fun _ _ _ => trivial)
theorem aDV : ∀ n : Nat, RdP enc W n bM 112 (fun _ => 0) (fun _ => True)
 | 0 => nX
 | n + 1 => pJ (T := bM) (fun b : Int × Int × Unit => ⟨b.1, b.2.1⟩) Tryz.underlying112 (e := 2) (by kernel_rfl)
  (eV (gZ n Tryz.underlying3) rfl (by kernel_rfl) (eV (gZ n Tryz.underlying3) rfl (by kernel_rfl) pP))
  (fun _ => rfl) (fun _ => Nat.zero_le _) (fun _ _ _ => trivial)
theorem aEe : ∀ n : Nat, RdP enc W n bN 114 (fun _ => 0) (fun x => x.Joins.length ≤ 2000000)
 | 0 => nX
 | n + 1 => pJ (T := bN) (fun b : Int × List Int × Int × Unit => ⟨b.1, b.2.1, b.2.2.1⟩) Tryz.underlying114 (e := 3) (by kernel_rfl)
  (eV (gZ n Tryz.underlying3) rfl (by kernel_rfl) (eV (rd_ints n Tryz.underlying40 Tryz.underlying3 (by kernel_rfl)) rfl (by kernel_rfl) (eV (gZ n Tryz.underlying3) rfl (by kernel_rfl) pP)))
  (fun _ => rfl) (fun _ => Nat.zero_le _) (fun b h _ => by have := h.2.1; show b.2.1.length ≤ _; omega)
theorem aD6 : ∀ n : Nat, RdP enc W n aF 63 (fun _ => 0) (smD)
 | 0 => nX
 | n + 1 => pJ (T := aF) (fun b : List ScopeChan × List ScopeSpot × List ScopeRule × Unit => ⟨b.1, b.2.1, b.2.2.1⟩) Tryz.underlying63 (e := 3) (by kernel_rfl)
  (eV (pF Tryz.underlying59 (by kernel_rfl) aEb) rfl (by kernel_rfl) (eV (pF Tryz.underlying60 (by kernel_rfl) aDV) rfl (by kernel_rfl) (eV (pF Tryz.underlying61 (by kernel_rfl) aEe) rfl (by kernel_rfl) pP)))
  (fun _ => rfl) (fun _ => Nat.zero_le _) (fun b h _ => ⟨by have := h.1.1; show b.1.length ≤ _; omega, by have := h.2.1.1; show b.2.1.length ≤ _; omega, by have := h.2.2.1.1; show b.2.2.1.length ≤ _; omega, h.2.2.1.2⟩)
theorem aEO : ∀ n : Nat, RdP enc W n aG 73 (fun _ => 0) (fun _ => True)
 | 0 => nX
 | n + 1 => pJ (T := aG) (fun b : Int × Int × Int × Unit => ⟨b.1, b.2.1, b.2.2.1⟩) Tryz.underlying73 (e := 3) (by kernel_rfl)
  (eV (gZ n Tryz.underlying56) rfl (by kernel_rfl) (eV (gZ n Tryz.underlying3) rfl (by kernel_rfl) (eV (gZ n Tryz.underlying3) rfl (by kernel_rfl) pP)))
  (fun _ => rfl) (fun _ => Nat.zero_le _) (fun _ _ _ => trivial)
theorem aFi : ∀ n : Nat, RdP enc W n eR 25 (fun _ => 0) (fun c => c.Code.length ≤ 2000000 ∧ c.Defs.length ≤ 2000000 ∧ ∀ d ∈ c.Defs, smD d)
 | 0 => nX
 | n + 1 => pJ (T := eR) (fun b : Int × List ScopeDef × List CodeIns × Int × Unit => ⟨b.1, b.2.1, b.2.2.1, b.2.2.2.1⟩) Tryz.underlying25 (e := 4) (by kernel_rfl)
  (eV (gZ n Tryz.underlying3) rfl (by kernel_rfl) (eV (pF Tryz.underlying22 (by kernel_rfl) aD6) rfl (by kernel_rfl) (eV (pF Tryz.underlying23 (by kernel_rfl) aEO) rfl (by kernel_rfl) (eV (gZ n Tryz.underlying3) rfl (by kernel_rfl) pP))))
  (fun _ => rfl) (fun _ => Nat.zero_le _) (fun b h _ => ⟨by have := h.2.2.1.1; show b.2.2.1.length ≤ _; omega, by have := h.2.1.1; show b.2.1.length ≤ _; omega, h.2.1.2⟩)
end
end Go.Proofs.YtjahnkcjbglnoaaGreatDoor
namespace Go.SW
open Go.SX
theorem aEA {w w' : World} (h : w.keptBut w' (fun _ => False)) {p : MemPlace} (hp : p.block < w.heap.size) : w.sameAt w' p := by
 obtain ⟨_, _, h⟩ := h
 cases p with
 | cell b off =>
  have := h b hp
  show w'.cell? _ = w.cell? _
  unfold World.cell?
  dsimp only at *
  cases h1 : w.heap[b]? with
  | none => rw [h1] at this; dsimp only at this; rw [this]
  | some o =>
   rw [h1] at this
   cases o with
   | cells c t fr =>
    cases h2 : w'.heap[b]? with
    | none => rw [h2] at this; cases this
    | some o' =>
     rw [h2] at this
     cases o' with
     | cells c' t' fr' =>
      dsimp only at this ⊢
      rw [this.2.2.2 off (fun f => f)]
     | _ => cases this
   | map es clock =>
    cases h2 : w'.heap[b]? with
    | none => rfl
    | some o' =>
     rw [h2] at this
     cases o' with
     | cells => cases this
     | _ => rfl
   | _ => dsimp only at this; rw [this]
 | map b =>
  have := h b hp
  show w'.heap[b]? = w.heap[b]?
  cases h1 : w.heap[b]? with
  | none => rw [h1] at this; exact this
  | some o =>
   rw [h1] at this
   cases o with
   | cells c t fr =>
    cases h2 : w'.heap[b]? with
    | none => rw [h2] at this; cases this
    | some o' =>
     rw [h2] at this
     cases o' with
     | cells c' t' fr' =>
      dsimp only at this
      obtain ⟨rfl, rfl, hs, hc⟩ := this
      have : c' = c := Array.ext_getElem? fun j => hc j (fun f => f)
      rw [this]
     | _ => cases this
   | map es clock =>
    cases h2 : w'.heap[b]? with
    | none => rw [h2] at this; cases this
    | some o' =>
     rw [h2] at this
     cases o' with
     | map es' clock' =>
      rcases this with f | ⟨rfl, rfl⟩
      ·exact f.elim
      ·rfl
     | _ => cases this
   | _ => exact this
theorem aCu {H : Type} {enc : TypeId × Value → H} {P : Program} {W W' : World} (hl : laidOutB P = true) (hm : mapsRowed P = true) (hz : ∀ t e, t < P.types.size → P.underlying t = some (.slice e) → 0 < P.cellsOf e) (hk : W.keptBut W' (fun _ => False)) :
 ∀ {ts : List TypeId} {vs : List Value} {ds : List (DataW H)} {ps : List MemPlace}, (∀ t ∈ ts, t < P.types.size) → DataW.TrodAll enc P W 0 (fun _ => true) true ts vs ds ps → DataW.TrodAll enc P W' 0 (fun b => decide (b < W.heap.size)) true ts vs ds ps
 | [], [], [], _, _, h => h
 | t :: _, _ :: _, _ :: _, ps, ht, h => by
  have hlt := h.lt
  obtain ⟨p, q, ⟨n, hn⟩, h2, e⟩ := h
  refine ⟨p, q, ⟨n, ?_⟩, aCu hl hm hz hk (fun t h => ht t (.tail _ h)) h2, e⟩
  have hp : ∀ x ∈ p, x.block < W.heap.size := fun x hx => hlt x (by rw [e]; exact List.mem_append_left _ hx)
  exact DataW.trod_stays (kids_rows hl hm) (fun a b => hz _ _ a b) (fun f => by cases f) (ht t (.head _)) hn (fun x hx => aEA hk (hp x hx)) (fun x hx => decide_eq_true (hp x hx))
 | [], _ :: _, _, _, _, h => h.elim
 | [], [], _ :: _, _, _, h => h.elim
 | _ :: _, [], _, _, _, h => h.elim
 | _ :: _, _ :: _, [], _, _, h => h.elim
end Go.SW
