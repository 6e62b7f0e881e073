/- Parts of the proof: lemmas, and the steps through the program. -/
import Derived.Test.YtpgkejpnhnoipaaGreatFc2
import Derived.DefersIn
import Derived.Below
import Derived.Laws.MakeOwn
import Derived.Great.BuildSlice
set_option linter.unusedVariables false
set_option linter.unusedSimpArgs false
set_option maxRecDepth 100000
set_option maxHeartbeats 2000000
namespace Go.Proofs.YtpgkejpnhnoipaaGreat
open Go.SX Go.SW Go.Dt
attribute [local irreducible] Code.wpIn wpListIn Exit.then Exit.inBlock
def lX (AA : Nat) (a0 : Ad) (a1 : Int) (a2 : List Int) (a3 : Int) (y5 : Ao) (y7 : List Int) : Nat -> Int -> (List AW) -> Option ((List AW) ⊕ (Ad))
| 0, _, _ => none
| k + 1, x5, x6 =>
 if x5 < (y5.Aa.length : Int) then
  (idx y5.Aa x5).bind fun y9 =>
  (tL AA y9 (a2.length : Int)).bind fun y10 =>
  bif y10 then
   (idx y5.Aa x5).bind fun y11 =>
   (lE AA y11 a2).bind fun y12 =>
   (dR (x6 ++ [y12])).bind fun z2 =>
   (chk (x5 + 1)).bind fun z3 =>
   lX AA a0 a1 a2 a3 y5 y7 k z3 z2
  else
   (some (⟨(⟨a0.f.AD, a0.f.AI, a0.f.AB, a0.f.AC, a0.f.AE⟩ : AF), a0.AO.set a1.toNat true, a0.AQ.set a1.toNat a2, a0.AV.set a1.toNat a3, a0.AR.set a1.toNat y7, (⟨a0.p.AD, a0.p.AB, a0.p.AC, a0.p.AE⟩ : AM), true⟩ : Ad)).bind fun r => some (Sum.inr r)
 else
  some (Sum.inl x6)
def gP (rec_r07_opener_node : Ad -> Int -> (List Int) -> Int -> Option (Ad)) (y5 : Ao) (x7 : Int) (x8 : List Int) : Nat -> Int -> (List ByteArray) -> (List Int) -> (List Ao) -> (List AN) -> Int -> (List Bool) -> (List (List Int)) -> (List Int) -> (List (List Int)) -> (List ByteArray) -> (List Ae) -> (List AN) -> Int -> Bool -> Option (Ad)
| 0, _, _, _, _, _, _, _, _, _, _, _, _, _, _, _ => none
| k + 1, x44, x45, x46, x47, x48, x49, x50, x51, x52, x53, x54, x55, x56, x57, x58 =>
 if x44 < (y5.AU.length : Int) then
  bif x58 then
   some (⟨(⟨x45, x46, x47, x48, x49⟩ : AF), x50, x51, x52, x53, (⟨x54, x55, x56, x57⟩ : AM), x58⟩ : Ad)
  else
   (idx y5.AU x44).bind fun y19 =>
   (rec_r07_opener_node (⟨(⟨x45, x46, x47, x48, x49⟩ : AF), x50, x51, x52, x53, (⟨x54, x55, x56, x57⟩ : AM), x58⟩ : Ad) y19 x8 x7).bind fun y20 =>
   (chk (x44 + 1)).bind fun z5 =>
   gP rec_r07_opener_node y5 x7 x8 k z5 y20.f.AD y20.f.AI y20.f.AB y20.f.AC y20.f.AE y20.AO y20.AQ y20.AV y20.AR y20.p.AD y20.p.AB y20.p.AC y20.p.AE y20.bad
 else
  some (⟨(⟨x45, x46, x47, x48, x49⟩ : AF), x50, x51, x52, x53, (⟨x54, x55, x56, x57⟩ : AM), x58⟩ : Ad)
def kS (AA : Nat) (rec_r07_opener_node : Ad -> Int -> (List Int) -> Int -> Option (Ad)) (a1 : AN) (a3 : Int) (z1 : Int) (y1 : List Int) : Nat -> Int -> (List ByteArray) -> (List Int) -> (List Ao) -> (List AN) -> Int -> (List Bool) -> (List (List Int)) -> (List Int) -> (List (List Int)) -> (List ByteArray) -> (List Ae) -> (List AN) -> Int -> Bool -> Option ((List ByteArray × List Int × List Ao × List AN × Int × List Bool × List (List Int) × List Int × List (List Int) × List ByteArray × List Ae × List AN × Int × Bool) ⊕ (Ad × Int))
| 0, _, _, _, _, _, _, _, _, _, _, _, _, _, _, _ => none
| k + 1, x30, x31, x32, x33, x34, x35, x36, x37, x38, x39, x40, x41, x42, x43, x44 =>
 if x30 < (a1.AS.length : Int) then
  bif x44 then
   some (Sum.inl (x31, x32, x33, x34, x35, x36, x37, x38, x39, x40, x41, x42, x43, x44))
  else
   (idx a1.AS x30).bind fun y2 =>
   (sY AA (⟨a1.AP, a1.AT, a1.AS⟩ : AN) y2).bind fun y3 =>
   if y3 < 0 then
    (some ((⟨(⟨x31, x32, x33, x34, x35⟩ : AF), x36, x37, x38, x39, (⟨x40, x41, x42, x43⟩ : AM), true⟩ : Ad), z1)).bind fun r => some (Sum.inr r)
   else
    (idx a1.AS x30).bind fun y4 =>
    (chk (a3 + z1)).bind fun z2 =>
    (oS AA y1 z2 y3).bind fun y5 =>
    (chk (a3 + z1)).bind fun z3 =>
    (chk (z3 + y3)).bind fun z4 =>
    (rec_r07_opener_node (⟨(⟨x31, x32, x33, x34, x35⟩ : AF), x36, x37, x38, x39, (⟨x40, x41, x42, x43⟩ : AM), x44⟩ : Ad) y4.Ab y5 z4).bind fun y6 =>
    (chk (x30 + 1)).bind fun z5 =>
    kS AA rec_r07_opener_node a1 a3 z1 y1 k z5 y6.f.AD y6.f.AI y6.f.AB y6.f.AC y6.f.AE y6.AO y6.AQ y6.AV y6.AR y6.p.AD y6.p.AB y6.p.AC y6.p.AE y6.bad
 else
  some (Sum.inl (x31, x32, x33, x34, x35, x36, x37, x38, x39, x40, x41, x42, x43, x44))
def jQ (rec_r07_opener_node : Ad -> Int -> (List Int) -> Int -> Option (Ad)) (a1 : AN) (a3 : Int) (z1 : Int) (y1 : List Int) : Nat -> Int -> (List ByteArray) -> (List Int) -> (List Ao) -> (List AN) -> Int -> (List Bool) -> (List (List Int)) -> (List Int) -> (List (List Int)) -> (List ByteArray) -> (List Ae) -> (List AN) -> Int -> Bool -> Option (List ByteArray × List Int × List Ao × List AN × Int × List Bool × List (List Int) × List Int × List (List Int) × List ByteArray × List Ae × List AN × Int × Bool)
| 0, _, _, _, _, _, _, _, _, _, _, _, _, _, _, _ => none
| k + 1, x74, x75, x76, x77, x78, x79, x80, x81, x82, x83, x84, x85, x86, x87, x88 =>
 if x74 < (a1.AT.length : Int) then
  bif x88 then
   some (x75, x76, x77, x78, x79, x80, x81, x82, x83, x84, x85, x86, x87, x88)
  else
   (idx a1.AT x74).bind fun y7 =>
   (chk (a3 + z1)).bind fun z6 =>
   (rec_r07_opener_node (⟨(⟨x75, x76, x77, x78, x79⟩ : AF), x80, x81, x82, x83, (⟨x84, x85, x86, x87⟩ : AM), x88⟩ : Ad) y7.Ab y1 z6).bind fun y8 =>
   (chk (x74 + 1)).bind fun z7 =>
   jQ rec_r07_opener_node a1 a3 z1 y1 k z7 y8.f.AD y8.f.AI y8.f.AB y8.f.AC y8.f.AE y8.AO y8.AQ y8.AV y8.AR y8.p.AD y8.p.AB y8.p.AC y8.p.AE y8.bad
 else
  some (x75, x76, x77, x78, x79, x80, x81, x82, x83, x84, x85, x86, x87, x88)
mutual
def dW : Nat -> Ad -> Int -> (List Int) -> Int -> Option (Ad)
| 0, _, _, _, _ => none
| AA + 1, a0, a1, a2, a3 =>
 bif a0.bad then
  some (⟨(⟨a0.f.AD, a0.f.AI, a0.f.AB, a0.f.AC, a0.f.AE⟩ : AF), a0.AO, a0.AQ, a0.AV, a0.AR, (⟨a0.p.AD, a0.p.AB, a0.p.AC, a0.p.AE⟩ : AM), true⟩ : Ad)
 else
  if a1 < 0 then
   some (⟨(⟨a0.f.AD, a0.f.AI, a0.f.AB, a0.f.AC, a0.f.AE⟩ : AF), a0.AO, a0.AQ, a0.AV, a0.AR, (⟨a0.p.AD, a0.p.AB, a0.p.AC, a0.p.AE⟩ : AM), true⟩ : Ad)
  else
   if (a0.f.AB.length : Int) <= a1 then
    some (⟨(⟨a0.f.AD, a0.f.AI, a0.f.AB, a0.f.AC, a0.f.AE⟩ : AF), a0.AO, a0.AQ, a0.AV, a0.AR, (⟨a0.p.AD, a0.p.AB, a0.p.AC, a0.p.AE⟩ : AM), true⟩ : Ad)
   else
    (idx a0.AO a1).bind fun y1 =>
    bif y1 then
     some (⟨(⟨a0.f.AD, a0.f.AI, a0.f.AB, a0.f.AC, a0.f.AE⟩ : AF), a0.AO, a0.AQ, a0.AV, a0.AR, (⟨a0.p.AD, a0.p.AB, a0.p.AC, a0.p.AE⟩ : AM), true⟩ : Ad)
    else
     (idx a0.AO a1).bind fun y2 =>
     (idx a0.AQ a1).bind fun y3 =>
     (idx a0.AV a1).bind fun y4 =>
     (idx a0.f.AB a1).bind fun y5 =>
     (if y5.Op = 4 then
      some true
     else
      if y5.Op = 6 then
       some true
      else
       if y5.Op = 7 then
        some true
       else
        some (decide (y5.Op = 8))).bind fun x1 =>
     ((rM AA y5.AI (a2.length : Int)).bind fun y6 =>
     bif !y6 then
      (some (⟨(⟨a0.f.AD, a0.f.AI, a0.f.AB, a0.f.AC, a0.f.AE⟩ : AF), a0.AO.set a1.toNat true, a0.AQ.set a1.toNat a2, a0.AV.set a1.toNat a3, a0.AR, (⟨a0.p.AD, a0.p.AB, a0.p.AC, a0.p.AE⟩ : AM), true⟩ : Ad)).bind fun r => some (Sum.inr r)
     else
      bif !x1 then
       if 0 < (y5.AI.length : Int) then
        (some (⟨(⟨a0.f.AD, a0.f.AI, a0.f.AB, a0.f.AC, a0.f.AE⟩ : AF), a0.AO.set a1.toNat true, a0.AQ.set a1.toNat a2, a0.AV.set a1.toNat a3, a0.AR, (⟨a0.p.AD, a0.p.AB, a0.p.AC, a0.p.AE⟩ : AM), true⟩ : Ad)).bind fun r => some (Sum.inr r)
       else
        if 3 < (y5.Aa.length : Int) then
         (some (⟨(⟨a0.f.AD, a0.f.AI, a0.f.AB, a0.f.AC, a0.f.AE⟩ : AF), a0.AO.set a1.toNat true, a0.AQ.set a1.toNat a2, a0.AV.set a1.toNat a3, a0.AR, (⟨a0.p.AD, a0.p.AB, a0.p.AC, a0.p.AE⟩ : AM), true⟩ : Ad)).bind fun r => some (Sum.inr r)
        else
         if 2 < (y5.AU.length : Int) then
          (some (⟨(⟨a0.f.AD, a0.f.AI, a0.f.AB, a0.f.AC, a0.f.AE⟩ : AF), a0.AO.set a1.toNat true, a0.AQ.set a1.toNat a2, a0.AV.set a1.toNat a3, a0.AR, (⟨a0.p.AD, a0.p.AB, a0.p.AC, a0.p.AE⟩ : AM), true⟩ : Ad)).bind fun r => some (Sum.inr r)
         else
          some (Sum.inl ())
      else
       if 3 < (y5.Aa.length : Int) then
        (some (⟨(⟨a0.f.AD, a0.f.AI, a0.f.AB, a0.f.AC, a0.f.AE⟩ : AF), a0.AO.set a1.toNat true, a0.AQ.set a1.toNat a2, a0.AV.set a1.toNat a3, a0.AR, (⟨a0.p.AD, a0.p.AB, a0.p.AC, a0.p.AE⟩ : AM), true⟩ : Ad)).bind fun r => some (Sum.inr r)
       else
        if 2 < (y5.AU.length : Int) then
         (some (⟨(⟨a0.f.AD, a0.f.AI, a0.f.AB, a0.f.AC, a0.f.AE⟩ : AF), a0.AO.set a1.toNat true, a0.AQ.set a1.toNat a2, a0.AV.set a1.toNat a3, a0.AR, (⟨a0.p.AD, a0.p.AB, a0.p.AC, a0.p.AE⟩ : AM), true⟩ : Ad)).bind fun r => some (Sum.inr r)
        else
         some (Sum.inl ())).bind fun o => match o with
     | Sum.inr r => some r
     | Sum.inl _ =>
     (sC AA a2 y5.AI).bind fun y7 =>
     (idx a0.AR a1).bind fun y8 =>
     (dR ([] ++ y5.AU)).bind fun z1 =>
     (lX AA a0 a1 a2 a3 y5 y7 AA 0 []).bind fun o => match o with
     | Sum.inr r => some r
     | Sum.inl x2 =>
     (if y5.Op = 2 then
      (if y5.N < 0 then
       some true
      else
       some (decide ((a2.length : Int) <= y5.N))).bind fun x24 =>
      bif x24 then
       some (a3, a2, a0.f.AD, a0.f.AI, a0.f.AB, a0.f.AC, a0.f.AE, a0.AO.set a1.toNat true, a0.AQ.set a1.toNat a2, a0.AV.set a1.toNat a3, a0.AR.set a1.toNat y7, a0.p.AD, a0.p.AB, a0.p.AC, a0.p.AE, x24, y5.N)
      else
       (idx a2 y5.N).bind fun y13 =>
       some (a3, a2, a0.f.AD, a0.f.AI, a0.f.AB, a0.f.AC, a0.f.AE, a0.AO.set a1.toNat true, a0.AQ.set a1.toNat a2, a0.AV.set a1.toNat a3, a0.AR.set a1.toNat y7, a0.p.AD, a0.p.AB, a0.p.AC, a0.p.AE, x24, y13)
     else
      (if y5.Op = 6 then
       some (decide (y5.Op = 6))
      else
       some (decide (y5.Op = 8))).bind fun x25 =>
      bif x25 then
       (if y5.N < 0 then
        some true
       else
        some (decide ((y7.length : Int) <= y5.N))).bind fun x26 =>
       (bif x26 then
        some y5.N
       else
        (idx y7 y5.N).bind fun y14 =>
        some y14).bind fun x27 =>
       some (a3, y7, a0.f.AD, a0.f.AI, a0.f.AB, a0.f.AC, a0.f.AE, a0.AO.set a1.toNat true, a0.AQ.set a1.toNat a2, a0.AV.set a1.toNat a3, a0.AR.set a1.toNat y7, a0.p.AD, a0.p.AB, a0.p.AC, a0.p.AE, x26, x27)
      else
       if y5.Op = 4 then
        (if y5.N < 0 then
         some true
        else
         some (decide ((a0.f.AC.length : Int) <= y5.N))).bind fun x28 =>
        bif x28 then
         some (a3, a2, a0.f.AD, a0.f.AI, a0.f.AB, a0.f.AC, a0.f.AE, a0.AO.set a1.toNat true, a0.AQ.set a1.toNat a2, a0.AV.set a1.toNat a3, a0.AR.set a1.toNat y7, a0.p.AD, a0.p.AB, a0.p.AC, a0.p.AE, x28, y5.N)
        else
         (idx a0.f.AC y5.N).bind fun y15 =>
         ((oR AA) (⟨(⟨a0.f.AD, a0.f.AI, a0.f.AB, a0.f.AC, a0.f.AE⟩ : AF), a0.AO.set a1.toNat true, a0.AQ.set a1.toNat a2, a0.AV.set a1.toNat a3, a0.AR.set a1.toNat y7, (⟨a0.p.AD, a0.p.AB, a0.p.AC, a0.p.AE⟩ : AM), x28⟩ : Ad) y15 y7 a3).bind fun y16 =>
         (oS AA a2 a3 y16.2).bind fun y17 =>
         (chk (a3 + y16.2)).bind fun z4 =>
         some (z4, y17, y16.1.f.AD, y16.1.f.AI, y16.1.f.AB, y16.1.f.AC, y16.1.f.AE, y16.1.AO, y16.1.AQ, y16.1.AV, y16.1.AR, y16.1.p.AD, y16.1.p.AB, y16.1.p.AC, y16.1.p.AE, y16.1.bad, y5.N)
       else
        some (a3, a2, a0.f.AD, a0.f.AI, a0.f.AB, a0.f.AC, a0.f.AE, a0.AO.set a1.toNat true, a0.AQ.set a1.toNat a2, a0.AV.set a1.toNat a3, a0.AR.set a1.toNat y7, a0.p.AD, a0.p.AB, a0.p.AC, a0.p.AE, a0.bad, y5.N)).bind fun (x7, x8, x9, x10, x11, x12, x13, x14, x15, x16, x17, x18, x19, x20, x21, x22, x23) =>
     (idx x19 a1).bind fun y18 =>
     gP (dW AA) y5 x7 x8 AA 0 x9 x10 x11 x12 x13 x14 x15 x16 x17 x18 (x19.set a1.toNat (⟨y5.Op, x23, x2, z1⟩ : Ae)) x20 x21 x22
def oR : Nat -> Ad -> AN -> (List Int) -> Int -> Option (Ad × Int)
| 0, _, _, _, _ => none
| AA + 1, a0, a1, a2, a3 =>
 if 30 < (a1.AP.length : Int) then
  some ((⟨(⟨a0.f.AD, a0.f.AI, a0.f.AB, a0.f.AC, a0.f.AE⟩ : AF), a0.AO, a0.AQ, a0.AV, a0.AR, (⟨a0.p.AD, a0.p.AB, a0.p.AC, a0.p.AE⟩ : AM), true⟩ : Ad), 0)
 else
  if 30 < (a1.AT.length : Int) then
   some ((⟨(⟨a0.f.AD, a0.f.AI, a0.f.AB, a0.f.AC, a0.f.AE⟩ : AF), a0.AO, a0.AQ, a0.AV, a0.AR, (⟨a0.p.AD, a0.p.AB, a0.p.AC, a0.p.AE⟩ : AM), true⟩ : Ad), 0)
  else
   if 30 < (a1.AS.length : Int) then
    some ((⟨(⟨a0.f.AD, a0.f.AI, a0.f.AB, a0.f.AC, a0.f.AE⟩ : AF), a0.AO, a0.AQ, a0.AV, a0.AR, (⟨a0.p.AD, a0.p.AB, a0.p.AC, a0.p.AE⟩ : AM), true⟩ : Ad), 0)
   else
    (chk ((a1.AP.length : Int) + (a1.AT.length : Int))).bind fun z1 =>
    (oS AA a2 a3 z1).bind fun y1 =>
    (kS AA (dW AA) a1 a3 z1 y1 AA 0 a0.f.AD a0.f.AI a0.f.AB a0.f.AC a0.f.AE a0.AO a0.AQ a0.AV a0.AR a0.p.AD a0.p.AB a0.p.AC a0.p.AE a0.bad).bind fun o => match o with
    | Sum.inr r => some r
    | Sum.inl (x1, x2, x3, x4, x5, x6, x7, x8, x9, x10, x11, x12, x13, x14) =>
    (jQ (dW AA) a1 a3 z1 y1 AA 0 x1 x2 x3 x4 x5 x6 x7 x8 x9 x10 x11 x12 x13 x14).bind fun (x45, x46, x47, x48, x49, x50, x51, x52, x53, x54, x55, x56, x57, x58) =>
    some ((⟨(⟨x45, x46, x47, x48, x49⟩ : AF), x50, x51, x52, x53, (⟨x54, x55, x56, x57⟩ : AM), x58⟩ : Ad), z1)
end
theorem aFZ : ∀ (AA : Nat), (∀ (p0 : Nat) (a0 : Ad) (a1 : Int) (a2 : List Int) (a3 : Int) (r : Ad) (H : dW AA a0 a1 a2 a3 = some r), FnS Tryz.prog 117 [fEq (.pointer (some ⟨p0, 0, none⟩)), fI a1, fSl tI a2, fI a3] [oJ p0 a0] (eM []) (fun _ => [oJ p0 r])) /\ (∀ (p0 : Nat) (a0 : Ad) (a1 : AN) (a2 : List Int) (a3 : Int) (r : Ad × Int) (H : oR AA a0 a1 a2 a3 = some r), FnS Tryz.prog 191 [fEq (.pointer (some ⟨p0, 0, none⟩)), fSt aA a1, fSl tI a2, fI a3] [oJ p0 a0] (fI r.2) (fun _ => [oJ p0 r.1])) := by
 intro AA
 induction AA with
 | zero => exact ⟨fun p0 a0 a1 a2 a3 r H => (by rw [dW] at H; cases H), fun p0 a0 a1 a2 a3 r H => (by rw [oR] at H; cases H)⟩
 | succ AA ih =>
 obtain ⟨ih_r07_opener_node, ih_r07_opener_define⟩ := ih
 refine ⟨?_, ?_⟩
 intro p0 a0 a1 a2 a3 r H
 rw [dW] at H
 refine bS Tryz.func117 rfl Tryz.ntmps117 rfl (fun β => ?_)
 refine qT (fun v1 v2 v3 v4 v5 => ?_)
 refine aE 1 rfl (fun hc_v1 => ?_)
 refine aE 2 rfl (fun hc_v2 => ?_)
 refine aE 3 rfl (fun hc_v3 => ?_)
 refine aE 4 rfl (fun hc_v4 => ?_)
 refine aE 5 rfl (fun hc_v5 => ?_)
 refine aJ ?_
 refine Z6 ?_
 revert H; refine cs (fun c1 H => ?_) fun c1 H => ?_
 refine Yt c1 ?_
 refine Yt c1 ?_
 refine Yy (bZ rfl hh c1 hh) ?_
 refine Z12 ?_
 refine Z12 ?_
 refine Z1 ?_
 refine bK (φs' := [fSl aC a0.f.AD, fSl tI a0.f.AI, fSl aT a0.f.AB, fSl aA a0.f.AC, fI a0.f.AE, fEq v1, fEq v2, fEq v3, fEq v4, fSl aC a0.p.AD, fEq v5, fSl aA a0.p.AC, fI a0.p.AE, aF true]) a1W rfl rfl (has rfl) (has rfl) (aG a1W) (sz rfl) rfl rfl ?_
 refine Z2 ?_
 refine fA (x := (⟨(⟨a0.f.AD, a0.f.AI, a0.f.AB, a0.f.AC, a0.f.AE⟩ : AF), a0.AO, a0.AQ, a0.AV, a0.AR, (⟨a0.p.AD, a0.p.AB, a0.p.AC, a0.p.AE⟩ : AM), true⟩ : Ad)) ?_
 cases H
 exact dI (.inl rfl) rfl rfl
 refine Yg c1 (bC rfl hh) ?_
 refine Yg c1 (qU rfl hh hh) ?_
 refine Yy (bG rfl hh c1 hh) ?_
 refine Z1 ?_
 revert H; refine is (fun c2 H => ?_) fun c2 H => ?_
 refine Yt c2 ?_
 refine Yt c2 ?_
 refine Yt c2 ?_
 refine Yt c2 ?_
 refine Yt c2 ?_
 refine Yt c2 ?_
 refine Yt c2 ?_
 refine Yt c2 ?_
 refine Yy (bZ rfl hh c2 hh) ?_
 refine Z12 ?_
 refine Z3 ?_
 refine bK (φs' := [fSl aC a0.f.AD, fSl tI a0.f.AI, fSl aT a0.f.AB, fSl aA a0.f.AC, fI a0.f.AE, fEq v1, fEq v2, fEq v3, fEq v4, fSl aC a0.p.AD, fEq v5, fSl aA a0.p.AC, fI a0.p.AE, aF true]) a1W rfl rfl (has rfl) (has rfl) (aG a1W) (sz rfl) rfl rfl ?_
 refine Z2 ?_
 refine fA (x := (⟨(⟨a0.f.AD, a0.f.AI, a0.f.AB, a0.f.AC, a0.f.AE⟩ : AF), a0.AO, a0.AQ, a0.AV, a0.AR, (⟨a0.p.AD, a0.p.AB, a0.p.AC, a0.p.AE⟩ : AM), true⟩ : Ad)) ?_
 cases H
 exact dI (.inl rfl) rfl rfl
 refine Yg c2 (bC rfl hh) ?_
 refine Yg c2 (bC rfl hh) ?_
 refine Yg c2 (fY rfl (has rfl) (fun m v h => ⟨_, h⟩)) ?_
 refine Yg c2 (bE 0 rfl hh (fa rfl) rfl) ?_
 refine Yg c2 (bE 2 rfl hh (fa rfl) rfl) ?_
 refine Yh 0 rfl c2 (aZ rfl hh (sc rfl) rfl Ent.rfl) ?_
 refine Yg c2 (eB rfl hh (us rfl)) ?_
 refine Yg c2 (gZ rfl hh hh) ?_
 refine Yy (bG rfl hh c2 hh) ?_
 refine Z1 ?_
 revert H; refine is (fun c3 H => ?_) fun c3 H => ?_
 refine Yt c3 ?_
 refine Yt c3 ?_
 refine Yt c3 ?_
 refine Yt c3 ?_
 refine Yt c3 ?_
 refine Yt c3 ?_
 refine Yt c3 ?_
 refine Yy (bZ rfl hh c3 hh) ?_
 refine Z6 ?_
 refine bK (φs' := [fSl aC a0.f.AD, fSl tI a0.f.AI, fSl aT a0.f.AB, fSl aA a0.f.AC, fI a0.f.AE, fEq v1, fEq v2, fEq v3, fEq v4, fSl aC a0.p.AD, fEq v5, fSl aA a0.p.AC, fI a0.p.AE, aF true]) a1W rfl rfl (has rfl) (has rfl) (aG a1W) (sz rfl) rfl rfl ?_
 refine Z2 ?_
 refine fA (x := (⟨(⟨a0.f.AD, a0.f.AI, a0.f.AB, a0.f.AC, a0.f.AE⟩ : AF), a0.AO, a0.AQ, a0.AV, a0.AR, (⟨a0.p.AD, a0.p.AB, a0.p.AC, a0.p.AE⟩ : AM), true⟩ : Ad)) ?_
 cases H
 exact dI (.inl rfl) rfl rfl
 refine Yg c3 (bC rfl hh) ?_
 refine Yg c3 (fY rfl (has rfl) (fun m v h => ⟨_, h⟩)) ?_
 refine Yg c3 (bE 5 rfl hh (fa rfl) rfl) ?_
 refine Yh 0 rfl c3 (aZ rfl hh (sc rfl) rfl Ent.rfl) ?_
 refine Yg c3 (bC rfl hh) ?_
 revert H; refine bs fun y1 h1 H => ?_
 refine Yh 1 rfl c3 (fZ rfl hh hh (el rfl) h1) ?_
 refine Yh 1 rfl c3 (iV rfl rfl hh (sc rfl) (eD h1) rfl) ?_
 refine Yy (bG rfl hh c3 hh) ?_
 refine Z1 ?_
 revert H; refine cs (fun c4 H => ?_) fun c4 H => ?_
 refine cL hh c4 ?_
 refine Z4 ?_
 refine bK (φs' := [fSl aC a0.f.AD, fSl tI a0.f.AI, fSl aT a0.f.AB, fSl aA a0.f.AC, fI a0.f.AE, fEq v1, fEq v2, fEq v3, fEq v4, fSl aC a0.p.AD, fEq v5, fSl aA a0.p.AC, fI a0.p.AE, aF true]) a1W rfl rfl (has rfl) (has rfl) (aG a1W) (sz rfl) rfl rfl ?_
 refine Z2 ?_
 refine fA (x := (⟨(⟨a0.f.AD, a0.f.AI, a0.f.AB, a0.f.AC, a0.f.AE⟩ : AF), a0.AO, a0.AQ, a0.AV, a0.AR, (⟨a0.p.AD, a0.p.AB, a0.p.AC, a0.p.AE⟩ : AM), true⟩ : Ad)) ?_
 cases H
 exact dI (.inl rfl) rfl rfl
 refine cM hh c4 ?_
 refine Z8 ?_
 revert H; refine bs fun y2 h2 H => ?_
 refine Yo 1 rfl (fZ rfl hh hh (el rfl) h2) ?_
 refine bI ?_
 refine wE (z' := true) a1W rfl rfl rfl (has rfl) (has rfl) (aG a1W) (sz rfl) (eD h2) rfl rfl ?_
 refine Z1 ?_
 refine aJ ?_
 revert H; refine bs fun y3 h3 H => ?_
 revert H; refine bs fun y4 h4 H => ?_
 apply bL (ods := [_, _, _, _, _, _, _, _, _, _, _, _, _, _, _, _]) 16 0 6 bM rfl rfl rfl
 refine ND ?_
 refine M8 ?_
 intros
 refine M4 ?_
 intros
 refine Mo 2 rfl (fZ rfl hh hh (el rfl) h3) fun _ => ?_
 refine nX (od := odC [2] true (dN) [aB v2 23 (tSl tI) (a0.AQ.set a1.toNat a2)]) (p := 2) (z' := a2) rfl (fun _ => rfl) (fun _ => rfl) a1W rfl rfl rfl rfl (has rfl) (has rfl) (aY) (sz rfl) (eD h3) rfl rfl (fun _ => ?_)
 refine Mo 3 rfl (fZ rfl hh hh (el rfl) h4) fun _ => ?_
 refine nX (od := odC [3] true (dN) [aB v3 3 tI (a0.AV.set a1.toNat a3)]) (p := 3) (z' := a3) rfl (fun _ => rfl) (fun _ => rfl) a1W rfl rfl rfl rfl (has rfl) (has rfl) (aG a1W) (sz rfl) (eD h4) rfl rfl (fun _ => ?_)
 refine Z9 ?_
 revert H; refine bs fun y5 h5 H => ?_
 refine Yy (cF rfl hh hh (el rfl) h5) ?_
 refine Z1 ?_
 refine sU a1W rfl rfl (dG rfl aAW rfl) (fun b1 => ?_)
 refine dV (φs' := [fI y5.Op, fI y5.N, fSl aO y5.Aa, fSl tI y5.AU, fSl tI y5.AI]) a1W rfl rfl (has rfl) (has rfl) (aL (aG a1W) (aL (aG a1W) (aL (aY) (aL (aY) (aL (aY) cE))))) (sz rfl) rfl rfl rfl ?_
 refine Z1 ?_
 revert H; refine bs fun o1 H Hr1 => ?_
 refine aP (ι := Bool) (fun i => o1 = i) (fun i => [(0, fEq (ptr p0)), (1, fI a1), (2, fSl tI a2), (3, fI a3), (8, fEq (ptr b1)), (9, aF i)]) (fun i => [aD b1 55 [fI y5.Op, fI y5.N, fSl aO y5.Aa, fSl tI y5.AU, fSl tI y5.AI], aD p0 102 [fSl aC a0.f.AD, fSl tI a0.f.AI, fSl aT a0.f.AB, fSl aA a0.f.AC, fI a0.f.AE, fEq v1, fEq v2, fEq v3, fEq v4, fSl aC a0.p.AD, fEq v5, fSl aA a0.p.AC, fI a0.p.AE, aF a0.bad], aB v1 4 aN (a0.AO.set a1.toNat true), aB v2 23 (tSl tI) (a0.AQ.set a1.toNat a2), aB v3 3 tI (a0.AV.set a1.toNat a3), aB v4 23 (tSl tI) a0.AR, aB v5 118 aK a0.p.AB]) ?_ ?_
 refine Z5 ?_
 revert H; refine is (fun c5 H => ?_) fun c5 H => ?_
 refine Yt c5 ?_
 refine Yt c5 ?_
 refine Yt c5 ?_
 refine Yy (bZ rfl hh c5 hh) ?_
 refine Z12 ?_
 refine aH [0, 2, 1, 3, 4, 5, 6] (by decide) ?_
 exact cZ (true) (a1L H).symm (Sc (Sc (Sc (Sc (Sc (Sc bQ.nil)))))) rfl
 refine Yg c5 (bE 0 rfl hh (fa rfl) rfl) ?_
 refine Yh 0 rfl c5 (aZ rfl hh (sc rfl) rfl Ent.rfl) ?_
 refine Yg c5 (sH rfl hh hh) ?_
 refine Yy (bG rfl hh c5 hh) ?_
 refine Z1 ?_
 revert H; refine is (fun c6 H => ?_) fun c6 H => ?_
 refine Yt c6 ?_
 refine Yt c6 ?_
 refine Yt c6 ?_
 refine Yy (bZ rfl hh c6 hh) ?_
 refine Z7 ?_
 refine aH [0, 2, 1, 3, 4, 5, 6] (by decide) ?_
 exact cZ (true) (a1L H).symm (Sc (Sc (Sc (Sc (Sc (Sc bQ.nil)))))) rfl
 refine Yg c6 (bE 0 rfl hh (fa rfl) rfl) ?_
 refine Yh 0 rfl c6 (aZ rfl hh (sc rfl) rfl Ent.rfl) ?_
 refine Yg c6 (sH rfl hh hh) ?_
 refine Yy (bG rfl hh c6 hh) ?_
 refine Z1 ?_
 revert H; refine is (fun c7 H => ?_) fun c7 H => ?_
 refine Yt c7 ?_
 refine Yt c7 ?_
 refine Yt c7 ?_
 refine Yy (bZ rfl hh c7 hh) ?_
 refine Z2 ?_
 refine aH [0, 2, 1, 3, 4, 5, 6] (by decide) ?_
 exact cZ (true) (a1L H).symm (Sc (Sc (Sc (Sc (Sc (Sc bQ.nil)))))) rfl
 refine Yg c7 (bE 0 rfl hh (fa rfl) rfl) ?_
 refine Yh 0 rfl c7 (aZ rfl hh (sc rfl) rfl Ent.rfl) ?_
 refine Yg c7 (sH rfl hh hh) ?_
 refine Yy (bG rfl hh c7 hh) ?_
 refine Z2 ?_
 refine aH [0, 2, 1, 3, 4, 5, 6] (by decide) ?_
 exact cZ (decide (y5.Op = 8)) (a1L H).symm (Sc (Sc (Sc (Sc (Sc (Sc bQ.nil)))))) rfl
 clear H; intro x1 hi; subst o1; have H := Hr1; clear Hr1; try dsimp only at H
 try dsimp only
 revert H; refine bs fun o2 H Hr2 => ?_
 refine aP (ι := Unit) (fun i => o2 = Sum.inl ()) (fun i => [(0, fEq (ptr p0)), (1, fI a1), (2, fSl tI a2), (3, fI a3), (8, fEq (ptr b1))]) (fun i => [aD b1 55 [fI y5.Op, fI y5.N, fSl aO y5.Aa, fSl tI y5.AU, fSl tI y5.AI], aD p0 102 [fSl aC a0.f.AD, fSl tI a0.f.AI, fSl aT a0.f.AB, fSl aA a0.f.AC, fI a0.f.AE, fEq v1, fEq v2, fEq v3, fEq v4, fSl aC a0.p.AD, fEq v5, fSl aA a0.p.AC, fI a0.p.AE, aF a0.bad], aB v1 4 aN (a0.AO.set a1.toNat true), aB v2 23 (tSl tI) (a0.AQ.set a1.toNat a2), aB v3 3 tI (a0.AV.set a1.toNat a3), aB v4 23 (tSl tI) a0.AR, aB v5 118 aK a0.p.AB]) ?_ ?_
 refine Z5 ?_
 revert H; refine bs fun y6 h6 H => ?_
 refine iN a1W rfl rfl rfl hh (aM.cons hh (aM.cons hh aM.nil)) rfl (cb rfl) (aCY AA y5.AI (a2.length : Int) y6 h6) rfl ?_
 refine Z2 ?_
 revert H; refine cs (fun c8 H => ?_) fun c8 H => ?_
 refine Yt c8 ?_
 refine Yt c8 ?_
 refine Yt c8 ?_
 refine cQ (⟨_, _, _, _, rfl, rfl, rfl, nu⟩) rfl rfl ?_
 refine cQ (⟨_, _, _, _, rfl, rfl, rfl, nu⟩) rfl rfl ?_
 refine cQ (⟨_, _, _, _, rfl, rfl, rfl, nu⟩) rfl rfl ?_
 refine cQ (⟨_, _, _, _, rfl, rfl, rfl, nu⟩) rfl rfl ?_
 refine Yt c8 ?_
 refine Yy (bZ rfl hh c8 hh) ?_
 refine Z12 ?_
 refine Z6 ?_
 refine bI ?_
 refine bK (φs' := [fSl aC a0.f.AD, fSl tI a0.f.AI, fSl aT a0.f.AB, fSl aA a0.f.AC, fI a0.f.AE, fEq v1, fEq v2, fEq v3, fEq v4, fSl aC a0.p.AD, fEq v5, fSl aA a0.p.AC, fI a0.p.AE, aF true]) a1W rfl rfl (has rfl) (has rfl) (aG a1W) (sz rfl) rfl rfl ?_
 refine Z2 ?_
 revert H; refine bs fun r1 H e1 => ?_
 have e1 := a1L e1; subst e1; have Hr2 := a1L Hr2; subst Hr2
 refine aQ ?_
 refine aQ ?_
 refine aQ ?_
 refine aQ ?_
 refine aQ ?_
 refine cR ?_
 refine fA (x := (⟨(⟨a0.f.AD, a0.f.AI, a0.f.AB, a0.f.AC, a0.f.AE⟩ : AF), a0.AO.set a1.toNat true, a0.AQ.set a1.toNat a2, a0.AV.set a1.toNat a3, a0.AR, (⟨a0.p.AD, a0.p.AB, a0.p.AC, a0.p.AE⟩ : AM), true⟩ : Ad)) ?_
 cases H
 refine aH [0] (by decide) ?_
 exact dI (.inl rfl) rfl rfl
 refine Yg c8 (bC rfl hh) ?_
 refine Yg c8 (iJ rfl hh) ?_
 refine Yg c8 (bC rfl hh) ?_
 revert H; refine cs (fun c9 H => ?_) fun c9 H => ?_
 refine Yg c9 (bE 4 rfl hh (fa rfl) rfl) ?_
 refine Yh 0 rfl c9 (aZ rfl hh (sc rfl) rfl Ent.rfl) ?_
 refine Yg c9 (eB rfl hh (us rfl)) ?_
 refine Yg c9 (eV rfl hh hh) ?_
 refine Yg c8 (bZ rfl hh c9 hh) ?_
 refine Yy (bG rfl hh c8 hh) ?_
 refine Z1 ?_
 revert H; refine is (fun c10 H => ?_) fun c10 H => ?_
 refine Yt c10 ?_
 refine Yt c10 ?_
 refine Yt c10 ?_
 refine Yt c10 ?_
 refine Yy (bZ rfl hh c10 hh) ?_
 refine Z12 ?_
 refine bI ?_
 refine bK (φs' := [fSl aC a0.f.AD, fSl tI a0.f.AI, fSl aT a0.f.AB, fSl aA a0.f.AC, fI a0.f.AE, fEq v1, fEq v2, fEq v3, fEq v4, fSl aC a0.p.AD, fEq v5, fSl aA a0.p.AC, fI a0.p.AE, aF true]) a1W rfl rfl (has rfl) (has rfl) (aG a1W) (sz rfl) rfl rfl ?_
 refine Z2 ?_
 revert H; refine bs fun r2 H e2 => ?_
 have e2 := a1L e2; subst e2; have Hr2 := a1L Hr2; subst Hr2
 refine aQ ?_
 refine aQ ?_
 refine aQ ?_
 refine aQ ?_
 refine aQ ?_
 refine cR ?_
 refine fA (x := (⟨(⟨a0.f.AD, a0.f.AI, a0.f.AB, a0.f.AC, a0.f.AE⟩ : AF), a0.AO.set a1.toNat true, a0.AQ.set a1.toNat a2, a0.AV.set a1.toNat a3, a0.AR, (⟨a0.p.AD, a0.p.AB, a0.p.AC, a0.p.AE⟩ : AM), true⟩ : Ad)) ?_
 cases H
 refine aH [0] (by decide) ?_
 exact dI (.inl rfl) rfl rfl
 refine Yg c10 (bE 2 rfl hh (fa rfl) rfl) ?_
 refine Yh 0 rfl c10 (aZ rfl hh (sc rfl) rfl Ent.rfl) ?_
 refine Yg c10 (eB rfl hh (us rfl)) ?_
 refine Yg c10 (eV rfl hh hh) ?_
 refine Yy (bG rfl hh c10 hh) ?_
 refine Z1 ?_
 revert H; refine is (fun c11 H => ?_) fun c11 H => ?_
 refine Yt c11 ?_
 refine Yt c11 ?_
 refine Yt c11 ?_
 refine Yt c11 ?_
 refine Yy (bZ rfl hh c11 hh) ?_
 refine Z6 ?_
 refine bI ?_
 refine bK (φs' := [fSl aC a0.f.AD, fSl tI a0.f.AI, fSl aT a0.f.AB, fSl aA a0.f.AC, fI a0.f.AE, fEq v1, fEq v2, fEq v3, fEq v4, fSl aC a0.p.AD, fEq v5, fSl aA a0.p.AC, fI a0.p.AE, aF true]) a1W rfl rfl (has rfl) (has rfl) (aG a1W) (sz rfl) rfl rfl ?_
 refine Z2 ?_
 revert H; refine bs fun r3 H e3 => ?_
 have e3 := a1L e3; subst e3; have Hr2 := a1L Hr2; subst Hr2
 refine aQ ?_
 refine aQ ?_
 refine aQ ?_
 refine aQ ?_
 refine aQ ?_
 refine cR ?_
 refine fA (x := (⟨(⟨a0.f.AD, a0.f.AI, a0.f.AB, a0.f.AC, a0.f.AE⟩ : AF), a0.AO.set a1.toNat true, a0.AQ.set a1.toNat a2, a0.AV.set a1.toNat a3, a0.AR, (⟨a0.p.AD, a0.p.AB, a0.p.AC, a0.p.AE⟩ : AM), true⟩ : Ad)) ?_
 cases H
 refine aH [0] (by decide) ?_
 exact dI (.inl rfl) rfl rfl
 refine Yg c11 (bE 3 rfl hh (fa rfl) rfl) ?_
 refine Yh 0 rfl c11 (aZ rfl hh (sc rfl) rfl Ent.rfl) ?_
 refine Yg c11 (eB rfl hh (us rfl)) ?_
 refine Yg c11 (eV rfl hh hh) ?_
 refine Yy (bG rfl hh c11 hh) ?_
 refine Z1 ?_
 revert H; refine is (fun c12 H => ?_) fun c12 H => ?_
 refine cL hh c12 ?_
 refine Z4 ?_
 refine bI ?_
 refine bK (φs' := [fSl aC a0.f.AD, fSl tI a0.f.AI, fSl aT a0.f.AB, fSl aA a0.f.AC, fI a0.f.AE, fEq v1, fEq v2, fEq v3, fEq v4, fSl aC a0.p.AD, fEq v5, fSl aA a0.p.AC, fI a0.p.AE, aF true]) a1W rfl rfl (has rfl) (has rfl) (aG a1W) (sz rfl) rfl rfl ?_
 refine Z2 ?_
 revert H; refine bs fun r4 H e4 => ?_
 have e4 := a1L e4; subst e4; have Hr2 := a1L Hr2; subst Hr2
 refine aQ ?_
 refine aQ ?_
 refine aQ ?_
 refine aQ ?_
 refine aQ ?_
 refine cR ?_
 refine fA (x := (⟨(⟨a0.f.AD, a0.f.AI, a0.f.AB, a0.f.AC, a0.f.AE⟩ : AF), a0.AO.set a1.toNat true, a0.AQ.set a1.toNat a2, a0.AV.set a1.toNat a3, a0.AR, (⟨a0.p.AD, a0.p.AB, a0.p.AC, a0.p.AE⟩ : AM), true⟩ : Ad)) ?_
 cases H
 refine aH [0] (by decide) ?_
 exact dI (.inl rfl) rfl rfl
 refine cM hh c12 ?_
 refine Z2 ?_
 exact cZ (()) (a1L H).symm (Sc (Sc (Sc (Sc (Sc bQ.nil))))) rfl
 refine Yf c9 ?_
 refine Yf c9 ?_
 refine Yf c9 ?_
 refine Yf c9 ?_
 refine Yg c8 (bG rfl hh c9 hh) ?_
 refine Yy (bG rfl hh c8 hh) ?_
 refine Z7 ?_
 revert H; refine is (fun c13 H => ?_) fun c13 H => ?_
 refine Yt c13 ?_
 refine Yt c13 ?_
 refine Yt c13 ?_
 refine Yt c13 ?_
 refine Yy (bZ rfl hh c13 hh) ?_
 refine Z6 ?_
 refine bI ?_
 refine bK (φs' := [fSl aC a0.f.AD, fSl tI a0.f.AI, fSl aT a0.f.AB, fSl aA a0.f.AC, fI a0.f.AE, fEq v1, fEq v2, fEq v3, fEq v4, fSl aC a0.p.AD, fEq v5, fSl aA a0.p.AC, fI a0.p.AE, aF true]) a1W rfl rfl (has rfl) (has rfl) (aG a1W) (sz rfl) rfl rfl ?_
 refine Z2 ?_
 revert H; refine bs fun r5 H e5 => ?_
 have e5 := a1L e5; subst e5; have Hr2 := a1L Hr2; subst Hr2
 refine aQ ?_
 refine aQ ?_
 refine aQ ?_
 refine aQ ?_
 refine aQ ?_
 refine cR ?_
 refine fA (x := (⟨(⟨a0.f.AD, a0.f.AI, a0.f.AB, a0.f.AC, a0.f.AE⟩ : AF), a0.AO.set a1.toNat true, a0.AQ.set a1.toNat a2, a0.AV.set a1.toNat a3, a0.AR, (⟨a0.p.AD, a0.p.AB, a0.p.AC, a0.p.AE⟩ : AM), true⟩ : Ad)) ?_
 cases H
 refine aH [0] (by decide) ?_
 exact dI (.inl rfl) rfl rfl
 refine Yg c13 (bE 3 rfl hh (fa rfl) rfl) ?_
 refine Yh 0 rfl c13 (aZ rfl hh (sc rfl) rfl Ent.rfl) ?_
 refine Yg c13 (eB rfl hh (us rfl)) ?_
 refine Yg c13 (eV rfl hh hh) ?_
 refine Yy (bG rfl hh c13 hh) ?_
 refine Z1 ?_
 revert H; refine is (fun c14 H => ?_) fun c14 H => ?_
 refine cL hh c14 ?_
 refine Z4 ?_
 refine bI ?_
 refine bK (φs' := [fSl aC a0.f.AD, fSl tI a0.f.AI, fSl aT a0.f.AB, fSl aA a0.f.AC, fI a0.f.AE, fEq v1, fEq v2, fEq v3, fEq v4, fSl aC a0.p.AD, fEq v5, fSl aA a0.p.AC, fI a0.p.AE, aF true]) a1W rfl rfl (has rfl) (has rfl) (aG a1W) (sz rfl) rfl rfl ?_
 refine Z2 ?_
 revert H; refine bs fun r6 H e6 => ?_
 have e6 := a1L e6; subst e6; have Hr2 := a1L Hr2; subst Hr2
 refine aQ ?_
 refine aQ ?_
 refine aQ ?_
 refine aQ ?_
 refine aQ ?_
 refine cR ?_
 refine fA (x := (⟨(⟨a0.f.AD, a0.f.AI, a0.f.AB, a0.f.AC, a0.f.AE⟩ : AF), a0.AO.set a1.toNat true, a0.AQ.set a1.toNat a2, a0.AV.set a1.toNat a3, a0.AR, (⟨a0.p.AD, a0.p.AB, a0.p.AC, a0.p.AE⟩ : AM), true⟩ : Ad)) ?_
 cases H
 refine aH [0] (by decide) ?_
 exact dI (.inl rfl) rfl rfl
 refine cM hh c14 ?_
 refine Z2 ?_
 exact cZ (()) (a1L H).symm (Sc (Sc (Sc (Sc (Sc bQ.nil))))) rfl
 clear H; intro i hi; subst o2; have H := Hr2; clear Hr2; try dsimp only at H
 try dsimp only
 refine Z4 ?_
 revert H; refine bs fun y7 h7 H => ?_
 refine iN a1W rfl rfl rfl hh (aM.cons hh (aM.cons hh aM.nil)) rfl (cb rfl) (r07_at_w AA a2 y5.AI y7 h7) rfl ?_
 refine Z9 ?_
 revert H; refine bs fun y8 h8 H => ?_
 refine Yo 5 rfl (fZ rfl hh hh (el rfl) h8) ?_
 refine cR ?_
 refine wE (z' := y7) a1W rfl rfl rfl (has rfl) (has rfl) (aY) (sz rfl) (eD h8) rfl rfl ?_
 refine Z1 ?_
 refine aJ ?_
 revert H; refine bs fun z1 h9 H => ?_
 apply bL (ods := [_, _, _, _, _, _, _, _, _, _]) 10 1 8 bM rfl rfl rfl
 refine ND ?_
 refine M6 ?_
 intros
 refine wJ (od := odC [] true (fSl tI z1) []) rfl (fun _ => rfl) a1W rfl rfl (has rfl) (has rfl) (et rfl) rfl h9 (fun _ => ?_)
 refine My (gL (ψs := [fI y5.Op, fI y5.N, fEq (.slice none 0 0), fSl tI z1]) rfl aC6 rfl (bP.cons (has rfl) (cY (aG a1W)) (bP.cons (has rfl) (cY (aG a1W)) (bP.cons (has rfl) (cY (aY)) bP.nil))) rfl) fun _ => ?_
 refine Mn 7 (fun b2 => ptr b2) (fun b2 => aD b2 118 [fI 0, fI 0, fEq (.slice none 0 0), fEq (.slice none 0 0)]) rfl (dG rfl sE rfl) (fun b2 u1 => ?_)
 refine oX (od := od1 8 [7] true (fun b2 _ => dN) (fun b2 _ => [aD b2 118 [fI y5.Op, fI y5.N, fEq (.slice none 0 0), fSl tI z1]])) (p := 7) (φs' := [fI y5.Op, fI y5.N, fEq (.slice none 0 0), fSl tI z1]) rfl (fun _ => rfl) (fun _ => rfl) a1W rfl rfl rfl (has rfl) (has rfl) (aL (aG a1W) (aL (aG a1W) (aL (aG a1W) (aL (aY) cE)))) (sz rfl) rfl rfl rfl (fun _ => ?_)
 refine Z2 ?_
 revert H; refine bs fun o3 H Hr3 => ?_
 refine aP (ι := List AW × Value) (fun i => o3 = Sum.inl i.1) (fun i => [(0, fEq (ptr p0)), (1, fI a1), (2, fSl tI a2), (3, fI a3), (8, fEq (ptr b1)), (10, fSl tI y7), (11, fEq (ptr b2))]) (fun i => [aD b1 55 [fI y5.Op, fI y5.N, fSl aO y5.Aa, fSl tI y5.AU, fSl tI y5.AI], aD p0 102 [fSl aC a0.f.AD, fSl tI a0.f.AI, fSl aT a0.f.AB, fSl aA a0.f.AC, fI a0.f.AE, fEq v1, fEq v2, fEq v3, fEq v4, fSl aC a0.p.AD, fEq v5, fSl aA a0.p.AC, fI a0.p.AE, aF a0.bad], aD b2 118 [fI y5.Op, fI y5.N, fEq i.2, fSl tI z1], aB v1 4 aN (a0.AO.set a1.toNat true), aB v2 23 (tSl tI) (a0.AQ.set a1.toNat a2), aB v3 3 tI (a0.AV.set a1.toNat a3), aB v4 23 (tSl tI) (a0.AR.set a1.toNat y7), aB v5 118 aK a0.p.AB, aB i.2 124 aO i.1]) ?_ ?_
 refine Z4 ?_
 refine gR aO 124 ?_
 refine aH [2, 3, 8, 4, 5, 6, 1, 7, 0] (by decide) ?_
 refine pD (ι := Nat × Int × List AW × Value) (fun i => lX AA a0 a1 a2 a3 y5 y7 i.1 i.2.1 i.2.2.1 = _) (fun i => i.1) (fun i => [(0, fEq (ptr p0)), (1, fI a1), (2, fSl tI a2), (3, fI a3), (8, fEq (ptr b1)), (10, fSl tI y7), (11, fEq (ptr b2)), (12, fI i.2.1)]) (fun i => [aD b1 55 [fI y5.Op, fI y5.N, fSl aO y5.Aa, fSl tI y5.AU, fSl tI y5.AI], aD p0 102 [fSl aC a0.f.AD, fSl tI a0.f.AI, fSl aT a0.f.AB, fSl aA a0.f.AC, fI a0.f.AE, fEq v1, fEq v2, fEq v3, fEq v4, fSl aC a0.p.AD, fEq v5, fSl aA a0.p.AC, fI a0.p.AE, aF a0.bad], aD b2 118 [fI y5.Op, fI y5.N, fEq i.2.2.2, fSl tI z1], aB v1 4 aN (a0.AO.set a1.toNat true), aB v2 23 (tSl tI) (a0.AQ.set a1.toNat a2), aB v3 3 tI (a0.AV.set a1.toNat a3), aB v4 23 (tSl tI) (a0.AR.set a1.toNat y7), aB v5 118 aK a0.p.AB, aB i.2.2.2 124 aO i.2.2.1]) (AA, 0, [], (.slice none 0 0)) H (Sc (Sc (Sc (Sc (Sc (Sc (Sc (Sc bQ.nil)))))))) rfl ?_
 clear H; rintro ⟨k1, x5, x6, v8⟩ H
 replace H : lX AA a0 a1 a2 a3 y5 y7 k1 x5 x6 = _ := H
 try dsimp only
 obtain _ | k1 := k1
 rw [lX] at H; cases H
 rw [lX] at H
 refine aE 8 rfl (fun hc_v8 => ?_)
 refine aJ ?_
 refine Z7 ?_
 revert H; refine is (fun c15 H => ?_) fun c15 H => ?_
 refine cL hh c15 ?_
 refine Z2 ?_
 refine aJ ?_
 refine Z1 ?_
 refine aJ ?_
 refine Z4 ?_
 revert H; refine bs fun y9 h10 H => ?_
 refine Yy (cF rfl hh hh (el rfl) h10) ?_
 refine Z3 ?_
 revert H; refine bs fun y10 h11 H => ?_
 refine iN a1W rfl rfl rfl hh (aM.cons hh (aM.cons hh aM.nil)) rfl (cb rfl) (aDy AA y9 (a2.length : Int) y10 h11) rfl ?_
 refine Z2 ?_
 revert H; refine cs (fun c16 H => ?_) fun c16 H => ?_
 refine cM hh (iQ c16) ?_
 refine Z2 ?_
 revert H; refine bs fun y11 h12 H => ?_
 revert H; refine bs fun y12 h13 H => ?_
 apply bL (ods := [_, _, _, _, _, _, _, _, _, _]) 10 0 9 bM rfl rfl rfl
 refine ND ?_
 refine M5 ?_
 intros
 refine My (cF rfl hh hh (el rfl) h12) fun _ => ?_
 refine M2 ?_
 intros
 refine sF (od := odC [] true (fSt aO y12) []) (Φ := fSt aO y12) rfl (fun _ => rfl) a1W rfl rfl (has rfl) (aM.cons (has rfl) (aM.cons (has rfl) aM.nil)) rfl (cb rfl) (aGC AA y11 a2 y12 h13) (fun _ => ?_)
 refine Mf (φ := fSl aO [y12]) (fV (t := aO) (xs := [y12]) rfl (et rfl) (cP.cons rfl (has rfl) cJ cP.nil) rfl rfl rfl) (fun b => cU) fun _ => ?_
 refine Z1 ?_
 revert H; refine bs fun z2 h14 H => ?_
 refine T_fr8 ?_
 refine pE (ys := [y12]) a1W rfl rfl rfl (has rfl) (has rfl) (et rfl) rfl h14 (fun v10 => ?_)
 refine aE 0 rfl (fun hc_v10 => ?_)
 refine Z1 ?_
 refine dM ?_
 refine bK (φs' := [fI y5.Op, fI y5.N, fEq v10, fSl tI z1]) a1W rfl rfl (has rfl) (has rfl) (aG hc_v10) (sz rfl) rfl rfl ?_
 refine Z5 ?_
 revert H; refine bs fun z3 h15 H => ?_
 refine Yy (dT rfl hh hh h15) ?_
 refine Z2 ?_
 refine aH [2, 3, 0, 4, 5, 6, 7, 8, 1] (by decide) ?_
 exact cZ ((k1, z3, z2, v10)) ⟨H, a1C _⟩ (Sc (Sc (Sc (Sc (Sc (Sc (Sc (Sc bQ.nil)))))))) rfl
 exact fk
 kernel_rfl
 refine cL hh (iU c16) ?_
 refine Z4 ?_
 refine bI ?_
 refine bK (φs' := [fSl aC a0.f.AD, fSl tI a0.f.AI, fSl aT a0.f.AB, fSl aA a0.f.AC, fI a0.f.AE, fEq v1, fEq v2, fEq v3, fEq v4, fSl aC a0.p.AD, fEq v5, fSl aA a0.p.AC, fI a0.p.AE, aF true]) a1W rfl rfl (has rfl) (has rfl) (aG a1W) (sz rfl) rfl rfl ?_
 refine Z7 ?_
 revert H; refine bs fun r7 H e7 => ?_
 have e7 := a1L e7; subst e7; have Hr3 := a1L Hr3; subst Hr3
 refine dF ?_
 refine dF ?_
 refine dF ?_
 refine dF ?_
 refine dF ?_
 refine cR ?_
 refine fA (x := (⟨(⟨a0.f.AD, a0.f.AI, a0.f.AB, a0.f.AC, a0.f.AE⟩ : AF), a0.AO.set a1.toNat true, a0.AQ.set a1.toNat a2, a0.AV.set a1.toNat a3, a0.AR.set a1.toNat y7, (⟨a0.p.AD, a0.p.AB, a0.p.AC, a0.p.AE⟩ : AM), true⟩ : Ad)) ?_
 cases H
 refine aH [0] (by decide) ?_
 exact dI (.inl rfl) rfl rfl
 refine cM hh c15 ?_
 refine Z5 ?_
 exact cZ ((x6, v8)) (a1L H).symm (Sc (Sc (Sc (Sc (Sc (Sc (Sc bQ.nil))))))) rfl
 clear H; intro i hi; obtain ⟨x2, v6⟩ := i; subst o3; have H := Hr3; clear Hr3; try dsimp only at H
 try dsimp only
 refine aE 8 rfl (fun hc_v6 => ?_)
 refine Z4 ?_
 revert H; refine bs fun o4 H Hr4 => ?_
 refine aP (ι := Int × List Int × List ByteArray × List Int × List Ao × List AN × Int × List Bool × List (List Int) × List Int × List (List Int) × List ByteArray × List Ae × List AN × Int × Bool × Int × Value × Value × Value × Value × Value) (fun i => o4 = (i.1, i.2.1, i.2.2.1, i.2.2.2.1, i.2.2.2.2.1, i.2.2.2.2.2.1, i.2.2.2.2.2.2.1, i.2.2.2.2.2.2.2.1, i.2.2.2.2.2.2.2.2.1, i.2.2.2.2.2.2.2.2.2.1, i.2.2.2.2.2.2.2.2.2.2.1, i.2.2.2.2.2.2.2.2.2.2.2.1, i.2.2.2.2.2.2.2.2.2.2.2.2.1, i.2.2.2.2.2.2.2.2.2.2.2.2.2.1, i.2.2.2.2.2.2.2.2.2.2.2.2.2.2.1, i.2.2.2.2.2.2.2.2.2.2.2.2.2.2.2.1, i.2.2.2.2.2.2.2.2.2.2.2.2.2.2.2.2.1)) (fun i => [(0, fEq (ptr p0)), (1, fI a1), (3, fI i.1), (8, fEq (ptr b1)), (11, fEq (ptr b2)), (13, fSl tI i.2.1)]) (fun i => [aD p0 102 [fSl aC i.2.2.1, fSl tI i.2.2.2.1, fSl aT i.2.2.2.2.1, fSl aA i.2.2.2.2.2.1, fI i.2.2.2.2.2.2.1, fEq i.2.2.2.2.2.2.2.2.2.2.2.2.2.2.2.2.2.1, fEq i.2.2.2.2.2.2.2.2.2.2.2.2.2.2.2.2.2.2.1, fEq i.2.2.2.2.2.2.2.2.2.2.2.2.2.2.2.2.2.2.2.1, fEq i.2.2.2.2.2.2.2.2.2.2.2.2.2.2.2.2.2.2.2.2.1, fSl aC i.2.2.2.2.2.2.2.2.2.2.2.1, fEq i.2.2.2.2.2.2.2.2.2.2.2.2.2.2.2.2.2.2.2.2.2, fSl aA i.2.2.2.2.2.2.2.2.2.2.2.2.2.1, fI i.2.2.2.2.2.2.2.2.2.2.2.2.2.2.1, aF i.2.2.2.2.2.2.2.2.2.2.2.2.2.2.2.1], aD b1 55 [fI y5.Op, fI y5.N, fSl aO y5.Aa, fSl tI y5.AU, fSl tI y5.AI], aD b2 118 [fI y5.Op, fI i.2.2.2.2.2.2.2.2.2.2.2.2.2.2.2.2.1, fEq v6, fSl tI z1], aB i.2.2.2.2.2.2.2.2.2.2.2.2.2.2.2.2.2.1 4 aN i.2.2.2.2.2.2.2.1, aB i.2.2.2.2.2.2.2.2.2.2.2.2.2.2.2.2.2.2.1 23 (tSl tI) i.2.2.2.2.2.2.2.2.1, aB i.2.2.2.2.2.2.2.2.2.2.2.2.2.2.2.2.2.2.2.1 3 tI i.2.2.2.2.2.2.2.2.2.1, aB i.2.2.2.2.2.2.2.2.2.2.2.2.2.2.2.2.2.2.2.2.1 23 (tSl tI) i.2.2.2.2.2.2.2.2.2.2.1, aB i.2.2.2.2.2.2.2.2.2.2.2.2.2.2.2.2.2.2.2.2.2 118 aK i.2.2.2.2.2.2.2.2.2.2.2.2.1, aB v6 124 aO x2]) ?_ ?_
 refine Z9 ?_
 revert H; refine is (fun c17 H => ?_) fun c17 H => ?_
 refine cL hh c17 ?_
 revert H; refine bs fun o5 H Hr5 => ?_
 refine aP (ι := Bool) (fun i => o5 = i) (fun i => [(0, fEq (ptr p0)), (1, fI a1), (2, fSl tI a2), (3, fI a3), (8, fEq (ptr b1)), (11, fEq (ptr b2)), (13, fSl tI a2)]) (fun i => [aD p0 102 [fSl aC a0.f.AD, fSl tI a0.f.AI, fSl aT a0.f.AB, fSl aA a0.f.AC, fI a0.f.AE, fEq v1, fEq v2, fEq v3, fEq v4, fSl aC a0.p.AD, fEq v5, fSl aA a0.p.AC, fI a0.p.AE, aF i], aD b1 55 [fI y5.Op, fI y5.N, fSl aO y5.Aa, fSl tI y5.AU, fSl tI y5.AI], aD b2 118 [fI y5.Op, fI y5.N, fEq v6, fSl tI z1], aB v1 4 aN (a0.AO.set a1.toNat true), aB v2 23 (tSl tI) (a0.AQ.set a1.toNat a2), aB v3 3 tI (a0.AV.set a1.toNat a3), aB v4 23 (tSl tI) (a0.AR.set a1.toNat y7), aB v5 118 aK a0.p.AB, aB v6 124 aO x2]) ?_ ?_
 refine Z6 ?_
 revert H; refine is (fun c18 H => ?_) fun c18 H => ?_
 refine Yt c18 ?_
 refine Yt c18 ?_
 refine Yt c18 ?_
 refine Yt c18 ?_
 refine Yt c18 ?_
 refine Yy (bZ rfl hh c18 hh) ?_
 refine Z2 ?_
 refine bI ?_
 refine bK (φs' := [fSl aC a0.f.AD, fSl tI a0.f.AI, fSl aT a0.f.AB, fSl aA a0.f.AC, fI a0.f.AE, fEq v1, fEq v2, fEq v3, fEq v4, fSl aC a0.p.AD, fEq v5, fSl aA a0.p.AC, fI a0.p.AE, aF true]) a1W rfl rfl (has rfl) (has rfl) (aG a1W) (sz rfl) rfl rfl ?_
 refine Z1 ?_
 exact cZ (true) (a1L H).symm (Sc (Sc (Sc (Sc (Sc (Sc (Sc bQ.nil))))))) rfl
 refine Yg c18 (bE 1 rfl hh (fa rfl) rfl) ?_
 refine Yh 0 rfl c18 (aZ rfl hh (sc rfl) rfl Ent.rfl) ?_
 refine Yg c18 (bC rfl hh) ?_
 refine Yg c18 (eB rfl hh (us rfl)) ?_
 refine Yg c18 (gZ rfl hh hh) ?_
 refine Yy (bG rfl hh c18 hh) ?_
 refine Z2 ?_
 refine bI ?_
 refine bK (φs' := [fSl aC a0.f.AD, fSl tI a0.f.AI, fSl aT a0.f.AB, fSl aA a0.f.AC, fI a0.f.AE, fEq v1, fEq v2, fEq v3, fEq v4, fSl aC a0.p.AD, fEq v5, fSl aA a0.p.AC, fI a0.p.AE, aF (decide ((a2.length : Int) <= y5.N))]) a1W rfl rfl (has rfl) (has rfl) (aG a1W) (sz rfl) rfl rfl ?_
 refine Z1 ?_
 exact cZ (decide ((a2.length : Int) <= y5.N)) (a1L H).symm (Sc (Sc (Sc (Sc (Sc (Sc (Sc bQ.nil))))))) rfl
 clear H; intro x24 hi; subst o5; have H := Hr5; clear Hr5; try dsimp only at H
 try dsimp only
 refine Z7 ?_
 revert H; refine cs (fun c19 H => ?_) fun c19 H => ?_
 refine cM hh (iQ c19) ?_
 refine Z3 ?_
 exact cZ ((a3, a2, a0.f.AD, a0.f.AI, a0.f.AB, a0.f.AC, a0.f.AE, a0.AO.set a1.toNat true, a0.AQ.set a1.toNat a2, a0.AV.set a1.toNat a3, a0.AR.set a1.toNat y7, a0.p.AD, a0.p.AB, a0.p.AC, a0.p.AE, x24, y5.N, v1, v2, v3, v4, v5)) (a1L H).symm (Sc (Sc (Sc (Sc (Sc (Sc bQ.nil)))))) rfl
 refine cL hh (iU c19) ?_
 refine Z4 ?_
 revert H; refine bs fun y13 h16 H => ?_
 refine Yy (cF rfl hh hh (el rfl) h16) ?_
 refine Z2 ?_
 refine eH ?_
 refine bK (φs' := [fI y5.Op, fI y13, fEq v6, fSl tI z1]) a1W rfl rfl (has rfl) (has rfl) (aG a1W) (sz rfl) rfl rfl ?_
 refine Z3 ?_
 refine aH [1, 2, 0, 3, 4, 5, 6, 7, 8] (by decide) ?_
 exact cZ ((a3, a2, a0.f.AD, a0.f.AI, a0.f.AB, a0.f.AC, a0.f.AE, a0.AO.set a1.toNat true, a0.AQ.set a1.toNat a2, a0.AV.set a1.toNat a3, a0.AR.set a1.toNat y7, a0.p.AD, a0.p.AB, a0.p.AC, a0.p.AE, x24, y13, v1, v2, v3, v4, v5)) (a1L H).symm (Sc (Sc (Sc (Sc (Sc (Sc bQ.nil)))))) rfl
 refine cM hh c17 ?_
 revert H; refine bs fun o6 H Hr6 => ?_
 refine aP (ι := Bool) (fun i => o6 = i) (fun i => [(0, fEq (ptr p0)), (1, fI a1), (2, fSl tI a2), (3, fI a3), (8, fEq (ptr b1)), (10, fSl tI y7), (11, fEq (ptr b2)), (13, fSl tI a2), (175, fI y5.Op), (202, aF i)]) (fun i => [aD b1 55 [fI y5.Op, fI y5.N, fSl aO y5.Aa, fSl tI y5.AU, fSl tI y5.AI], aD p0 102 [fSl aC a0.f.AD, fSl tI a0.f.AI, fSl aT a0.f.AB, fSl aA a0.f.AC, fI a0.f.AE, fEq v1, fEq v2, fEq v3, fEq v4, fSl aC a0.p.AD, fEq v5, fSl aA a0.p.AC, fI a0.p.AE, aF a0.bad], aD b2 118 [fI y5.Op, fI y5.N, fEq v6, fSl tI z1], aB v1 4 aN (a0.AO.set a1.toNat true), aB v2 23 (tSl tI) (a0.AQ.set a1.toNat a2), aB v3 3 tI (a0.AV.set a1.toNat a3), aB v4 23 (tSl tI) (a0.AR.set a1.toNat y7), aB v5 118 aK a0.p.AB, aB v6 124 aO x2]) ?_ ?_
 refine Z4 ?_
 revert H; refine is (fun c20 H => ?_) fun c20 H => ?_
 refine cL hh c20 ?_
 refine Z2 ?_
 exact cZ (decide (y5.Op = 6)) (a1L H).symm (Sc (Sc (Sc (Sc (Sc (Sc (Sc (Sc (Sc (Sc bQ.nil)))))))))) rfl
 refine cM hh c20 ?_
 refine Z4 ?_
 exact cZ (decide (y5.Op = 8)) (a1L H).symm (Sc (Sc (Sc (Sc (Sc (Sc (Sc (Sc (Sc (Sc bQ.nil)))))))))) rfl
 clear H; intro x25 hi; subst o6; have H := Hr6; clear Hr6; try dsimp only at H
 try dsimp only
 revert H; refine cs (fun c21 H => ?_) fun c21 H => ?_
 refine cL hh c21 ?_
 revert H; refine bs fun o7 H Hr7 => ?_
 refine aP (ι := Bool) (fun i => o7 = i) (fun i => [(0, fEq (ptr p0)), (1, fI a1), (3, fI a3), (8, fEq (ptr b1)), (10, fSl tI y7), (11, fEq (ptr b2))]) (fun i => [aD p0 102 [fSl aC a0.f.AD, fSl tI a0.f.AI, fSl aT a0.f.AB, fSl aA a0.f.AC, fI a0.f.AE, fEq v1, fEq v2, fEq v3, fEq v4, fSl aC a0.p.AD, fEq v5, fSl aA a0.p.AC, fI a0.p.AE, aF i], aD b1 55 [fI y5.Op, fI y5.N, fSl aO y5.Aa, fSl tI y5.AU, fSl tI y5.AI], aD b2 118 [fI y5.Op, fI y5.N, fEq v6, fSl tI z1], aB v1 4 aN (a0.AO.set a1.toNat true), aB v2 23 (tSl tI) (a0.AQ.set a1.toNat a2), aB v3 3 tI (a0.AV.set a1.toNat a3), aB v4 23 (tSl tI) (a0.AR.set a1.toNat y7), aB v5 118 aK a0.p.AB, aB v6 124 aO x2]) ?_ ?_
 refine Z6 ?_
 revert H; refine is (fun c22 H => ?_) fun c22 H => ?_
 refine Yt c22 ?_
 refine Yt c22 ?_
 refine Yt c22 ?_
 refine Yt c22 ?_
 refine Yt c22 ?_
 refine Yy (bZ rfl hh c22 hh) ?_
 refine Z2 ?_
 refine bI ?_
 refine bK (φs' := [fSl aC a0.f.AD, fSl tI a0.f.AI, fSl aT a0.f.AB, fSl aA a0.f.AC, fI a0.f.AE, fEq v1, fEq v2, fEq v3, fEq v4, fSl aC a0.p.AD, fEq v5, fSl aA a0.p.AC, fI a0.p.AE, aF true]) a1W rfl rfl (has rfl) (has rfl) (aG a1W) (sz rfl) rfl rfl ?_
 refine Z1 ?_
 exact cZ (true) (a1L H).symm (Sc (Sc (Sc (Sc (Sc (Sc bQ.nil)))))) rfl
 refine Yg c22 (bE 1 rfl hh (fa rfl) rfl) ?_
 refine Yh 0 rfl c22 (aZ rfl hh (sc rfl) rfl Ent.rfl) ?_
 refine Yg c22 (bC rfl hh) ?_
 refine Yg c22 (eB rfl hh (us rfl)) ?_
 refine Yg c22 (gZ rfl hh hh) ?_
 refine Yy (bG rfl hh c22 hh) ?_
 refine Z2 ?_
 refine bI ?_
 refine bK (φs' := [fSl aC a0.f.AD, fSl tI a0.f.AI, fSl aT a0.f.AB, fSl aA a0.f.AC, fI a0.f.AE, fEq v1, fEq v2, fEq v3, fEq v4, fSl aC a0.p.AD, fEq v5, fSl aA a0.p.AC, fI a0.p.AE, aF (decide ((y7.length : Int) <= y5.N))]) a1W rfl rfl (has rfl) (has rfl) (aG a1W) (sz rfl) rfl rfl ?_
 refine Z1 ?_
 exact cZ (decide ((y7.length : Int) <= y5.N)) (a1L H).symm (Sc (Sc (Sc (Sc (Sc (Sc bQ.nil)))))) rfl
 clear H; intro x26 hi; subst o7; have H := Hr7; clear Hr7; try dsimp only at H
 try dsimp only
 revert H; refine bs fun o8 H Hr8 => ?_
 refine aP (ι := Int) (fun i => o8 = i) (fun i => [(0, fEq (ptr p0)), (1, fI a1), (3, fI a3), (8, fEq (ptr b1)), (10, fSl tI y7), (11, fEq (ptr b2))]) (fun i => [aD p0 102 [fSl aC a0.f.AD, fSl tI a0.f.AI, fSl aT a0.f.AB, fSl aA a0.f.AC, fI a0.f.AE, fEq v1, fEq v2, fEq v3, fEq v4, fSl aC a0.p.AD, fEq v5, fSl aA a0.p.AC, fI a0.p.AE, aF x26], aD b1 55 [fI y5.Op, fI y5.N, fSl aO y5.Aa, fSl tI y5.AU, fSl tI y5.AI], aD b2 118 [fI y5.Op, fI i, fEq v6, fSl tI z1], aB v1 4 aN (a0.AO.set a1.toNat true), aB v2 23 (tSl tI) (a0.AQ.set a1.toNat a2), aB v3 3 tI (a0.AV.set a1.toNat a3), aB v4 23 (tSl tI) (a0.AR.set a1.toNat y7), aB v5 118 aK a0.p.AB, aB v6 124 aO x2]) ?_ ?_
 refine Z7 ?_
 revert H; refine cs (fun c23 H => ?_) fun c23 H => ?_
 refine cM hh (iQ c23) ?_
 refine Z2 ?_
 exact cZ (y5.N) (a1L H).symm (Sc (Sc (Sc (Sc (Sc (Sc bQ.nil)))))) rfl
 refine cL hh (iU c23) ?_
 refine Z4 ?_
 revert H; refine bs fun y14 h17 H => ?_
 refine Yy (cF rfl hh hh (el rfl) h17) ?_
 refine Z2 ?_
 refine eH ?_
 refine bK (φs' := [fI y5.Op, fI y14, fEq v6, fSl tI z1]) a1W rfl rfl (has rfl) (has rfl) (aG a1W) (sz rfl) rfl rfl ?_
 refine Z1 ?_
 refine aH [1, 2, 0, 3, 4, 5, 6, 7, 8] (by decide) ?_
 exact cZ (y14) (a1L H).symm (Sc (Sc (Sc (Sc (Sc (Sc bQ.nil)))))) rfl
 clear H; intro x27 hi; subst o8; have H := Hr8; clear Hr8; try dsimp only at H
 try dsimp only
 refine Z6 ?_
 exact cZ ((a3, y7, a0.f.AD, a0.f.AI, a0.f.AB, a0.f.AC, a0.f.AE, a0.AO.set a1.toNat true, a0.AQ.set a1.toNat a2, a0.AV.set a1.toNat a3, a0.AR.set a1.toNat y7, a0.p.AD, a0.p.AB, a0.p.AC, a0.p.AE, x26, x27, v1, v2, v3, v4, v5)) (a1L H).symm (Sc (Sc (Sc (Sc (Sc (Sc bQ.nil)))))) rfl
 refine cM hh c21 ?_
 refine Z4 ?_
 revert H; refine is (fun c24 H => ?_) fun c24 H => ?_
 refine cL hh c24 ?_
 revert H; refine bs fun o9 H Hr9 => ?_
 refine aP (ι := Bool) (fun i => o9 = i) (fun i => [(0, fEq (ptr p0)), (1, fI a1), (2, fSl tI a2), (3, fI a3), (8, fEq (ptr b1)), (10, fSl tI y7), (11, fEq (ptr b2)), (13, fSl tI a2)]) (fun i => [aD b1 55 [fI y5.Op, fI y5.N, fSl aO y5.Aa, fSl tI y5.AU, fSl tI y5.AI], aD p0 102 [fSl aC a0.f.AD, fSl tI a0.f.AI, fSl aT a0.f.AB, fSl aA a0.f.AC, fI a0.f.AE, fEq v1, fEq v2, fEq v3, fEq v4, fSl aC a0.p.AD, fEq v5, fSl aA a0.p.AC, fI a0.p.AE, aF i], aD b2 118 [fI y5.Op, fI y5.N, fEq v6, fSl tI z1], aB v1 4 aN (a0.AO.set a1.toNat true), aB v2 23 (tSl tI) (a0.AQ.set a1.toNat a2), aB v3 3 tI (a0.AV.set a1.toNat a3), aB v4 23 (tSl tI) (a0.AR.set a1.toNat y7), aB v5 118 aK a0.p.AB, aB v6 124 aO x2]) ?_ ?_
 revert H; refine is (fun c25 H => ?_) fun c25 H => ?_
 apply bL (ods := [_, _, _, _, _, _, _, _, _, _, _, _, _, _, _, _, _, _]) 18 0 9 bM rfl rfl rfl
 refine ND ?_
 refine M5 ?_
 intros
 refine Mt c25 fun _ => ?_
 refine Mt c25 fun _ => ?_
 refine Mt c25 fun _ => ?_
 refine Mt c25 fun _ => ?_
 refine Mt c25 fun _ => ?_
 refine Mt c25 fun _ => ?_
 refine Mt c25 fun _ => ?_
 refine Mt c25 fun _ => ?_
 refine Mt c25 fun _ => ?_
 refine My (bZ rfl hh c25 hh) fun _ => ?_
 refine M2 ?_
 intros
 refine nQ (od := odC [1] true (dN) [aD p0 102 [fSl aC a0.f.AD, fSl tI a0.f.AI, fSl aT a0.f.AB, fSl aA a0.f.AC, fI a0.f.AE, fEq v1, fEq v2, fEq v3, fEq v4, fSl aC a0.p.AD, fEq v5, fSl aA a0.p.AC, fI a0.p.AE, aF true]]) (p := 1) (φs' := [fSl aC a0.f.AD, fSl tI a0.f.AI, fSl aT a0.f.AB, fSl aA a0.f.AC, fI a0.f.AE, fEq v1, fEq v2, fEq v3, fEq v4, fSl aC a0.p.AD, fEq v5, fSl aA a0.p.AC, fI a0.p.AE, aF true]) rfl (fun _ => rfl) (fun _ => rfl) a1W rfl rfl rfl (has rfl) (has rfl) (aG a1W) (sz rfl) rfl rfl (fun _ => ?_)
 refine Z2 ?_
 exact cZ (true) (a1L H).symm (Sc (Sc (Sc (Sc (Sc (Sc (Sc (Sc bQ.nil)))))))) rfl
 exact fk
 kernel_rfl
 apply bL (ods := [_, _, _, _, _, _, _, _, _, _, _, _, _, _, _, _, _, _]) 18 0 9 bM rfl rfl rfl
 refine ND ?_
 refine M5 ?_
 intros
 refine Mg c25 (bE 1 rfl hh (fa rfl) rfl) fun _ => ?_
 refine dQ (od := odC [0] false (fI y5.N) [dA]) (ps := [0]) (φ := fI y5.N) rfl (fun _ => rfl) ⟨_, _, rfl, rfl, c25⟩ rfl rfl (aZ rfl hh (sc rfl) rfl Ent.rfl) (fun _ => ?_)
 refine Mg c25 (bC rfl hh) fun _ => ?_
 refine Mg c25 (fY rfl (has rfl) (fun m v h => ⟨_, h⟩)) fun _ => ?_
 refine Mg c25 (bE 0 rfl hh (fa rfl) rfl) fun _ => ?_
 refine Mg c25 (bE 3 rfl hh (fa rfl) rfl) fun _ => ?_
 refine dQ (od := odC [1] false (fSl aA a0.f.AC) [dA]) (ps := [1]) (φ := fSl aA a0.f.AC) rfl (fun _ => rfl) ⟨_, _, rfl, rfl, c25⟩ rfl rfl (aZ rfl hh (sc rfl) rfl Ent.rfl) (fun _ => ?_)
 refine Mg c25 (eB rfl hh (us rfl)) fun _ => ?_
 refine Mg c25 (gZ rfl hh hh) fun _ => ?_
 refine My (bG rfl hh c25 hh) fun _ => ?_
 refine M2 ?_
 intros
 refine nQ (od := odC [1] true (dN) [aD p0 102 [fSl aC a0.f.AD, fSl tI a0.f.AI, fSl aT a0.f.AB, fSl aA a0.f.AC, fI a0.f.AE, fEq v1, fEq v2, fEq v3, fEq v4, fSl aC a0.p.AD, fEq v5, fSl aA a0.p.AC, fI a0.p.AE, aF (decide ((a0.f.AC.length : Int) <= y5.N))]]) (p := 1) (φs' := [fSl aC a0.f.AD, fSl tI a0.f.AI, fSl aT a0.f.AB, fSl aA a0.f.AC, fI a0.f.AE, fEq v1, fEq v2, fEq v3, fEq v4, fSl aC a0.p.AD, fEq v5, fSl aA a0.p.AC, fI a0.p.AE, aF (decide ((a0.f.AC.length : Int) <= y5.N))]) rfl (fun _ => rfl) (fun _ => rfl) a1W rfl rfl rfl (has rfl) (has rfl) (aG a1W) (sz rfl) rfl rfl (fun _ => ?_)
 refine Z2 ?_
 exact cZ (decide ((a0.f.AC.length : Int) <= y5.N)) (a1L H).symm (Sc (Sc (Sc (Sc (Sc (Sc (Sc (Sc bQ.nil)))))))) rfl
 exact fk
 kernel_rfl
 clear H; intro x28 hi; subst o9; have H := Hr9; clear Hr9; try dsimp only at H
 try dsimp only
 refine Z7 ?_
 revert H; refine cs (fun c26 H => ?_) fun c26 H => ?_
 refine cM hh (iQ c26) ?_
 refine Z3 ?_
 refine aH [1, 0, 2, 3, 4, 5, 6, 7, 8] (by decide) ?_
 exact cZ ((a3, a2, a0.f.AD, a0.f.AI, a0.f.AB, a0.f.AC, a0.f.AE, a0.AO.set a1.toNat true, a0.AQ.set a1.toNat a2, a0.AV.set a1.toNat a3, a0.AR.set a1.toNat y7, a0.p.AD, a0.p.AB, a0.p.AC, a0.p.AE, x28, y5.N, v1, v2, v3, v4, v5)) (a1L H).symm (Sc (Sc (Sc (Sc (Sc (Sc bQ.nil)))))) rfl
 refine cL hh (iU c26) ?_
 refine aJ ?_
 revert H; refine bs fun y15 h18 H => ?_
 apply bL (ods := [_, _, _, _, _, _, _, _, _, _, _, _]) 12 0 9 bM rfl rfl rfl
 refine ND ?_
 refine M8 ?_
 intros
 refine My (cF rfl hh hh (el rfl) h18) fun _ => ?_
 refine M3 ?_
 intros
 refine Z1 ?_
 refine dF ?_
 refine dF ?_
 refine dF ?_
 refine dF ?_
 refine dF ?_
 refine aQ ?_
 refine fA (x := (⟨(⟨a0.f.AD, a0.f.AI, a0.f.AB, a0.f.AC, a0.f.AE⟩ : AF), a0.AO.set a1.toNat true, a0.AQ.set a1.toNat a2, a0.AV.set a1.toNat a3, a0.AR.set a1.toNat y7, (⟨a0.p.AD, a0.p.AB, a0.p.AC, a0.p.AE⟩ : AM), x28⟩ : Ad)) ?_
 revert H; refine bs fun y16 h19 H => ?_
 refine iN a1W rfl rfl rfl hh (aM.cons hh (aM.cons hh (aM.cons hh (aM.cons hh aM.nil)))) rfl (cb rfl) (ih_r07_opener_define p0 (⟨(⟨a0.f.AD, a0.f.AI, a0.f.AB, a0.f.AC, a0.f.AE⟩ : AF), a0.AO.set a1.toNat true, a0.AQ.set a1.toNat a2, a0.AV.set a1.toNat a3, a0.AR.set a1.toNat y7, (⟨a0.p.AD, a0.p.AB, a0.p.AC, a0.p.AE⟩ : AM), x28⟩ : Ad) y15 y7 a3 y16 h19) rfl ?_
 refine qT (fun v16 v17 v18 v19 v20 => ?_)
 refine aE 1 rfl (fun hc_v16 => ?_)
 refine aE 2 rfl (fun hc_v17 => ?_)
 refine aE 3 rfl (fun hc_v18 => ?_)
 refine aE 4 rfl (fun hc_v19 => ?_)
 refine aE 5 rfl (fun hc_v20 => ?_)
 refine Z6 ?_
 revert H; refine bs fun y17 h20 H => ?_
 refine iN a1W rfl rfl rfl hh (aM.cons hh (aM.cons hh (aM.cons hh aM.nil))) rfl (cb rfl) (aBA AA a2 a3 y16.2 y17 h20) rfl ?_
 refine Z2 ?_
 revert H; refine bs fun z4 h21 H => ?_
 refine Yy (dT rfl hh hh h21) ?_
 refine Z5 ?_
 refine aH [0, 6, 7, 1, 2, 3, 4, 5, 8] (by decide) ?_
 exact cZ ((z4, y17, y16.1.f.AD, y16.1.f.AI, y16.1.f.AB, y16.1.f.AC, y16.1.f.AE, y16.1.AO, y16.1.AQ, y16.1.AV, y16.1.AR, y16.1.p.AD, y16.1.p.AB, y16.1.p.AC, y16.1.p.AE, y16.1.bad, y5.N, v16, v17, v18, v19, v20)) (a1L H).symm (Sc (Sc (Sc (Sc (Sc (Sc bQ.nil)))))) rfl
 exact fk
 kernel_rfl
 refine cM hh c24 ?_
 refine Z3 ?_
 refine aH [1, 0, 2, 3, 4, 5, 6, 7, 8] (by decide) ?_
 exact cZ ((a3, a2, a0.f.AD, a0.f.AI, a0.f.AB, a0.f.AC, a0.f.AE, a0.AO.set a1.toNat true, a0.AQ.set a1.toNat a2, a0.AV.set a1.toNat a3, a0.AR.set a1.toNat y7, a0.p.AD, a0.p.AB, a0.p.AC, a0.p.AE, a0.bad, y5.N, v1, v2, v3, v4, v5)) (a1L H).symm (Sc (Sc (Sc (Sc (Sc (Sc bQ.nil)))))) rfl
 clear H; intro i hi; obtain ⟨x7, x8, x9, x10, x11, x12, x13, x14, x15, x16, x17, x18, x19, x20, x21, x22, x23, v11, v12, v13, v14, v15⟩ := i; subst o4; have H := Hr4; clear Hr4; try dsimp only at H
 try dsimp only
 refine aE 3 rfl (fun hc_v11 => ?_)
 refine aE 4 rfl (fun hc_v12 => ?_)
 refine aE 5 rfl (fun hc_v13 => ?_)
 refine aE 6 rfl (fun hc_v14 => ?_)
 refine aE 7 rfl (fun hc_v15 => ?_)
 refine aJ ?_
 revert H; refine bs fun y18 h22 H => ?_
 apply bL (ods := [_, _, _, _, _, _, _, _]) 8 0 9 bM rfl rfl rfl
 refine ND ?_
 refine M7 ?_
 intros
 refine Mo 7 rfl (fZ rfl hh hh (el rfl) h22) fun _ => ?_
 refine Z1 ?_
 refine T_fr8 ?_
 refine bY (φ := fSl aO x2) (v := v6) [] cU (fun _ h => nomatch h) ?_
 refine dM ?_
 refine bI ?_
 refine dJ (φs' := [fI y5.Op, fI x23, fSl aO x2, fSl tI z1]) (i := 2) rfl rfl ?_
 refine lP 280 (ψ := eG [fI y5.Op, fI x23, fEq v6, fSl tI z1]) rfl (mN (i := 2) (φs := [fI y5.Op, fI x23, fEq v6, fSl tI z1]) (φs' := [fI y5.Op, fI x23, fSl aO x2, fSl tI z1]) rfl rfl) ?_
 refine bX ?_
 refine dF ?_
 refine aEP (z := (⟨y5.Op, x23, x2, z1⟩ : Ae)) a1W rfl rfl rfl (has rfl) (has rfl) (sz rfl) (a0J.1 (eD h22)).1 ?_
 refine Z5 ?_
 refine aH [1, 2, 3, 4, 5, 6, 7, 0] (by decide) ?_
 refine pD (ι := Nat × Int × List ByteArray × List Int × List Ao × List AN × Int × List Bool × List (List Int) × List Int × List (List Int) × List ByteArray × List Ae × List AN × Int × Bool × Value × Value × Value × Value × Value) (fun i => gP (dW AA) y5 x7 x8 i.1 i.2.1 i.2.2.1 i.2.2.2.1 i.2.2.2.2.1 i.2.2.2.2.2.1 i.2.2.2.2.2.2.1 i.2.2.2.2.2.2.2.1 i.2.2.2.2.2.2.2.2.1 i.2.2.2.2.2.2.2.2.2.1 i.2.2.2.2.2.2.2.2.2.2.1 i.2.2.2.2.2.2.2.2.2.2.2.1 i.2.2.2.2.2.2.2.2.2.2.2.2.1 i.2.2.2.2.2.2.2.2.2.2.2.2.2.1 i.2.2.2.2.2.2.2.2.2.2.2.2.2.2.1 i.2.2.2.2.2.2.2.2.2.2.2.2.2.2.2.1 = _) (fun i => i.1) (fun i => [(0, fEq (ptr p0)), (3, fI x7), (8, fEq (ptr b1)), (13, fSl tI x8), (15, fI i.2.1)]) (fun i => [aD b2 118 [fI y5.Op, fI x23, fSl aO x2, fSl tI z1], aD p0 102 [fSl aC i.2.2.1, fSl tI i.2.2.2.1, fSl aT i.2.2.2.2.1, fSl aA i.2.2.2.2.2.1, fI i.2.2.2.2.2.2.1, fEq i.2.2.2.2.2.2.2.2.2.2.2.2.2.2.2.2.1, fEq i.2.2.2.2.2.2.2.2.2.2.2.2.2.2.2.2.2.1, fEq i.2.2.2.2.2.2.2.2.2.2.2.2.2.2.2.2.2.2.1, fEq i.2.2.2.2.2.2.2.2.2.2.2.2.2.2.2.2.2.2.2.1, fSl aC i.2.2.2.2.2.2.2.2.2.2.2.1, fEq i.2.2.2.2.2.2.2.2.2.2.2.2.2.2.2.2.2.2.2.2, fSl aA i.2.2.2.2.2.2.2.2.2.2.2.2.2.1, fI i.2.2.2.2.2.2.2.2.2.2.2.2.2.2.1, aF i.2.2.2.2.2.2.2.2.2.2.2.2.2.2.2.1], aD b1 55 [fI y5.Op, fI y5.N, fSl aO y5.Aa, fSl tI y5.AU, fSl tI y5.AI], aB i.2.2.2.2.2.2.2.2.2.2.2.2.2.2.2.2.1 4 aN i.2.2.2.2.2.2.2.1, aB i.2.2.2.2.2.2.2.2.2.2.2.2.2.2.2.2.2.1 23 (tSl tI) i.2.2.2.2.2.2.2.2.1, aB i.2.2.2.2.2.2.2.2.2.2.2.2.2.2.2.2.2.2.1 3 tI i.2.2.2.2.2.2.2.2.2.1, aB i.2.2.2.2.2.2.2.2.2.2.2.2.2.2.2.2.2.2.2.1 23 (tSl tI) i.2.2.2.2.2.2.2.2.2.2.1, aB i.2.2.2.2.2.2.2.2.2.2.2.2.2.2.2.2.2.2.2.2 118 aK i.2.2.2.2.2.2.2.2.2.2.2.2.1]) (AA, 0, x9, x10, x11, x12, x13, x14, x15, x16, x17, x18, x19.set a1.toNat (⟨y5.Op, x23, x2, z1⟩ : Ae), x20, x21, x22, v11, v12, v13, v14, v15) H (Sc (Sc (Sc (Sc (Sc bQ.nil))))) rfl ?_
 clear H; rintro ⟨k2, x44, x45, x46, x47, x48, x49, x50, x51, x52, x53, x54, x55, x56, x57, x58, v26, v27, v28, v29, v30⟩ H
 replace H : gP (dW AA) y5 x7 x8 k2 x44 x45 x46 x47 x48 x49 x50 x51 x52 x53 x54 x55 x56 x57 x58 = _ := H
 try dsimp only
 obtain _ | k2 := k2
 rw [gP] at H; cases H
 rw [gP] at H
 refine aE 3 rfl (fun hc_v26 => ?_)
 refine aE 4 rfl (fun hc_v27 => ?_)
 refine aE 5 rfl (fun hc_v28 => ?_)
 refine aE 6 rfl (fun hc_v29 => ?_)
 refine aE 7 rfl (fun hc_v30 => ?_)
 refine aJ ?_
 refine Z7 ?_
 revert H; refine is (fun c27 H => ?_) fun c27 H => ?_
 refine Yg c27 (bC rfl hh) ?_
 refine Yg c27 (fY rfl (has rfl) (fun m v h => ⟨_, h⟩)) ?_
 refine Yg c27 (bE 13 rfl hh (fa rfl) rfl) ?_
 refine Yh 1 rfl c27 (aZ rfl hh (sc rfl) rfl Ent.rfl) ?_
 refine Yg c27 (iJ rfl hh) ?_
 refine Yy (bZ rfl hh c27 hh) ?_
 refine Z1 ?_
 revert H; refine cs (fun c28 H => ?_) fun c28 H => ?_
 refine cM hh (iQ c28) ?_
 refine Z4 ?_
 refine dF ?_
 refine dF ?_
 refine dF ?_
 refine dF ?_
 refine dF ?_
 refine aQ ?_
 refine fA (x := (⟨(⟨x45, x46, x47, x48, x49⟩ : AF), x50, x51, x52, x53, (⟨x54, x55, x56, x57⟩ : AM), x58⟩ : Ad)) ?_
 cases H
 refine aH [0] (by decide) ?_
 exact dI (.inr rfl) rfl rfl
 refine cL hh (iU c28) ?_
 refine Z2 ?_
 refine aJ ?_
 refine Z6 ?_
 revert H; refine bs fun y19 h23 H => ?_
 refine Yy (cF rfl hh hh (el rfl) h23) ?_
 refine Z3 ?_
 refine dF ?_
 refine dF ?_
 refine dF ?_
 refine dF ?_
 refine dF ?_
 refine aQ ?_
 refine fA (x := (⟨(⟨x45, x46, x47, x48, x49⟩ : AF), x50, x51, x52, x53, (⟨x54, x55, x56, x57⟩ : AM), x58⟩ : Ad)) ?_
 revert H; refine bs fun y20 h24 H => ?_
 refine iN a1W rfl rfl rfl hh (aM.cons hh (aM.cons hh (aM.cons hh (aM.cons hh aM.nil)))) rfl (cb rfl) (ih_r07_opener_node p0 (⟨(⟨x45, x46, x47, x48, x49⟩ : AF), x50, x51, x52, x53, (⟨x54, x55, x56, x57⟩ : AM), x58⟩ : Ad) y19 x8 x7 y20 h24) rfl ?_
 refine qT (fun v31 v32 v33 v34 v35 => ?_)
 refine aE 1 rfl (fun hc_v31 => ?_)
 refine aE 2 rfl (fun hc_v32 => ?_)
 refine aE 3 rfl (fun hc_v33 => ?_)
 refine aE 4 rfl (fun hc_v34 => ?_)
 refine aE 5 rfl (fun hc_v35 => ?_)
 refine Z5 ?_
 revert H; refine bs fun z5 h25 H => ?_
 refine Yy (dT rfl hh hh h25) ?_
 refine Z2 ?_
 refine aH [6, 0, 7, 1, 2, 3, 4, 5] (by decide) ?_
 exact cZ ((k2, z5, y20.f.AD, y20.f.AI, y20.f.AB, y20.f.AC, y20.f.AE, y20.AO, y20.AQ, y20.AV, y20.AR, y20.p.AD, y20.p.AB, y20.p.AC, y20.p.AE, y20.bad, v31, v32, v33, v34, v35)) ⟨H, a1C _⟩ (Sc (Sc (Sc (Sc (Sc bQ.nil))))) rfl
 refine Yf c27 ?_
 refine Yf c27 ?_
 refine Yf c27 ?_
 refine Yf c27 ?_
 refine Yf c27 ?_
 refine Yy (bG rfl hh c27 hh) ?_
 refine Z6 ?_
 refine dF ?_
 refine dF ?_
 refine dF ?_
 refine dF ?_
 refine dF ?_
 refine aQ ?_
 refine fA (x := (⟨(⟨x45, x46, x47, x48, x49⟩ : AF), x50, x51, x52, x53, (⟨x54, x55, x56, x57⟩ : AM), x58⟩ : Ad)) ?_
 cases H
 refine aH [0] (by decide) ?_
 exact dI (.inr rfl) rfl rfl
 exact fk
 kernel_rfl
 exact fk
 kernel_rfl
 exact fk
 kernel_rfl
 intro p0 a0 a1 a2 a3 r H
 rw [oR] at H
 refine bS Tryz.func191 rfl Tryz.ntmps191 rfl (fun β => ?_)
 refine qT (fun v1 v2 v3 v4 v5 => ?_)
 refine aE 1 rfl (fun hc_v1 => ?_)
 refine aE 2 rfl (fun hc_v2 => ?_)
 refine aE 3 rfl (fun hc_v3 => ?_)
 refine aE 4 rfl (fun hc_v4 => ?_)
 refine aE 5 rfl (fun hc_v5 => ?_)
 refine Z1 ?_
 refine sU a1W rfl rfl (cV rfl (has rfl) cJ) (fun b1 => ?_)
 refine Z2 ?_
 refine aJ ?_
 refine Z6 ?_
 revert H; refine is (fun c1 H => ?_) fun c1 H => ?_
 refine Yt c1 ?_
 refine Yt c1 ?_
 refine Yt c1 ?_
 refine Yt c1 ?_
 refine Yy (bZ rfl hh c1 hh) ?_
 refine Z12 ?_
 refine bI ?_
 refine bK (φs' := [fSl aC a0.f.AD, fSl tI a0.f.AI, fSl aT a0.f.AB, fSl aA a0.f.AC, fI a0.f.AE, fEq v1, fEq v2, fEq v3, fEq v4, fSl aC a0.p.AD, fEq v5, fSl aA a0.p.AC, fI a0.p.AE, aF true]) a1W rfl rfl (has rfl) (has rfl) (aG a1W) (sz rfl) rfl rfl ?_
 refine Z5 ?_
 refine aQ ?_
 refine aQ ?_
 refine aQ ?_
 refine aQ ?_
 refine aQ ?_
 refine cR ?_
 refine fA (x := (⟨(⟨a0.f.AD, a0.f.AI, a0.f.AB, a0.f.AC, a0.f.AE⟩ : AF), a0.AO, a0.AQ, a0.AV, a0.AR, (⟨a0.p.AD, a0.p.AB, a0.p.AC, a0.p.AE⟩ : AM), true⟩ : Ad)) ?_
 cases H
 refine aH [0] (by decide) ?_
 exact eE rfl (bU rfl) rfl
 refine Yg c1 (bE 1 rfl hh (fa rfl) rfl) ?_
 refine Yh 0 rfl c1 (aZ rfl hh (sc rfl) rfl Ent.rfl) ?_
 refine Yg c1 (eB rfl hh (us rfl)) ?_
 refine Yg c1 (eV rfl hh hh) ?_
 refine Yy (bG rfl hh c1 hh) ?_
 refine Z1 ?_
 revert H; refine is (fun c2 H => ?_) fun c2 H => ?_
 refine Yt c2 ?_
 refine Yt c2 ?_
 refine Yt c2 ?_
 refine Yt c2 ?_
 refine Yy (bZ rfl hh c2 hh) ?_
 refine Z6 ?_
 refine bI ?_
 refine bK (φs' := [fSl aC a0.f.AD, fSl tI a0.f.AI, fSl aT a0.f.AB, fSl aA a0.f.AC, fI a0.f.AE, fEq v1, fEq v2, fEq v3, fEq v4, fSl aC a0.p.AD, fEq v5, fSl aA a0.p.AC, fI a0.p.AE, aF true]) a1W rfl rfl (has rfl) (has rfl) (aG a1W) (sz rfl) rfl rfl ?_
 refine Z5 ?_
 refine aQ ?_
 refine aQ ?_
 refine aQ ?_
 refine aQ ?_
 refine aQ ?_
 refine cR ?_
 refine fA (x := (⟨(⟨a0.f.AD, a0.f.AI, a0.f.AB, a0.f.AC, a0.f.AE⟩ : AF), a0.AO, a0.AQ, a0.AV, a0.AR, (⟨a0.p.AD, a0.p.AB, a0.p.AC, a0.p.AE⟩ : AM), true⟩ : Ad)) ?_
 cases H
 refine aH [0] (by decide) ?_
 exact eE rfl (bU rfl) rfl
 refine Yg c2 (bE 2 rfl hh (fa rfl) rfl) ?_
 refine Yh 0 rfl c2 (aZ rfl hh (sc rfl) rfl Ent.rfl) ?_
 refine Yg c2 (eB rfl hh (us rfl)) ?_
 refine Yg c2 (eV rfl hh hh) ?_
 refine Yy (bG rfl hh c2 hh) ?_
 refine Z1 ?_
 revert H; refine is (fun c3 H => ?_) fun c3 H => ?_
 refine cL hh c3 ?_
 refine Z4 ?_
 refine bI ?_
 refine bK (φs' := [fSl aC a0.f.AD, fSl tI a0.f.AI, fSl aT a0.f.AB, fSl aA a0.f.AC, fI a0.f.AE, fEq v1, fEq v2, fEq v3, fEq v4, fSl aC a0.p.AD, fEq v5, fSl aA a0.p.AC, fI a0.p.AE, aF true]) a1W rfl rfl (has rfl) (has rfl) (aG a1W) (sz rfl) rfl rfl ?_
 refine Z5 ?_
 refine aQ ?_
 refine aQ ?_
 refine aQ ?_
 refine aQ ?_
 refine aQ ?_
 refine cR ?_
 refine fA (x := (⟨(⟨a0.f.AD, a0.f.AI, a0.f.AB, a0.f.AC, a0.f.AE⟩ : AF), a0.AO, a0.AQ, a0.AV, a0.AR, (⟨a0.p.AD, a0.p.AB, a0.p.AC, a0.p.AE⟩ : AM), true⟩ : Ad)) ?_
 cases H
 refine aH [0] (by decide) ?_
 exact eE rfl (bU rfl) rfl
 refine cM hh c3 ?_
 refine Z9 ?_
 revert H; refine bs fun z1 h1 H => ?_
 refine Yy (dT rfl hh hh h1) ?_
 refine Z6 ?_
 revert H; refine bs fun y1 h2 H => ?_
 refine iN a1W rfl rfl rfl hh (aM.cons hh (aM.cons hh (aM.cons hh aM.nil))) rfl (cb rfl) (aBA AA a2 a3 z1 y1 h2) rfl ?_
 refine Z2 ?_
 revert H; refine bs fun o1 H Hr1 => ?_
 refine aP (ι := List ByteArray × List Int × List Ao × List AN × Int × List Bool × List (List Int) × List Int × List (List Int) × List ByteArray × List Ae × List AN × Int × Bool × Value × Value × Value × Value × Value) (fun i => o1 = Sum.inl (i.1, i.2.1, i.2.2.1, i.2.2.2.1, i.2.2.2.2.1, i.2.2.2.2.2.1, i.2.2.2.2.2.2.1, i.2.2.2.2.2.2.2.1, i.2.2.2.2.2.2.2.2.1, i.2.2.2.2.2.2.2.2.2.1, i.2.2.2.2.2.2.2.2.2.2.1, i.2.2.2.2.2.2.2.2.2.2.2.1, i.2.2.2.2.2.2.2.2.2.2.2.2.1, i.2.2.2.2.2.2.2.2.2.2.2.2.2.1)) (fun i => [(0, fEq (ptr p0)), (3, fI a3), (5, fEq (ptr b1)), (9, fI z1), (10, fSl tI y1)]) (fun i => [aD b1 130 [fSl aW a1.AP, fSl bB a1.AT, fSl bF a1.AS], aD p0 102 [fSl aC i.1, fSl tI i.2.1, fSl aT i.2.2.1, fSl aA i.2.2.2.1, fI i.2.2.2.2.1, fEq i.2.2.2.2.2.2.2.2.2.2.2.2.2.2.1, fEq i.2.2.2.2.2.2.2.2.2.2.2.2.2.2.2.1, fEq i.2.2.2.2.2.2.2.2.2.2.2.2.2.2.2.2.1, fEq i.2.2.2.2.2.2.2.2.2.2.2.2.2.2.2.2.2.1, fSl aC i.2.2.2.2.2.2.2.2.2.1, fEq i.2.2.2.2.2.2.2.2.2.2.2.2.2.2.2.2.2.2, fSl aA i.2.2.2.2.2.2.2.2.2.2.2.1, fI i.2.2.2.2.2.2.2.2.2.2.2.2.1, aF i.2.2.2.2.2.2.2.2.2.2.2.2.2.1], aB i.2.2.2.2.2.2.2.2.2.2.2.2.2.2.1 4 aN i.2.2.2.2.2.1, aB i.2.2.2.2.2.2.2.2.2.2.2.2.2.2.2.1 23 (tSl tI) i.2.2.2.2.2.2.1, aB i.2.2.2.2.2.2.2.2.2.2.2.2.2.2.2.2.1 3 tI i.2.2.2.2.2.2.2.1, aB i.2.2.2.2.2.2.2.2.2.2.2.2.2.2.2.2.2.1 23 (tSl tI) i.2.2.2.2.2.2.2.2.1, aB i.2.2.2.2.2.2.2.2.2.2.2.2.2.2.2.2.2.2 118 aK i.2.2.2.2.2.2.2.2.2.2.1]) ?_ ?_
 refine Z4 ?_
 refine pD (ι := Nat × Int × List ByteArray × List Int × List Ao × List AN × Int × List Bool × List (List Int) × List Int × List (List Int) × List ByteArray × List Ae × List AN × Int × Bool × Value × Value × Value × Value × Value) (fun i => kS AA (dW AA) a1 a3 z1 y1 i.1 i.2.1 i.2.2.1 i.2.2.2.1 i.2.2.2.2.1 i.2.2.2.2.2.1 i.2.2.2.2.2.2.1 i.2.2.2.2.2.2.2.1 i.2.2.2.2.2.2.2.2.1 i.2.2.2.2.2.2.2.2.2.1 i.2.2.2.2.2.2.2.2.2.2.1 i.2.2.2.2.2.2.2.2.2.2.2.1 i.2.2.2.2.2.2.2.2.2.2.2.2.1 i.2.2.2.2.2.2.2.2.2.2.2.2.2.1 i.2.2.2.2.2.2.2.2.2.2.2.2.2.2.1 i.2.2.2.2.2.2.2.2.2.2.2.2.2.2.2.1 = _) (fun i => i.1) (fun i => [(0, fEq (ptr p0)), (3, fI a3), (5, fEq (ptr b1)), (9, fI z1), (10, fSl tI y1), (11, fI i.2.1)]) (fun i => [aD b1 130 [fSl aW a1.AP, fSl bB a1.AT, fSl bF a1.AS], aD p0 102 [fSl aC i.2.2.1, fSl tI i.2.2.2.1, fSl aT i.2.2.2.2.1, fSl aA i.2.2.2.2.2.1, fI i.2.2.2.2.2.2.1, fEq i.2.2.2.2.2.2.2.2.2.2.2.2.2.2.2.2.1, fEq i.2.2.2.2.2.2.2.2.2.2.2.2.2.2.2.2.2.1, fEq i.2.2.2.2.2.2.2.2.2.2.2.2.2.2.2.2.2.2.1, fEq i.2.2.2.2.2.2.2.2.2.2.2.2.2.2.2.2.2.2.2.1, fSl aC i.2.2.2.2.2.2.2.2.2.2.2.1, fEq i.2.2.2.2.2.2.2.2.2.2.2.2.2.2.2.2.2.2.2.2, fSl aA i.2.2.2.2.2.2.2.2.2.2.2.2.2.1, fI i.2.2.2.2.2.2.2.2.2.2.2.2.2.2.1, aF i.2.2.2.2.2.2.2.2.2.2.2.2.2.2.2.1], aB i.2.2.2.2.2.2.2.2.2.2.2.2.2.2.2.2.1 4 aN i.2.2.2.2.2.2.2.1, aB i.2.2.2.2.2.2.2.2.2.2.2.2.2.2.2.2.2.1 23 (tSl tI) i.2.2.2.2.2.2.2.2.1, aB i.2.2.2.2.2.2.2.2.2.2.2.2.2.2.2.2.2.2.1 3 tI i.2.2.2.2.2.2.2.2.2.1, aB i.2.2.2.2.2.2.2.2.2.2.2.2.2.2.2.2.2.2.2.1 23 (tSl tI) i.2.2.2.2.2.2.2.2.2.2.1, aB i.2.2.2.2.2.2.2.2.2.2.2.2.2.2.2.2.2.2.2.2 118 aK i.2.2.2.2.2.2.2.2.2.2.2.2.1]) (AA, 0, a0.f.AD, a0.f.AI, a0.f.AB, a0.f.AC, a0.f.AE, a0.AO, a0.AQ, a0.AV, a0.AR, a0.p.AD, a0.p.AB, a0.p.AC, a0.p.AE, a0.bad, v1, v2, v3, v4, v5) H (Sc (Sc (Sc (Sc (Sc (Sc bQ.nil)))))) rfl ?_
 clear H; rintro ⟨k1, x30, x31, x32, x33, x34, x35, x36, x37, x38, x39, x40, x41, x42, x43, x44, v16, v17, v18, v19, v20⟩ H
 replace H : kS AA (dW AA) a1 a3 z1 y1 k1 x30 x31 x32 x33 x34 x35 x36 x37 x38 x39 x40 x41 x42 x43 x44 = _ := H
 try dsimp only
 obtain _ | k1 := k1
 rw [kS] at H; cases H
 rw [kS] at H
 refine aE 2 rfl (fun hc_v16 => ?_)
 refine aE 3 rfl (fun hc_v17 => ?_)
 refine aE 4 rfl (fun hc_v18 => ?_)
 refine aE 5 rfl (fun hc_v19 => ?_)
 refine aE 6 rfl (fun hc_v20 => ?_)
 refine aJ ?_
 refine Z7 ?_
 revert H; refine is (fun c4 H => ?_) fun c4 H => ?_
 refine Yg c4 (bC rfl hh) ?_
 refine Yg c4 (fY rfl (has rfl) (fun m v h => ⟨_, h⟩)) ?_
 refine Yg c4 (bE 13 rfl hh (fa rfl) rfl) ?_
 refine Yh 1 rfl c4 (aZ rfl hh (sc rfl) rfl Ent.rfl) ?_
 refine Yg c4 (iJ rfl hh) ?_
 refine Yy (bZ rfl hh c4 hh) ?_
 refine Z1 ?_
 revert H; refine cs (fun c5 H => ?_) fun c5 H => ?_
 refine cM hh (iQ c5) ?_
 refine Z5 ?_
 exact cZ ((x31, x32, x33, x34, x35, x36, x37, x38, x39, x40, x41, x42, x43, x44, v16, v17, v18, v19, v20)) (a1L H).symm (Sc (Sc (Sc (Sc (Sc bQ.nil))))) rfl
 refine cL hh (iU c5) ?_
 refine Z2 ?_
 refine aJ ?_
 refine Z1 ?_
 refine aJ ?_
 revert H; refine bs fun y2 h3 H => ?_
 revert H; refine bs fun y3 h4 H => ?_
 apply bL (ods := [_, _, _, _, _, _, _, _]) 8 0 7 bM rfl rfl rfl
 refine ND ?_
 refine M4 ?_
 intros
 refine My (cF rfl hh hh (el rfl) h3) fun _ => ?_
 refine M1 ?_
 intros
 refine sF (od := odC [] true (fI y3) []) (Φ := fI y3) rfl (fun _ => rfl) a1W rfl rfl (has rfl) (aM.cons (has rfl) (aM.cons (has rfl) aM.nil)) rfl (cb rfl) (aFL AA (⟨a1.AP, a1.AT, a1.AS⟩ : AN) y2 y3 h4) (fun _ => ?_)
 refine M1 ?_
 intros
 refine Z2 ?_
 refine aJ ?_
 refine Z4 ?_
 revert H; refine is (fun c6 H => ?_) fun c6 H => ?_
 refine cL hh c6 ?_
 refine Z4 ?_
 refine bI ?_
 refine bK (φs' := [fSl aC x31, fSl tI x32, fSl aT x33, fSl aA x34, fI x35, fEq v16, fEq v17, fEq v18, fEq v19, fSl aC x40, fEq v20, fSl aA x42, fI x43, aF true]) a1W rfl rfl (has rfl) (has rfl) (aG a1W) (sz rfl) rfl rfl ?_
 refine Z11 ?_
 revert H; refine bs fun r1 H e1 => ?_
 have e1 := a1L e1; subst e1; have Hr1 := a1L Hr1; subst Hr1
 refine aQ ?_
 refine aQ ?_
 refine aQ ?_
 refine aQ ?_
 refine aQ ?_
 refine cR ?_
 refine fA (x := (⟨(⟨x31, x32, x33, x34, x35⟩ : AF), x36, x37, x38, x39, (⟨x40, x41, x42, x43⟩ : AM), true⟩ : Ad)) ?_
 cases H
 refine aH [0] (by decide) ?_
 exact eE rfl (bU rfl) rfl
 refine cM hh c6 ?_
 refine Z2 ?_
 revert H; refine bs fun y4 h5 H => ?_
 revert H; refine bs fun z2 h6 H => ?_
 revert H; refine bs fun y5 h7 H => ?_
 revert H; refine bs fun z3 h8 H => ?_
 revert H; refine bs fun z4 h9 H => ?_
 apply bL (ods := [_, _, _, _, _, _, _, _, _, _, _, _, _, _, _, _, _, _]) 18 0 7 bM rfl rfl rfl
 refine ND ?_
 refine M4 ?_
 intros
 refine My (cF rfl hh hh (el rfl) h5) fun _ => ?_
 refine M5 ?_
 intros
 refine My (dT rfl hh hh h6) fun _ => ?_
 refine M1 ?_
 intros
 refine sF (od := odC [] true (fSl tI y5) []) (Φ := fSl tI y5) rfl (fun _ => rfl) a1W rfl rfl (has rfl) (aM.cons (has rfl) (aM.cons (has rfl) (aM.cons (has rfl) aM.nil))) rfl (cb rfl) (aBA AA y1 z2 y3 y5 h7) (fun _ => ?_)
 refine M2 ?_
 intros
 refine My (dT rfl hh hh h8) fun _ => ?_
 refine M1 ?_
 intros
 refine My (dT rfl hh hh h9) fun _ => ?_
 refine Z1 ?_
 refine aQ ?_
 refine aQ ?_
 refine aQ ?_
 refine aQ ?_
 refine aQ ?_
 refine aQ ?_
 refine fA (x := (⟨(⟨x31, x32, x33, x34, x35⟩ : AF), x36, x37, x38, x39, (⟨x40, x41, x42, x43⟩ : AM), x44⟩ : Ad)) ?_
 revert H; refine bs fun y6 h10 H => ?_
 refine iN a1W rfl rfl rfl hh (aM.cons hh (aM.cons hh (aM.cons hh (aM.cons hh aM.nil)))) rfl (cb rfl) (ih_r07_opener_node p0 (⟨(⟨x31, x32, x33, x34, x35⟩ : AF), x36, x37, x38, x39, (⟨x40, x41, x42, x43⟩ : AM), x44⟩ : Ad) y4.Ab y5 z4 y6 h10) rfl ?_
 refine qT (fun v21 v22 v23 v24 v25 => ?_)
 refine aE 1 rfl (fun hc_v21 => ?_)
 refine aE 2 rfl (fun hc_v22 => ?_)
 refine aE 3 rfl (fun hc_v23 => ?_)
 refine aE 4 rfl (fun hc_v24 => ?_)
 refine aE 5 rfl (fun hc_v25 => ?_)
 refine Z5 ?_
 revert H; refine bs fun z5 h11 H => ?_
 refine Yy (dT rfl hh hh h11) ?_
 refine Z2 ?_
 refine aH [6, 0, 1, 2, 3, 4, 5] (by decide) ?_
 exact cZ ((k1, z5, y6.f.AD, y6.f.AI, y6.f.AB, y6.f.AC, y6.f.AE, y6.AO, y6.AQ, y6.AV, y6.AR, y6.p.AD, y6.p.AB, y6.p.AC, y6.p.AE, y6.bad, v21, v22, v23, v24, v25)) ⟨H, a1C _⟩ (Sc (Sc (Sc (Sc (Sc (Sc bQ.nil)))))) rfl
 exact fk
 kernel_rfl
 exact fk
 kernel_rfl
 refine Yf c4 ?_
 refine Yf c4 ?_
 refine Yf c4 ?_
 refine Yf c4 ?_
 refine Yf c4 ?_
 refine Yy (bG rfl hh c4 hh) ?_
 refine Z7 ?_
 exact cZ ((x31, x32, x33, x34, x35, x36, x37, x38, x39, x40, x41, x42, x43, x44, v16, v17, v18, v19, v20)) (a1L H).symm (Sc (Sc (Sc (Sc (Sc bQ.nil))))) rfl
 clear H; intro i hi; obtain ⟨x1, x2, x3, x4, x5, x6, x7, x8, x9, x10, x11, x12, x13, x14, v6, v7, v8, v9, v10⟩ := i; subst o1; have H := Hr1; clear Hr1; try dsimp only at H
 try dsimp only
 refine aE 2 rfl (fun hc_v6 => ?_)
 refine aE 3 rfl (fun hc_v7 => ?_)
 refine aE 4 rfl (fun hc_v8 => ?_)
 refine aE 5 rfl (fun hc_v9 => ?_)
 refine aE 6 rfl (fun hc_v10 => ?_)
 revert H; refine bs fun o2 H Hr2 => ?_
 refine aP (ι := List ByteArray × List Int × List Ao × List AN × Int × List Bool × List (List Int) × List Int × List (List Int) × List ByteArray × List Ae × List AN × Int × Bool × Value × Value × Value × Value × Value) (fun i => o2 = (i.1, i.2.1, i.2.2.1, i.2.2.2.1, i.2.2.2.2.1, i.2.2.2.2.2.1, i.2.2.2.2.2.2.1, i.2.2.2.2.2.2.2.1, i.2.2.2.2.2.2.2.2.1, i.2.2.2.2.2.2.2.2.2.1, i.2.2.2.2.2.2.2.2.2.2.1, i.2.2.2.2.2.2.2.2.2.2.2.1, i.2.2.2.2.2.2.2.2.2.2.2.2.1, i.2.2.2.2.2.2.2.2.2.2.2.2.2.1)) (fun i => [(0, fEq (ptr p0)), (9, fI z1)]) (fun i => [aD b1 130 [fSl aW a1.AP, fSl bB a1.AT, fSl bF a1.AS], aD p0 102 [fSl aC i.1, fSl tI i.2.1, fSl aT i.2.2.1, fSl aA i.2.2.2.1, fI i.2.2.2.2.1, fEq i.2.2.2.2.2.2.2.2.2.2.2.2.2.2.1, fEq i.2.2.2.2.2.2.2.2.2.2.2.2.2.2.2.1, fEq i.2.2.2.2.2.2.2.2.2.2.2.2.2.2.2.2.1, fEq i.2.2.2.2.2.2.2.2.2.2.2.2.2.2.2.2.2.1, fSl aC i.2.2.2.2.2.2.2.2.2.1, fEq i.2.2.2.2.2.2.2.2.2.2.2.2.2.2.2.2.2.2, fSl aA i.2.2.2.2.2.2.2.2.2.2.2.1, fI i.2.2.2.2.2.2.2.2.2.2.2.2.1, aF i.2.2.2.2.2.2.2.2.2.2.2.2.2.1], aB i.2.2.2.2.2.2.2.2.2.2.2.2.2.2.1 4 aN i.2.2.2.2.2.1, aB i.2.2.2.2.2.2.2.2.2.2.2.2.2.2.2.1 23 (tSl tI) i.2.2.2.2.2.2.1, aB i.2.2.2.2.2.2.2.2.2.2.2.2.2.2.2.2.1 3 tI i.2.2.2.2.2.2.2.1, aB i.2.2.2.2.2.2.2.2.2.2.2.2.2.2.2.2.2.1 23 (tSl tI) i.2.2.2.2.2.2.2.2.1, aB i.2.2.2.2.2.2.2.2.2.2.2.2.2.2.2.2.2.2 118 aK i.2.2.2.2.2.2.2.2.2.2.1]) ?_ ?_
 refine Z4 ?_
 refine pD (ι := Nat × Int × List ByteArray × List Int × List Ao × List AN × Int × List Bool × List (List Int) × List Int × List (List Int) × List ByteArray × List Ae × List AN × Int × Bool × Value × Value × Value × Value × Value) (fun i => jQ (dW AA) a1 a3 z1 y1 i.1 i.2.1 i.2.2.1 i.2.2.2.1 i.2.2.2.2.1 i.2.2.2.2.2.1 i.2.2.2.2.2.2.1 i.2.2.2.2.2.2.2.1 i.2.2.2.2.2.2.2.2.1 i.2.2.2.2.2.2.2.2.2.1 i.2.2.2.2.2.2.2.2.2.2.1 i.2.2.2.2.2.2.2.2.2.2.2.1 i.2.2.2.2.2.2.2.2.2.2.2.2.1 i.2.2.2.2.2.2.2.2.2.2.2.2.2.1 i.2.2.2.2.2.2.2.2.2.2.2.2.2.2.1 i.2.2.2.2.2.2.2.2.2.2.2.2.2.2.2.1 = _) (fun i => i.1) (fun i => [(0, fEq (ptr p0)), (3, fI a3), (5, fEq (ptr b1)), (9, fI z1), (10, fSl tI y1), (13, fI i.2.1)]) (fun i => [aD b1 130 [fSl aW a1.AP, fSl bB a1.AT, fSl bF a1.AS], aD p0 102 [fSl aC i.2.2.1, fSl tI i.2.2.2.1, fSl aT i.2.2.2.2.1, fSl aA i.2.2.2.2.2.1, fI i.2.2.2.2.2.2.1, fEq i.2.2.2.2.2.2.2.2.2.2.2.2.2.2.2.2.1, fEq i.2.2.2.2.2.2.2.2.2.2.2.2.2.2.2.2.2.1, fEq i.2.2.2.2.2.2.2.2.2.2.2.2.2.2.2.2.2.2.1, fEq i.2.2.2.2.2.2.2.2.2.2.2.2.2.2.2.2.2.2.2.1, fSl aC i.2.2.2.2.2.2.2.2.2.2.2.1, fEq i.2.2.2.2.2.2.2.2.2.2.2.2.2.2.2.2.2.2.2.2, fSl aA i.2.2.2.2.2.2.2.2.2.2.2.2.2.1, fI i.2.2.2.2.2.2.2.2.2.2.2.2.2.2.1, aF i.2.2.2.2.2.2.2.2.2.2.2.2.2.2.2.1], aB i.2.2.2.2.2.2.2.2.2.2.2.2.2.2.2.2.1 4 aN i.2.2.2.2.2.2.2.1, aB i.2.2.2.2.2.2.2.2.2.2.2.2.2.2.2.2.2.1 23 (tSl tI) i.2.2.2.2.2.2.2.2.1, aB i.2.2.2.2.2.2.2.2.2.2.2.2.2.2.2.2.2.2.1 3 tI i.2.2.2.2.2.2.2.2.2.1, aB i.2.2.2.2.2.2.2.2.2.2.2.2.2.2.2.2.2.2.2.1 23 (tSl tI) i.2.2.2.2.2.2.2.2.2.2.1, aB i.2.2.2.2.2.2.2.2.2.2.2.2.2.2.2.2.2.2.2.2 118 aK i.2.2.2.2.2.2.2.2.2.2.2.2.1]) (AA, 0, x1, x2, x3, x4, x5, x6, x7, x8, x9, x10, x11, x12, x13, x14, v6, v7, v8, v9, v10) H (Sc (Sc (Sc (Sc (Sc (Sc bQ.nil)))))) rfl ?_
 clear H; rintro ⟨k2, x74, x75, x76, x77, x78, x79, x80, x81, x82, x83, x84, x85, x86, x87, x88, v36, v37, v38, v39, v40⟩ H
 replace H : jQ (dW AA) a1 a3 z1 y1 k2 x74 x75 x76 x77 x78 x79 x80 x81 x82 x83 x84 x85 x86 x87 x88 = _ := H
 try dsimp only
 obtain _ | k2 := k2
 rw [jQ] at H; cases H
 rw [jQ] at H
 refine aE 2 rfl (fun hc_v36 => ?_)
 refine aE 3 rfl (fun hc_v37 => ?_)
 refine aE 4 rfl (fun hc_v38 => ?_)
 refine aE 5 rfl (fun hc_v39 => ?_)
 refine aE 6 rfl (fun hc_v40 => ?_)
 refine aJ ?_
 refine Z7 ?_
 revert H; refine is (fun c7 H => ?_) fun c7 H => ?_
 refine Yg c7 (bC rfl hh) ?_
 refine Yg c7 (fY rfl (has rfl) (fun m v h => ⟨_, h⟩)) ?_
 refine Yg c7 (bE 13 rfl hh (fa rfl) rfl) ?_
 refine Yh 1 rfl c7 (aZ rfl hh (sc rfl) rfl Ent.rfl) ?_
 refine Yg c7 (iJ rfl hh) ?_
 refine Yy (bZ rfl hh c7 hh) ?_
 refine Z1 ?_
 revert H; refine cs (fun c8 H => ?_) fun c8 H => ?_
 refine cM hh (iQ c8) ?_
 refine Z5 ?_
 exact cZ ((x75, x76, x77, x78, x79, x80, x81, x82, x83, x84, x85, x86, x87, x88, v36, v37, v38, v39, v40)) (a1L H).symm (Sc (Sc bQ.nil)) rfl
 refine cL hh (iU c8) ?_
 refine Z2 ?_
 refine aJ ?_
 refine Z6 ?_
 revert H; refine bs fun y7 h12 H => ?_
 refine Yy (cF rfl hh hh (el rfl) h12) ?_
 refine Z5 ?_
 revert H; refine bs fun z6 h13 H => ?_
 refine Yy (dT rfl hh hh h13) ?_
 refine aQ ?_
 refine aQ ?_
 refine aQ ?_
 refine aQ ?_
 refine aQ ?_
 refine aQ ?_
 refine fA (x := (⟨(⟨x75, x76, x77, x78, x79⟩ : AF), x80, x81, x82, x83, (⟨x84, x85, x86, x87⟩ : AM), x88⟩ : Ad)) ?_
 revert H; refine bs fun y8 h14 H => ?_
 refine iN a1W rfl rfl rfl hh (aM.cons hh (aM.cons hh (aM.cons hh (aM.cons hh aM.nil)))) rfl (cb rfl) (ih_r07_opener_node p0 (⟨(⟨x75, x76, x77, x78, x79⟩ : AF), x80, x81, x82, x83, (⟨x84, x85, x86, x87⟩ : AM), x88⟩ : Ad) y7.Ab y1 z6 y8 h14) rfl ?_
 refine qT (fun v41 v42 v43 v44 v45 => ?_)
 refine aE 1 rfl (fun hc_v41 => ?_)
 refine aE 2 rfl (fun hc_v42 => ?_)
 refine aE 3 rfl (fun hc_v43 => ?_)
 refine aE 4 rfl (fun hc_v44 => ?_)
 refine aE 5 rfl (fun hc_v45 => ?_)
 refine Z5 ?_
 revert H; refine bs fun z7 h15 H => ?_
 refine Yy (dT rfl hh hh h15) ?_
 refine Z2 ?_
 refine aH [6, 0, 1, 2, 3, 4, 5] (by decide) ?_
 exact cZ ((k2, z7, y8.f.AD, y8.f.AI, y8.f.AB, y8.f.AC, y8.f.AE, y8.AO, y8.AQ, y8.AV, y8.AR, y8.p.AD, y8.p.AB, y8.p.AC, y8.p.AE, y8.bad, v41, v42, v43, v44, v45)) ⟨H, a1C _⟩ (Sc (Sc (Sc (Sc (Sc (Sc bQ.nil)))))) rfl
 refine Yf c7 ?_
 refine Yf c7 ?_
 refine Yf c7 ?_
 refine Yf c7 ?_
 refine Yf c7 ?_
 refine Yy (bG rfl hh c7 hh) ?_
 refine Z7 ?_
 exact cZ ((x75, x76, x77, x78, x79, x80, x81, x82, x83, x84, x85, x86, x87, x88, v36, v37, v38, v39, v40)) (a1L H).symm (Sc (Sc bQ.nil)) rfl
 clear H; intro i hi; obtain ⟨x45, x46, x47, x48, x49, x50, x51, x52, x53, x54, x55, x56, x57, x58, v26, v27, v28, v29, v30⟩ := i; subst o2; have H := Hr2; clear Hr2; try dsimp only at H
 try dsimp only
 refine aE 2 rfl (fun hc_v26 => ?_)
 refine aE 3 rfl (fun hc_v27 => ?_)
 refine aE 4 rfl (fun hc_v28 => ?_)
 refine aE 5 rfl (fun hc_v29 => ?_)
 refine aE 6 rfl (fun hc_v30 => ?_)
 refine Z5 ?_
 refine aQ ?_
 refine aQ ?_
 refine aQ ?_
 refine aQ ?_
 refine aQ ?_
 refine aQ ?_
 refine fA (x := (⟨(⟨x45, x46, x47, x48, x49⟩ : AF), x50, x51, x52, x53, (⟨x54, x55, x56, x57⟩ : AM), x58⟩ : Ad)) ?_
 cases H
 refine aH [0] (by decide) ?_
 exact eE rfl (bU rfl) rfl
theorem aFe (AA : Nat) (p0 : Nat) (a0 : Ad) (a1 : Int) (a2 : List Int) (a3 : Int) (r : Ad) (H : dW AA a0 a1 a2 a3 = some r) : FnS Tryz.prog 117 [fEq (.pointer (some ⟨p0, 0, none⟩)), fI a1, fSl tI a2, fI a3] [oJ p0 a0] (eM []) (fun _ => [oJ p0 r]) := (aFZ AA).1 p0 a0 a1 a2 a3 r H
end Go.Proofs.YtpgkejpnhnoipaaGreat
namespace Go.BX
noncomputable section
inductive V where
 | int (k : IntKind) (n : Int)
 | bool (b : Bool)
 | str (s : ByteArray)
 | ptr (b off : Nat)
 | nilp
 | sl (b off len cap : Nat)
 | so (b off len es : Nat)
 | nils
 | map (b : Nat)
 | nilm
 | fn (f : Nat) (first cap : List V)
 | yld (l : Nat)
 | nilf
 | iface (t : Nat) (v : V)
 | nili
 | agg (cs : List V)
 | tup (vs : List V)
 deriving Inhabited
structure PE where
 v : V
 r : Bool
inductive O where
 | val (v : V)
 | panic (ch : List PE)
inductive Tr (α : Type) where
 | leaf
 | node (l : Tr α) (v : Option α) (r : Tr α)
inductive Pa where
 | h
 | l (p : Pa)
 | r (p : Pa)
def paD (d : Nat) : Nat -> Pa := Nat.rec (fun _ => .h) (fun _ ih n => Bool.rec (Bool.rec (.r (ih (Nat.sub (Nat.div n 2) 1))) (.l (ih (Nat.div n 2))) (Nat.beq (Nat.mod n 2) 1)) .h (Nat.beq n 0)) d
def pa (n : Nat) : Pa := paD (Nat.succ n) n
def gp {α : Type} (t : Tr α) : Pa -> Option α := Tr.rec (fun _ => none) (fun _ v _ il ir p => Pa.rec v (fun q _ => il q) (fun q _ => ir q) p) t
def one' {α β : Type} (v : Option α) (p : Pa) : (Tr α -> β) -> β := Pa.rec (fun k => k (.node .leaf v .leaf)) (fun _ ih k => ih fun t => k (.node t none .leaf)) (fun _ ih k => ih fun t => k (.node .leaf none t)) p
def pp {α β : Type} (t : Tr α) (v : Option α) : Pa -> (Tr α -> β) -> β := Tr.rec (fun p k => one' v p k) (fun l x r il ir p k => Pa.rec (k (.node l v r)) (fun q _ => il q fun l' => k (.node l' x r)) (fun q _ => ir q fun r' => k (.node l x r')) p) t
def rO {α β : Type} (l : List α) : Nat -> Tr α -> (Tr α -> β) -> β := List.rec (fun _ t k => k t) (fun x _ ih n t k => pp t (some x) (pa n) fun t => ih (Nat.succ n) t k) l
def eW {β : Type} (n : Nat) (d : β) (f : Nat -> β) : β := Nat.rec d (fun m _ => f m) (Nat.succ n)
def nth {α : Type} (l : List α) : Nat -> Option α := List.rec (fun _ => none) (fun x _ ih n => Nat.rec (some x) (fun m _ => ih m) n) l
def dr {α : Type} (n : Nat) : List α -> List α := Nat.rec (fun l => l) (fun _ ih l => List.rec [] (fun _ r _ => ih r) l) n
def tk {α : Type} (n : Nat) : List α -> Option (List α) := Nat.rec (fun _ => some []) (fun _ ih l => List.rec none (fun x r _ => Option.rec none (fun t => some (x :: t)) (ih r)) l) n
def ap {α : Type} (l m : List α) : List α := List.rec m (fun x _ ih => x :: ih) l
def ln {α : Type} (l : List α) : Nat -> Nat := List.rec (fun n => n) (fun _ _ ih n => ih (Nat.succ n)) l
def ov {α : Type} (new : List α) : List α -> Option (List α) := List.rec (fun c => some c) (fun x _ ih c => List.rec none (fun _ r _ => Option.rec none (fun t => some (x :: t)) (ih r)) c) new
def pl {α : Type} (new : List α) (off : Nat) : List α -> Option (List α) := Nat.rec (fun c => ov new c) (fun _ ih c => List.rec none (fun x r _ => Option.rec none (fun t => some (x :: t)) (ih r)) c) off
def rep {α : Type} (l : List α) (n : Nat) : List α := Nat.rec [] (fun _ ih => ap l ih) n
structure Ent where
 key : V
 val : V
 born : Nat
inductive Ob where
 | map (es : List Ent) (clock : Nat)
 | loop (st : LoopState) (pend : Option Code) (f : Nat) (e : Tr V) (n : Nat) (ps : List Nat) (sg bd : Code) (d : Nat)
 | dfr (live : Bool)
inductive Blk where
 | cells (c : List V) (t : Nat) (op : Nat)
 | obj (o : Ob)
inductive Fp where
 | cell (b lo hi : Nat) (w : Bool)
 | fresh (n0 n1 : Nat)
structure S where
 h : Tr Blk
 nx : Nat
 log : List Fp
inductive AL where
 | ret (o : O)
 | fail
 | rd (b off n : Nat) (k : List V -> AL)
 | rd1 (b off : Nat) (k : V -> AL)
 | wr (b off : Nat) (l : List V) (k : AL)
 | sz (b : Nat) (k : Nat -> Nat -> Nat -> AL)
 | new (c : List V) (t op : Nat) (k : Nat -> AL)
 | del (b : Nat) (k : AL)
 | newO (o : Ob) (k : Nat -> AL)
 | getO (b : Nat) (k : Ob -> AL)
 | setO (b : Nat) (o : Ob) (k : AL)
 | sub (p : AL) (k : V -> List Fp -> AL)
def eI (n0 n1 : Nat) (l : List Fp) : List Fp := List.rec [] (fun f _ ih => Fp.rec (fun b lo hi w => Bool.rec (Bool.rec (.cell b lo hi w :: ih) ih (Nat.blt b n1)) (.cell b lo hi w :: ih) (Nat.blt b n0)) (fun m0 m1 => Bool.rec (.fresh m0 m1 :: ih) (Bool.rec (.fresh m0 m1 :: ih) ih (Nat.ble m1 n1)) (Nat.ble n0 m0)) f) l
def ifN {β : Type} (b : Bool) (d p : β) : β := Bool.rec d p b
abbrev R := Option (O × S)
abbrev St := Tr Blk -> Nat -> List Fp -> R
def rowK {β : Type} (x : Blk) : (List V -> Nat -> Nat -> β) -> β -> β := Blk.rec (motive := fun _ => (List V -> Nat -> Nat -> β) -> β -> β) (fun c t op => fun f _ => f c t op) (fun _ => fun _ d => d) x
def obK {β : Type} (x : Blk) : (Ob -> β) -> β -> β := Blk.rec (motive := fun _ => (Ob -> β) -> β -> β) (fun _ _ _ => fun _ d => d) (fun o => fun f _ => f o) x
def opt {α β : Type} (o : Option α) (d : β) (f : α -> β) : β := Option.rec d f o
def rRd (b off n : Nat) (ih : List V -> St) : St := fun h nx lg => opt (gp h (pa b)) none fun k => rowK k (fun c _ _ => opt (tk n (dr off c)) none fun l => ifN (Nat.blt 0 n) none (ih l h nx (.cell b off (Nat.add off n) false :: lg))) none
def rRd1 (b off : Nat) (ih : V -> St) : St := fun h nx lg => opt (gp h (pa b)) none fun k => rowK k (fun c _ _ => opt (nth c off) none fun v => ih v h nx (.cell b off (Nat.succ off) false :: lg)) none
def rWr (b off : Nat) (l : List V) (ih : St) : St := fun h nx lg => opt (gp h (pa b)) none fun k => rowK k (fun c t op => opt (pl l off c) none fun c' => pp h (some (.cells c' t op)) (pa b) fun h => ifN (Nat.blt 0 (ln l 0)) none (ih h nx (.cell b off (Nat.add off (ln l 0)) true :: lg))) none
def rSz (b : Nat) (ih : Nat -> Nat -> Nat -> St) : St := fun h nx lg => opt (gp h (pa b)) none fun k => rowK k (fun c t op => eW (ln c 0) none fun n => ih n t op h nx (.cell b n (Nat.succ n) false :: lg)) none
def rNew (x : Blk) (ih : Nat -> St) : St := fun h nx lg => eW nx none fun n => opt (gp h (pa n)) (pp h (some x) (pa n) fun h => ih n h (Nat.succ n) (.fresh n (Nat.succ n) :: lg)) fun _ => none
def rDel (b : Nat) (ih : St) : St := fun h nx lg => opt (gp h (pa b)) none fun k => rowK k (fun c _ _ => pp h none (pa b) fun h => ih h nx (.cell b 0 (Nat.succ (ln c 0)) true :: lg)) none
def rGetO (b : Nat) (ih : Ob -> St) : St := fun h nx lg => opt (gp h (pa b)) none fun k => obK k (fun o => ih o h nx (.cell b 0 1 false :: lg)) none
def rSetO (b : Nat) (o : Ob) (ih : St) : St := fun h nx lg => opt (gp h (pa b)) none fun k => obK k (fun _ => pp h (some (.obj o)) (pa b) fun h => ih h nx (.cell b 0 1 true :: lg)) none
def rSub1 (ih : V -> List Fp -> St) (nx : Nat) (lg : List Fp) (r : R) : R := match r with
 | some (o, s) => match o with
  | .val v => match s with
   | ⟨h', nx', lg'⟩ => ih v (.fresh nx nx' :: eI nx nx' lg') h' nx' (.fresh nx nx' :: ap (eI nx nx' lg') lg)
  | .panic _ => none
 | none => none
def rSub (ihp : St) (ih : V -> List Fp -> St) : St := fun h nx lg => rSub1 ih nx lg (ihp h nx [])
def run (p : AL) : St := AL.rec (fun o h nx lg => some (o, ⟨h, nx, lg⟩)) (fun _ _ _ => none) (fun b off n _ ih => rRd b off n ih) (fun b off _ ih => rRd1 b off ih) (fun b off l _ ih => rWr b off l ih)
 (fun b _ ih => rSz b ih) (fun c t op _ ih => rNew (.cells c t op) ih) (fun b _ ih => rDel b ih) (fun o _ ih => rNew (.obj o) ih) (fun b _ ih => rGetO b ih) (fun b o _ ih => rSetO b o ih) (fun _ _ ihp ih => rSub ihp ih) p
end
noncomputable section
def tys (P : Program) : Tr TypeInfo := rO P.types.toList 0 .leaf fun t => t
def fns (P : Program) : Tr Func := rO P.funcs.toList 0 .leaf fun t => t
def info (P : Program) (t : Nat) : Option TypeInfo := gp (tys P) (pa t)
def fnAt (P : Program) (f : Nat) : Option Func := gp (fns P) (pa f)
def und1 (P : Program) (i : TypeInfo) : Option TypeDesc := match i.desc with
 | .named _ u => match info P u with
  | some j => some j.desc
  | none => none
 | d => some d
def und (P : Program) (t : Nat) : Option TypeDesc := match info P t with
 | some i => und1 P i
 | none => none
def szT (P : Program) (t : Nat) : Option Nat := match info P t with
 | some i => some i.size
 | none => none
def shp (P : Program) (t : Nat) : Option (Option Nat) := match und P t with
 | some (.struct _) => match szT P t with
  | some n => some (some n)
  | none => none
 | some (.array _ _) => match szT P t with
  | some n => some (some n)
  | none => none
 | some _ => some none
 | none => none
def isC : V -> Bool
 | .agg _ => false
 | .tup _ => false
 | _ => true
def iA : List V -> Bool
 | [] => true
 | v :: l => match isC v with
  | true => iA l
  | false => false
mutual
def ofC : Value -> Option V
 | .int k n => some (.int k n)
 | .bool b => some (.bool b)
 | .string s => some (.str s)
 | .pointer none => some .nilp
 | .slice none 0 0 => some .nils
 | .map none => some .nilm
 | .nilFunc => some .nilf
 | .nilIface => some .nili
 | .iface t v => match ofC v with
  | some x => some (.iface t x)
  | none => none
 | .agg cs => match ofA cs with
  | some l => match iA l with
   | true => some (.agg l)
   | false => none
  | none => none
 | .tuple cs => match ofA cs with
  | some l => some (.tup l)
  | none => none
 | _ => none
def ofA : Array Value -> Option (List V)
 | ⟨l⟩ => ofL l
def ofL : List Value -> Option (List V)
 | [] => some []
 | v :: l => match ofC v with
  | some x => match ofL l with
   | some r => some (x :: r)
   | none => none
  | none => none
end
def zer (P : Program) (t : Nat) : Option V := match info P t with
 | some i => match i.zero with
  | some z => ofC z
  | none => none
 | none => none
def eS : V := .tup []
def vc0 (x : V) : V -> Option (List V) := V.rec (motive_1 := fun _ => V -> Option (List V)) (motive_2 := fun _ => Unit) (fun _ _ => fun v => some [v]) (fun _ => fun v => some [v]) (fun _ => fun v => some [v]) (fun _ _ => fun v => some [v]) (fun v => some [v]) (fun _ _ _ _ => fun v => some [v]) (fun _ _ _ _ => fun v => some [v]) (fun v => some [v]) (fun _ => fun v => some [v]) (fun v => some [v]) (fun _ _ _ _ _ => fun v => some [v]) (fun _ => fun v => some [v]) (fun v => some [v]) (fun _ _ _ => fun v => some [v]) (fun v => some [v]) (fun cs _ => fun _ => some cs) (fun _ _ => fun _ => none) () (fun _ _ _ _ => ()) x
def vc (v : V) : Option (List V) := vc0 v v
inductive Df where
 | fn (f : Nat) (args cap : List V)
 | col (r : Nat)
structure Ac where
 e : Tr V
 n : Nat
 ds : List Df
 ro : Option Nat
inductive X where
 | normal
 | exit (id : Nat)
 | ret
 | panic (ch : List PE)
abbrev KX := X -> Ac -> AL
abbrev Ex := Code -> Ac -> KX -> AL
abbrev KV := V -> AL
abbrev H := Program -> Ex -> Tr V -> KV -> (List PE -> AL) -> (Df -> AL) -> AL
def ev (x : Operand) : Tr V -> Option V := Operand.rec (motive := fun _ => Tr V -> Option V) (fun t => fun e => gp e (pa t)) (fun c => fun _ => ofC c) (fun _ => fun _ => none) (fun f => fun _ => some (.fn f [] [])) x
def cS (x : Operand) (e : Tr V) (f : V -> AL) : AL := Option.rec .fail f (ev x e)
def eA (x y : Operand) (e : Tr V) (f : V -> V -> AL) : AL := Option.rec .fail (fun v => Option.rec .fail (f v) (ev y e)) (ev x e)
def eX (x y z : Operand) (e : Tr V) (f : V -> V -> V -> AL) : AL := cS x e fun v => eA y z e (f v)
def evs (l : List Operand) (e : Tr V) : Option (List V) := List.rec (some []) (fun x _ ih => Option.rec none (fun v => Option.rec none (fun vs => some (v :: vs)) ih) (ev x e)) l
def fD (l : List Operand) (e : Tr V) (f : List V -> AL) : AL := opt (evs l e) .fail f
def evO (x : Option Operand) (e : Tr V) : Option (Option V) := match x with
 | none => some none
 | some x => match ev x e with
  | some v => some (some v)
  | none => none
def wR (x : Option Operand) (e : Tr V) (f : Option V -> AL) : AL := opt (evO x e) .fail f
def prt : List (Nat × Operand) -> List Operand
 | [] => []
 | (_, x) :: l => x :: prt l
def dH (b : Bool) (p : AL) : AL := Bool.rec .fail p b
def ife {β : Type} (b : Bool) (p q : β) : β := Bool.rec q p b
def oo {α : Type} (o : Option α) (f : α -> AL) : AL := opt o .fail f
def tS (x : V) : (Nat -> Nat -> AL) -> AL := V.rec (motive_1 := fun _ => (Nat -> Nat -> AL) -> AL) (motive_2 := fun _ => Unit) (fun _ _ => fun _ => .fail) (fun _ => fun _ => .fail) (fun _ => fun _ => .fail) (fun b off => fun f => f b off) (fun _ => .fail) (fun _ _ _ _ => fun _ => .fail) (fun _ _ _ _ => fun _ => .fail) (fun _ => .fail) (fun _ => fun _ => .fail) (fun _ => .fail) (fun _ _ _ _ _ => fun _ => .fail) (fun _ => fun _ => .fail) (fun _ => .fail) (fun _ _ _ => fun _ => .fail) (fun _ => .fail) (fun _ _ => fun _ => .fail) (fun _ _ => fun _ => .fail) () (fun _ _ _ _ => ()) x
def uZ {β : Type} (x : V) : (IntKind -> Int -> β) -> β -> β := V.rec (motive_1 := fun _ => (IntKind -> Int -> β) -> β -> β) (motive_2 := fun _ => Unit) (fun k n => fun f _ => f k n) (fun _ => fun _ d => d) (fun _ => fun _ d => d) (fun _ _ => fun _ d => d) (fun _ d => d) (fun _ _ _ _ => fun _ d => d) (fun _ _ _ _ => fun _ d => d) (fun _ d => d) (fun _ => fun _ d => d) (fun _ d => d) (fun _ _ _ _ _ => fun _ d => d) (fun _ => fun _ d => d) (fun _ d => d) (fun _ _ _ => fun _ d => d) (fun _ d => d) (fun _ _ => fun _ d => d) (fun _ _ => fun _ d => d) () (fun _ _ _ _ => ()) x
def asBool {β : Type} (x : V) : (Bool -> β) -> β -> β := V.rec (motive_1 := fun _ => (Bool -> β) -> β -> β) (motive_2 := fun _ => Unit) (fun _ _ => fun _ d => d) (fun b => fun f _ => f b) (fun _ => fun _ d => d) (fun _ _ => fun _ d => d) (fun _ d => d) (fun _ _ _ _ => fun _ d => d) (fun _ _ _ _ => fun _ d => d) (fun _ d => d) (fun _ => fun _ d => d) (fun _ d => d) (fun _ _ _ _ _ => fun _ d => d) (fun _ => fun _ d => d) (fun _ d => d) (fun _ _ _ => fun _ d => d) (fun _ d => d) (fun _ _ => fun _ d => d) (fun _ _ => fun _ d => d) () (fun _ _ _ _ => ()) x
def asAgg {β : Type} (x : V) : (List V -> β) -> β -> β := V.rec (motive_1 := fun _ => (List V -> β) -> β -> β) (motive_2 := fun _ => Unit) (fun _ _ => fun _ d => d) (fun _ => fun _ d => d) (fun _ => fun _ d => d) (fun _ _ => fun _ d => d) (fun _ d => d) (fun _ _ _ _ => fun _ d => d) (fun _ _ _ _ => fun _ d => d) (fun _ d => d) (fun _ => fun _ d => d) (fun _ d => d) (fun _ _ _ _ _ => fun _ d => d) (fun _ => fun _ d => d) (fun _ d => d) (fun _ _ _ => fun _ d => d) (fun _ d => d) (fun cs _ => fun f _ => f cs) (fun _ _ => fun _ d => d) () (fun _ _ _ _ => ()) x
def asTup (x : V) : (List V -> AL) -> AL := V.rec (motive_1 := fun _ => (List V -> AL) -> AL) (motive_2 := fun _ => Unit) (fun _ _ => fun _ => .fail) (fun _ => fun _ => .fail) (fun _ => fun _ => .fail) (fun _ _ => fun _ => .fail) (fun _ => .fail) (fun _ _ _ _ => fun _ => .fail) (fun _ _ _ _ => fun _ => .fail) (fun _ => .fail) (fun _ => fun _ => .fail) (fun _ => .fail) (fun _ _ _ _ _ => fun _ => .fail) (fun _ => fun _ => .fail) (fun _ => .fail) (fun _ _ _ => fun _ => .fail) (fun _ => .fail) (fun _ _ => fun _ => .fail) (fun cs _ => fun f => f cs) () (fun _ _ _ _ => ()) x
def xM {β : Type} (x : V) : (ByteArray -> β) -> β -> β := V.rec (motive_1 := fun _ => (ByteArray -> β) -> β -> β) (motive_2 := fun _ => Unit) (fun _ _ => fun _ d => d) (fun _ => fun _ d => d) (fun s => fun f _ => f s) (fun _ _ => fun _ d => d) (fun _ d => d) (fun _ _ _ _ => fun _ d => d) (fun _ _ _ _ => fun _ d => d) (fun _ d => d) (fun _ => fun _ d => d) (fun _ d => d) (fun _ _ _ _ _ => fun _ d => d) (fun _ => fun _ d => d) (fun _ d => d) (fun _ _ _ => fun _ d => d) (fun _ d => d) (fun _ _ => fun _ d => d) (fun _ _ => fun _ d => d) () (fun _ _ _ _ => ()) x
def asSl (x : V) : (Nat -> Nat -> Nat -> Nat -> AL) -> (Nat -> Nat -> Nat -> Nat -> AL) -> AL -> AL -> AL := V.rec (motive_1 := fun _ => (Nat -> Nat -> Nat -> Nat -> AL) -> (Nat -> Nat -> Nat -> Nat -> AL) -> AL -> AL -> AL) (motive_2 := fun _ => Unit) (fun _ _ => fun _ _ _ d => d) (fun _ => fun _ _ _ d => d) (fun _ => fun _ _ _ d => d) (fun _ _ => fun _ _ _ d => d) (fun _ _ _ d => d) (fun b off len cap => fun f _ _ _ => f b off len cap) (fun b off len es => fun _ g _ _ => g b off len es) (fun _ _ n _ => n) (fun _ => fun _ _ _ d => d) (fun _ _ _ d => d) (fun _ _ _ _ _ => fun _ _ _ d => d) (fun _ => fun _ _ _ d => d) (fun _ _ _ d => d) (fun _ _ _ => fun _ _ _ d => d) (fun _ _ _ d => d) (fun _ _ => fun _ _ _ d => d) (fun _ _ => fun _ _ _ d => d) () (fun _ _ _ _ => ()) x
def asMap (x : V) : (Nat -> AL) -> AL -> AL := V.rec (motive_1 := fun _ => (Nat -> AL) -> AL -> AL) (motive_2 := fun _ => Unit) (fun _ _ => fun _ _ => .fail) (fun _ => fun _ _ => .fail) (fun _ => fun _ _ => .fail) (fun _ _ => fun _ _ => .fail) (fun _ _ => .fail) (fun _ _ _ _ => fun _ _ => .fail) (fun _ _ _ _ => fun _ _ => .fail) (fun _ _ => .fail) (fun b => fun f _ => f b) (fun _ n => n) (fun _ _ _ _ _ => fun _ _ => .fail) (fun _ => fun _ _ => .fail) (fun _ _ => .fail) (fun _ _ _ => fun _ _ => .fail) (fun _ _ => .fail) (fun _ _ => fun _ _ => .fail) (fun _ _ => fun _ _ => .fail) () (fun _ _ _ _ => ()) x
def asIf (x : V) : (Nat -> V -> AL) -> AL -> AL := V.rec (motive_1 := fun _ => (Nat -> V -> AL) -> AL -> AL) (motive_2 := fun _ => Unit) (fun _ _ => fun _ _ => .fail) (fun _ => fun _ _ => .fail) (fun _ => fun _ _ => .fail) (fun _ _ => fun _ _ => .fail) (fun _ _ => .fail) (fun _ _ _ _ => fun _ _ => .fail) (fun _ _ _ _ => fun _ _ => .fail) (fun _ _ => .fail) (fun _ => fun _ _ => .fail) (fun _ _ => .fail) (fun _ _ _ _ _ => fun _ _ => .fail) (fun _ => fun _ _ => .fail) (fun _ _ => .fail) (fun t v _ => fun f _ => f t v) (fun _ n => n) (fun _ _ => fun _ _ => .fail) (fun _ _ => fun _ _ => .fail) () (fun _ _ _ _ => ()) x
def asFn (x : V) : (Nat -> List V -> List V -> AL) -> (Nat -> AL) -> AL := V.rec (motive_1 := fun _ => (Nat -> List V -> List V -> AL) -> (Nat -> AL) -> AL) (motive_2 := fun _ => Unit) (fun _ _ => fun _ _ => .fail) (fun _ => fun _ _ => .fail) (fun _ => fun _ _ => .fail) (fun _ _ => fun _ _ => .fail) (fun _ _ => .fail) (fun _ _ _ _ => fun _ _ => .fail) (fun _ _ _ _ => fun _ _ => .fail) (fun _ _ => .fail) (fun _ => fun _ _ => .fail) (fun _ _ => .fail) (fun g a c _ _ => fun f _ => f g a c) (fun l => fun _ y => y l) (fun _ _ => .fail) (fun _ _ _ => fun _ _ => .fail) (fun _ _ => .fail) (fun _ _ => fun _ _ => .fail) (fun _ _ => fun _ _ => .fail) () (fun _ _ _ _ => ()) x
def noNil (x : V) : AL -> AL := V.rec (motive_1 := fun _ => AL -> AL) (motive_2 := fun _ => Unit) (fun _ _ => fun _ => .fail) (fun _ => fun _ => .fail) (fun _ => fun _ => .fail) (fun _ _ => fun k => k) (fun _ => .fail) (fun _ _ _ _ => fun _ => .fail) (fun _ _ _ _ => fun _ => .fail) (fun _ => .fail) (fun _ => fun _ => .fail) (fun _ => .fail) (fun _ _ _ _ _ => fun k => k) (fun _ => fun k => k) (fun _ => .fail) (fun _ _ _ => fun _ => .fail) (fun _ => .fail) (fun _ _ => fun _ => .fail) (fun _ _ => fun _ => .fail) () (fun _ _ _ _ => ()) x
def OPEN : Nat := 9223372036854775808
def natI (x : Int) : Option Nat := Int.rec (motive := fun _ => Option Nat) (fun k => some k) (fun _ => none) x
def pT (v : V) : Option Nat := uZ v (fun _ n => natI n) none
def inR (x : Int) : (Int -> AL) -> AL := Int.rec (motive := fun _ => (Int -> AL) -> AL) (fun n => fun k => eW n .fail fun n => dH (Nat.blt n OPEN) (k (.ofNat n))) (fun n => fun k => eW n .fail fun n => dH (Nat.blt n OPEN) (k (.negSucc n))) x
def ltI (i j : Int) : Bool := match i, j with
 | .ofNat a, .ofNat b => Nat.blt a b
 | .negSucc _, .ofNat _ => true
 | .negSucc a, .negSucc b => Nat.blt b a
 | .ofNat _, .negSucc _ => false
def eqI (i j : Int) : Bool := match i, j with
 | .ofNat a, .ofNat b => Nat.beq a b
 | .negSucc a, .negSucc b => Nat.beq a b
 | _, _ => false
mutual
def gv : V -> Option Value
 | .int k n => some (.int k n)
 | .bool b => some (.bool b)
 | .str s => some (.string s)
 | .nilp => some (.pointer none)
 | .nils => some (.slice none 0 0)
 | .nilm => some (.map none)
 | .nilf => some .nilFunc
 | .nili => some .nilIface
 | .iface t v => match gv v with
  | some x => some (.iface t x)
  | none => none
 | .agg cs => match iA cs with
  | true => match gvs cs with
   | some l => some (.agg ⟨l⟩)
   | none => none
  | false => none
 | .tup cs => match gvs cs with
  | some l => some (.tuple ⟨l⟩)
  | none => none
 | _ => none
def gvs : List V -> Option (List Value)
 | [] => some []
 | v :: l => match gv v with
  | some x => match gvs l with
   | some r => some (x :: r)
   | none => none
  | none => none
end
def zG (P : Program) {α : Type} : Sem α -> Option α
 | .pure a => some a
 | .program k => zG P (k P)
 | .mark _ k => zG P k
 | _ => none
def gen (P : Program) (m : Sem Value) (k : V -> AL) : AL := oo (zG P m) fun v => oo (ofC v) k
def gen1 (P : Program) (m : Value -> Sem Value) (x : V) (k : V -> AL) : AL := oo (gv x) fun a => gen P (m a) k
def gen2 (P : Program) (m : Value -> Value -> Sem Value) (x y : V) (k : V -> AL) : AL := oo (gv x) fun a => oo (gv y) fun b => gen P (m a b) k
def jD (n : Int) : V := .int .i64 n
def binI (x : BinOp) : Int -> Int -> (V -> AL) -> AL -> AL := BinOp.rec (motive := fun _ => Int -> Int -> (V -> AL) -> AL -> AL) (fun i j k _ => inR (i + j) fun n => k (.int .i64 n)) (fun i j k _ => inR (i - j) fun n => k (.int .i64 n)) (fun i j k _ => inR (i * j) fun n => k (.int .i64 n)) (fun _ _ _ d => d) (fun _ _ _ d => d) (fun _ _ _ d => d) (fun _ _ _ d => d) (fun _ _ _ d => d) (fun _ _ _ d => d) (fun _ _ _ d => d) (fun _ _ _ d => d) (fun i j k _ => k (.bool (eqI i j))) (fun i j k _ => k (.bool (Bool.not (eqI i j)))) (fun i j k _ => k (.bool (ltI i j))) (fun i j k _ => k (.bool (Bool.not (ltI j i)))) (fun i j k _ => k (.bool (ltI j i))) (fun i j k _ => k (.bool (Bool.not (ltI i j)))) x
def eqN1 : V -> V -> Option Bool
 | .nilp, .ptr _ _ => some false
 | .ptr _ _, .nilp => some false
 | .ptr b o, .ptr c q => match Nat.beq b c with
  | true => some (Nat.beq o q)
  | false => none
 | _, _ => none
def eqN2 : V -> V -> Option Bool
 | .nils, .sl _ _ _ _ => some false
 | .nils, .so _ _ _ _ => some false
 | .sl _ _ _ _, .nils => some false
 | .so _ _ _ _, .nils => some false
 | _, _ => none
def eqN3 : V -> V -> Option Bool
 | .nilm, .map _ => some false
 | .map _, .nilm => some false
 | _, _ => none
def eqN4 : V -> V -> Option Bool
 | .nilf, .fn _ _ _ => some false
 | .fn _ _ _, .nilf => some false
 | _, _ => none
def eqN5 : V -> V -> Option Bool
 | .nili, .iface _ _ => some false
 | .iface _ _, .nili => some false
 | _, _ => none
def eqN (P : Program) (T : Nat) (a b : V) : Option Bool := match und P T with
 | some (.pointer el) => match szT P el with
  | some (_ + 1) => eqN1 a b
  | _ => none
 | some (.slice _) => eqN2 a b
 | some (.map _ _) => eqN3 a b
 | some (.func _ _ _) => eqN4 a b
 | some (.interface _) => eqN5 a b
 | _ => none
def eqK (x : BinOp) : Bool -> (V -> AL) -> AL := BinOp.rec (motive := fun _ => Bool -> (V -> AL) -> AL) (fun _ _ => .fail) (fun _ _ => .fail) (fun _ _ => .fail) (fun _ _ => .fail) (fun _ _ => .fail) (fun _ _ => .fail) (fun _ _ => .fail) (fun _ _ => .fail) (fun _ _ => .fail) (fun _ _ => .fail) (fun _ _ => .fail) (fun r k => k (.bool r)) (fun r k => k (.bool (Bool.not r))) (fun _ _ => .fail) (fun _ _ => .fail) (fun _ _ => .fail) (fun _ _ => .fail) x
def binG (P : Program) (op : BinOp) (T : Nat) (x y : Operand) (a b : V) (k : V -> AL) : AL := opt (eqN P T a b) (gen2 P (fun a b => do eqGuard op T x y a b; binOp op T a b) a b k) fun r => eqK op r k
def isI64 (k : IntKind) : Bool := match k with
 | .i64 => true
 | _ => false
def binB (op : BinOp) (u v : V) (k : V -> AL) (d : AL) : AL := uZ u (fun ku i => uZ v (fun kv j => ife (isI64 ku) (ife (isI64 kv) (binI op i j k d) d) d) d) d
def hBin (op : BinOp) (T : Nat) (x y : Operand) : H := fun P _ e k _ _ => eA x y e fun u v => binB op u v k (binG P op T x y u v k)
def mT (x : Operand) : H := fun _ _ e k _ _ => cS x e k
def wH (c x y : Operand) : H := fun _ _ e k _ _ => eX c x y e fun c x y => asBool c (fun b => ife b (k x) (k y)) .fail
def loadS (s : Option Nat) (b off : Nat) (k : V -> AL) : AL := opt s (.rd1 b off k) fun n => ife (Nat.beq n 0) (k (.agg [])) (.rd b off n fun l => k (.agg l))
def wY (t : Nat) (x : Operand) : H := fun P _ e k _ _ => cS x e fun v => oo (shp P t) fun s => tS v fun b off => loadS s b off k
def vY (t : Nat) (x y : Operand) : H := fun P _ e k _ _ => eA x y e fun p v => oo (szT P t) fun n => tS p fun b off => oo (vc v) fun c => dH (Nat.beq (ln c 0) n) (ife (Nat.beq n 0) (k eS) (.wr b off c (k eS)))
def zE (t : Nat) : H := fun P _ e k _ _ => oo (zer P t) fun z => oo (vc z) fun c => .new c t 0 fun b => k (.ptr b 0)
def hBox (t : Nat) (x : Operand) : H := fun _ _ e k _ _ => cS x e fun v => oo (vc v) fun c => .new c t 0 fun b => k (.ptr b 0)
def fldOf (P : Program) (t f : Nat) : Option (Nat × Nat) := match und P t with
 | some (.struct fs) => match nth fs.toList f with
  | some fd => some (fd.offset, fd.type)
  | none => none
 | _ => none
def fldA (P : Program) (t f : Nat) : Option Nat := match fldOf P t f with
 | some (o, ft) => match szT P ft with
  | some n => match Nat.blt 0 n with
   | true => some o
   | false => none
  | none => none
 | none => none
def uG (t : Nat) (x : Operand) (f : Nat) : H := fun P _ e k _ _ => cS x e fun v => oo (fldA P t f) fun o => tS v fun b off => eW (Nat.add off o) .fail fun n => k (.ptr b n)
def partV (s : Option Nat) (off : Nat) (cs : List V) (k : V -> AL) : AL := opt s (oo (nth cs off) k) fun n => oo (tk n (dr off cs)) fun l => k (.agg l)
def fldV (P : Program) (t f : Nat) : Option (Nat × Option Nat) := match fldOf P t f with
 | some (o, ft) => match shp P ft with
  | some s => some (o, s)
  | none => none
 | none => none
def uR (t : Nat) (x : Operand) (f : Nat) : H := fun P _ e k _ _ => cS x e fun v => oo (fldV P t f) fun q => asAgg v (fun cs => partV q.2 q.1 cs k) .fail
def elOf (P : Program) (t : Nat) : Option Nat := match und P t with
 | some (.slice el) => some el
 | _ => none
def arOf (P : Program) (t : Nat) : Option (Nat × Nat) := match und P t with
 | some (.array n el) => some (n, el)
 | _ => none
def ixOf (P : Program) (t : Nat) : Option (Nat × Option Nat) := match und P t with
 | some (.slice el) => match szT P el with
  | some es => some (es, none)
  | none => none
 | some (.array n el) => match szT P el with
  | some es => some (es, some n)
  | none => none
 | _ => none
def at' (b off es len : Nat) (i : V) (k : V -> AL) : AL := oo (pT i) fun j => dH (Nat.blt j len) (eW (Nat.add off (Nat.mul j es)) .fail fun n => k (.ptr b n))
def uX (t : Nat) (x i : Operand) : H := fun P _ e k _ _ => eA x i e fun v i => oo (ixOf P t) fun q =>
 opt q.2 (asSl v (fun b off len _ => at' b off q.1 len i k) (fun b off len _ => at' b off q.1 len i k) .fail .fail) fun n => tS v fun b off => at' b off q.1 n i k
def hIdx (t : Nat) (x i : Operand) : H := fun P _ e k _ _ => eA x i e fun v i => asAgg v (fun cs => oo (arOf P t) fun q => oo (szT P q.2) fun es => oo (shp P q.2) fun s => oo (pT i) fun j => dH (Nat.blt j q.1) (partV s (Nat.mul j es) cs k))
 (gen2 P (Instr.index t) v i k)
def hUn (op : UnOp) (_ : Nat) (x : Operand) : H := fun P _ e k _ _ => cS x e fun v => match op with
 | .not => asBool v (fun b => k (.bool (Bool.not b))) .fail
 | op => gen1 P (Op.unary op) v k
def hNil (x : Operand) : H := fun _ _ e k _ _ => cS x e fun v => noNil v (k v)
def hExt (x : Operand) (i : Nat) : H := fun _ _ e k _ _ => cS x e fun v => asTup v fun l => oo (nth l i) k
def noIf (P : Program) (t : Nat) : Bool := match und P t with
 | none => false
 | some (.interface _) => false
 | some _ => true
def hMkI (t : Nat) (x : Operand) : H := fun P _ e k _ _ => cS x e fun v => dH (noIf P t) (k (.iface t v))
def fnOf (x : Fn) : Option Nat := Fn.rec (motive := fun _ => Option Nat) (fun g => some g) (fun _ => none) (fun _ _ => none) (fun _ _ _ _ => none) (fun _ => none) x
def hMkF (fn : Fn) (f c : Array Operand) : H := fun _ _ e k _ _ => oo (fnOf fn) fun g => fD f.toList e fun f => fD c.toList e fun c => k (.fn g f c)
def okT (ok b : Bool) (v : V) : V := match ok with
 | true => .tup [v, .bool b]
 | false => v
def hTa (x : Operand) (_ T : Nat) (ok : Bool) : H := fun P _ e k _ _ => cS x e fun v => dH (noIf P T) (asIf v (fun t w => ife (Nat.beq t T) (k (okT ok true w)) (dH ok (oo (zer P T) fun z => k (.tup [z, .bool false]))))
 (dH ok (oo (zer P T) fun z => k (.tup [z, .bool false]))))
def plc (P : Program) (fs : List Field) (i : Nat) : Option (Nat × Nat) := match nth fs i with
 | some f => match szT P f.type with
  | some n => some (f.offset, n)
  | none => none
 | none => none
def rW (pc : Nat -> Option (Nat × Nat)) (ps : List (Nat × Operand)) : List V -> List V -> Option (List V) := List.rec (fun _ c => some c) (fun p _ ih vs c => List.rec none (fun v r _ => Option.rec none (fun q => Option.rec none (fun u => Bool.rec none (Option.rec none (fun c' => ih r c') (pl u q.1 c)) (Nat.beq (ln u 0) q.2)) (vc v)) (pc p.1)) vs) ps
def szs (P : Program) : List Field -> Bool
 | [] => true
 | f :: r => match szT P f.type with
  | some _ => szs P r
  | none => false
def plcOf (P : Program) (t : Nat) : Option (Nat -> Option (Nat × Nat)) := match und P t with
 | some (.struct fs) => match szs P fs.toList with
  | true => some (plc P fs.toList)
  | false => none
 | some (.array _ el) => match szT P el with
  | some es => some fun i => some (Nat.mul i es, es)
  | none => none
 | _ => none
def wA (t : Nat) (ps : Array (Nat × Operand)) : H := fun P _ e k _ _ => fD (prt ps.toList) e fun vs => oo (zer P t) fun z => oo (plcOf P t) fun pc => oo (asAgg z some none) fun z => oo (rW pc ps.toList vs z) fun c => k (.agg c)
def lim : Nat := 1048576
def rQ (P : Program) (t : Nat) : Option (Nat × Nat × List V) := match elOf P t with
 | some el => match info P el with
  | some i => match zer P el with
   | some z => match vc z with
    | some c => match Bool.and (Nat.beq (ln c 0) i.size) (Bool.and (Nat.ble i.size lim) (Nat.ble i.bytes lim)) with
     | true => some (el, i.size, c)
     | false => none
    | none => none
   | none => none
  | none => none
 | none => none
def wS (t len : Nat) (ps : Array (Nat × Operand)) : H := fun P _ e k _ _ => fD (prt ps.toList) e fun vs => oo (rQ P t) fun q =>
 dH (Nat.ble (Nat.mul len q.2.1) lim) (oo (rW (fun i => some (Nat.mul i q.2.1, q.2.1)) ps.toList vs (rep q.2.2 len)) fun c => .new c q.1 0 fun b => k (.sl b 0 len len))
def hMks (t : Nat) (x y : Operand) : H := fun P _ e k _ _ => eA x y e fun l c => oo (rQ P t) fun q => oo (pT l) fun l => oo (pT c) fun c =>
 dH (Bool.and (Nat.ble l c) (Nat.ble c lim)) (.new (rep q.2.2 c) q.1 0 fun b => k (.sl b 0 l c))
def isStr (P : Program) (t : Nat) : Bool := match und P t with
 | some .string => true
 | _ => false
def ofB (x : Option V) (d : Nat) (f : Nat -> AL) : AL := opt x (f d) fun v => oo (pT v) f
def slN (es b off cap l h m : Nat) (k : V -> AL) : AL := dH (Bool.and (Nat.ble l h) (Bool.and (Nat.ble h m) (Nat.ble m cap))) (ife (Nat.beq m l) (k (.sl b off (Nat.sub h l) (Nat.sub m l)))
 (eW (Nat.add off (Nat.mul l es)) .fail fun o => eW (Nat.sub h l) .fail fun n => eW (Nat.sub m l) .fail fun c => k (.sl b o n c)))
def slO (es b off len l h : Nat) (k : V -> AL) : AL := dH (Bool.and (Nat.blt 0 es) (Bool.and (Nat.ble l h) (Bool.and (Nat.ble h len) (Bool.or (Nat.beq l 0) (Nat.blt l len)))))
 (eW (Nat.add off (Nat.mul l es)) .fail fun o => eW (Nat.sub h l) .fail fun n => k (.so b o n es))
def soOk (es b off len es0 : Nat) (p : AL) : AL := dH (Bool.and (Nat.blt 0 es) (Nat.beq es0 es)) (.sz b fun cl _ op => dH (Bool.and (Nat.beq op es) (Nat.ble (Nat.add off (Nat.mul len es)) cl)) p)
def hiOk (hi mx : Option V) : Bool := opt mx true fun _ => opt hi false fun _ => true
def uI (t : Nat) (x : Operand) (lo hi mx : Option Operand) : H := fun P _ e k _ _ => cS x e fun v => wR lo e fun lo => wR hi e fun hi => wR mx e fun mx => dH (hiOk hi mx) (match elOf P t with
 | some el => oo (szT P el) fun es => asSl v (fun b off len cap => ofB lo 0 fun l => ofB hi len fun h => ofB mx cap fun m => slN es b off cap l h m k)
   (fun b off len es0 => soOk es b off len es0 (ofB lo 0 fun l => ofB hi len fun h => opt mx (slO es b off len l h k) fun _ => ofB mx 0 fun m => slN es b off len l h m k))
   (ofB lo 0 fun l => ofB hi 0 fun h => ofB mx 0 fun m => dH (Nat.beq (Nat.add l (Nat.add h m)) 0) (k .nils)) .fail
 | none => dH (isStr P t) (opt mx (xM v (fun s => ofB lo 0 fun l => ofB hi s.size fun h => dH (Bool.and (Nat.ble l h) (Nat.ble h s.size)) (k (.str (s.extract l h)))) .fail) fun _ => .fail))
def zH (s : ByteArray) : List V := s.data.toList.map fun b => .int .u8 (Int.ofNat b.toNat)
def rdN (b off n : Nat) (k : List V -> AL) : AL := ife (Nat.beq n 0) (k []) (.rd b off n k)
def cellsOf (es : Nat) (v : V) (f : Nat -> List V -> AL) : AL := asSl v (fun b off len _ => rdN b off (Nat.mul len es) (f len)) (fun b off len _ => rdN b off (Nat.mul len es) (f len)) (f 0 [])
 (xM v (fun s => dH (Nat.beq es 1) (f s.size (zH s))) .fail)
def grow (el es n : Nat) (c : List V) (k : V -> AL) : AL := dH (Nat.ble n lim) (.new c el es fun b => k (.so b 0 n es))
def appO (el es b off len n : Nat) (new : List V) (k : V -> AL) : AL := .sz b fun cl t op => dH (Bool.and (Nat.beq op es) (Nat.beq t el)) (eW (Nat.add len n) .fail fun ln' => ife (Nat.ble (Nat.add off (Nat.mul ln' es)) cl)
 (.wr b (Nat.add off (Nat.mul len es)) new (k (.so b off ln' es)))
 (dH (Bool.and (Nat.beq off 0) (Nat.beq (Nat.mul len es) cl)) (rdN b 0 (Nat.mul len es) fun old => .del b (grow el es ln' (ap old new) k))))
def appL (el es : Nat) (s : V) (n : Nat) (new : List V) (k : V -> AL) : AL := ife (Nat.beq n 0) (asSl s (fun _ _ len cap => dH (Nat.ble len cap) (k s)) (fun b off len es0 => soOk es b off len es0 (k s)) (k s) .fail)
 (asSl s (fun b off len cap => eW (Nat.add len n) .fail fun ln' => ife (Nat.ble ln' cap) (.wr b (Nat.add off (Nat.mul len es)) new (k (.sl b off ln' cap))) (rdN b off (Nat.mul len es) fun old => grow el es ln' (ap old new) k))
  (fun b off len es0 => dH (Nat.beq es0 es) (appO el es b off len n new k)) (grow el es n new k) .fail)
def isInt (P : Program) (t : Nat) : Bool := match und P t with
 | some (.int _) => true
 | none => true
 | _ => false
def xD (c : Call) : H := fun P _ e k _ _ => fD c.args.toList e fun vs => match c.argTypes.toList, vs with
 | T :: U :: _, s :: x :: _ => oo (rQ P T) fun q => dH (Bool.and (Nat.blt 0 q.2.1) (Bool.not (isInt P U))) (cellsOf q.2.1 x fun n new => appL q.1 q.2.1 s n new k)
 | _, _ => .fail
def mapK (x : Ob) : (List Ent -> Nat -> AL) -> AL := Ob.rec (motive := fun _ => (List Ent -> Nat -> AL) -> AL) (fun es c => fun f => f es c) (fun _ _ _ _ _ _ _ _ _ => fun _ => .fail) (fun _ => fun _ => .fail) x
def hLen (c : Call) : H := fun P _ e k _ _ => fD c.args.toList e fun vs => match c.argTypes.toList, vs with
 | T :: _, v :: _ => match und P T with
  | some (.slice _) => asSl v (fun _ _ len _ => k (jD (.ofNat len))) (fun _ _ len _ => k (jD (.ofNat len))) (k (jD (.ofNat 0))) .fail
  | some .string => xM v (fun s => k (jD (.ofNat s.size))) .fail
  | some (.map _ _) => asMap v (fun b => .getO b fun o => mapK o (fun es _ => k (jD (.ofNat (ln es 0))))) (k (jD (.ofNat 0)))
  | some (.array n _) => k (jD (.ofNat n))
  | _ => .fail
 | _, _ => .fail
def hMm (least : Bool) (c : Call) : H := fun _ _ e k _ _ => fD c.args.toList e fun vs => match vs with
 | [.int .i64 i, .int .i64 j] => ife least (ife (ltI j i) (k (jD j)) (k (jD i))) (ife (ltI i j) (k (jD j)) (k (jD i)))
 | _ => .fail
def vM (c : Call) : H := fun P _ e k _ _ => fD c.args.toList e fun vs => match c.argTypes.toList, vs with
 | T :: _, v :: _ => oo (rQ P T) fun q => asSl v (fun b off len _ => ife (Nat.beq len 0) (k eS) (.wr b off (rep q.2.2 len) (k eS))) (fun b off len _ => ife (Nat.beq len 0) (k eS) (.wr b off (rep q.2.2 len) (k eS))) (k eS) .fail
 | _, _ => .fail
def isKey (P : Program) (t : Nat) : Option Bool := match und P t with
 | some (.int _) => some false
 | some .string => some true
 | _ => none
def qL : V -> V -> Option Bool
 | .int .i64 a, .int .i64 b => some (eqI a b)
 | .int .u8 a, .int .u8 b => some (eqI a b)
 | .str a, .str b => some (a == b)
 | _, _ => none
def keyOk (t : Bool) (v : V) : Bool := uZ v (fun _ _ => Bool.not t) (xM v (fun _ => t) false)
def uB (x : V) : List Ent -> Option (Option V)
 | [] => some none
 | e :: es => match qL x e.key with
  | some true => some (some e.val)
  | some false => uB x es
  | none => none
def mapOf (P : Program) (t : Nat) : Option (Nat × Bool) := match und P t with
 | some (.map kt el) => match isKey P kt with
  | some b => some (el, b)
  | none => none
 | _ => none
def vU (t : Nat) (x y : Operand) (ok : Bool) : H := fun P _ e k _ _ => eA x y e fun m x => oo (mapOf P t) fun m' => oo (zer P m'.1) fun z => dH (keyOk m'.2 x) (asMap m
 (fun b => .getO b fun o => mapK o fun es _ => oo (uB x es) fun r => opt r (k (okT ok false z)) fun v => k (okT ok true v)) (k (okT ok false z)))
def setE (x v : V) (c : Nat) : List Ent -> Option (List Ent × Nat)
 | [] => some ([⟨x, v, c⟩], Nat.succ c)
 | e :: es => match qL x e.key with
  | some true => some (⟨x, v, e.born⟩ :: es, c)
  | some false => match setE x v c es with
   | some (l, c') => some (e :: l, c')
   | none => none
  | none => none
def hUpd (t : Nat) (x y z : Operand) : H := fun P _ e k _ _ => eX x y z e fun m x v => oo (mapOf P t) fun m' => dH (keyOk m'.2 x) (asMap m
 (fun b => .getO b fun o => mapK o fun es c => oo (setE x v c es) fun q => .setO b (.map q.1 q.2) (k eS)) .fail)
def hMapN (_ : Nat) (r : Option Operand) : H := fun _ _ _ k _ _ => opt r (.newO (.map [] 0) fun b => k (.map b)) fun _ => .fail
def uU (s t : Nat) (x : Operand) : H := fun P _ e k _ _ => cS x e fun v => gen1 P (convert s t) v k
def dK : H := fun _ _ _ _ _ _ => .fail
def opB (x : Builtin) : Call -> H := Builtin.rec (motive := fun _ => Call -> H) (xD) (fun _ => dK) (vM) (fun _ => dK) (fun _ => dK) (fun _ => dK) (fun _ => dK) (fun _ => dK) (hLen) (fun _ => dK) (hMm false) (hMm true) (fun _ => dK) (fun _ => dK) (fun _ => dK) (fun _ => dK) (fun _ => dK) (fun _ => dK) (fun _ => dK) (fun _ => dK) (fun _ => dK) (fun _ => dK) (fun _ => dK) (fun _ => dK) (fun _ => dK) (fun _ => dK) x
end
noncomputable section
def insE (d : Option Nat) (v : V) (e : Tr V) (n : Nat) (k : Tr V -> AL) : AL := Option.rec (k e) (fun t => Bool.rec .fail (pp e (some v) (pa t) k) (Nat.blt t n)) d
def acK {β : Type} (a : Ac) (f : Tr V -> Nat -> List Df -> Option Nat -> β) : β := Ac.rec f a
def insK (d : Option Nat) (a : Ac) (v : V) (k : Ac -> AL) : AL := acK a fun e n ds ro => insE d v e n fun e => k ⟨e, n, ds, ro⟩
inductive FM where
 | ret
 | pan (ch : List PE)
def uM : FM -> FM
 | .pan (⟨_, true⟩ :: _) => .ret
 | u => u
def aBz (u : FM) (ch : List PE) : FM := match u with
 | .pan old => .pan (ap ch old)
 | .ret => .pan ch
def rcv : FM -> V × FM
 | .pan (⟨v, false⟩ :: eI) => (v, .pan (⟨v, true⟩ :: eI))
 | u => (.nili, u)
def bod (P : Program) (f : Nat) : Option (Func × Code) := match fnAt P f with
 | none => none
 | some fn => match fn.body with
  | none => none
  | some c => match fn.name == "runtime.NumGoroutine" with
   | true => none
   | false => some (fn, c)
def aAO (l : List V) : Nat -> Tr V -> (Tr V -> AL) -> AL := List.rec (fun _ e k => k e) (fun v _ ih n e k => pp e (some v) (pa n) fun e => ih (Nat.succ n) e k) l
def res1 (P : Program) (e : Tr V) (r : ResultVar) (k : V -> AL) : AL := match r with
 | .tmp t => oo (gp e (pa t)) k
 | .cell t T => oo (gp e (pa t)) fun v => oo (shp P T) fun s => tS v fun b off => loadS s b off k
def resA (P : Program) (e : Tr V) (rs : List ResultVar) : (List V -> AL) -> AL := List.rec (fun k => k []) (fun r _ ih k => res1 P e r fun v => ih fun vs => k (v :: vs)) rs
def pC (l : List V) : V := match l with
 | [v] => v
 | l => .tup l
def after (x : X) (ds : List Df) (u : FM) : Option FM := match ds with
 | _ :: _ => none
 | [] => match x with
  | .normal => some (uM u)
  | .ret => some (uM u)
  | .panic ch => some (aBz u ch)
  | .exit _ => none
def pQ (o : Oper) : Option Nat := match o.guard with
 | some _ => none
 | none => match o.op with
  | .call c => match c.callee with
   | .builtin .recover => match c.args.toList with
    | [] => o.dst
    | _ => none
   | _ => none
  | _ => none
def vZ (d : Nat) (o : Oper) : Option Nat := match o.guard with
 | some _ => none
 | none => match o.op with
  | .assign (.tmp t) => match Nat.beq t d with
   | true => o.dst
   | false => none
  | _ => none
def recB (c : Code) : Option (Nat × Option Nat × Code) := match c with
 | .seq (.region _ ops false) y => match ops.toList with
  | [o, p] => match pQ o with
   | some d => match vZ d p with
    | some e => some (d, some e, y)
    | none => none
   | none => none
  | [o] => match pQ o with
   | some d => some (d, none, y)
   | none => none
  | _ => none
 | _ => none
def aAq (fn : Func) (args : List V) (k : Ac -> AL) : AL := dH (Nat.ble (ln args 0) fn.ntmps) (aAO args 0 .leaf fun e => k ⟨e, fn.ntmps, [], none⟩)
def noRes (l : List ResultVar) : Bool := match l with
 | [] => true
 | _ :: _ => false
def defer1 (P : Program) (ex : Ex) (d : Df) (u : FM) (k : FM -> AL) : AL := match d with
 | .col r => .getO r fun o => match o with
  | .dfr true => .setO r (.dfr false) (k u)
  | _ => .fail
 | .fn f args cap => oo (bod P f) fun q => dH (noRes q.1.results.toList) (aAq q.1 (ap args cap) fun a => match recB q.2 with
  | some (d, e, y) => insK (some d) a (rcv u).1 fun a => insK e a (rcv u).1 fun a => ex y a fun x a => oo (after x a.ds (rcv u).2) k
  | none => ex q.2 a fun x a => oo (after x a.ds u) k)
def gone (P : Program) (fn : Func) (e : Tr V) (u : FM) (k : O -> AL) : AL := match u with
 | .ret => resA P e fn.results.toList fun l => k (.val (pC l))
 | .pan ch => k (.panic ch)
def kN (P : Program) (ex : Ex) (fn : Func) (e : Tr V) (k : O -> AL) (ds : List Df) : FM -> AL := List.rec (fun u => gone P fn e u k) (fun d _ ih u => defer1 P ex d u ih) ds
def left (x : X) : Option FM := X.rec (motive := fun _ => Option FM) (some .ret) (fun _ => none) (some .ret) (fun ch => some (.pan ch)) x
def left1 (P : Program) (ex : Ex) (fn : Func) (k : O -> AL) (x : X) (a : Ac) : AL := oo (left x) fun u => acK a fun e _ ds _ => kN P ex fn e k ds u
def sS (P : Program) (ex : Ex) (f : Nat) (args : List V) (k : O -> AL) : AL := oo (bod P f) fun q => aAq q.1 args fun a => ex q.2 a (left1 P ex q.1 k)
def pendOf (x : X) (ds : List Df) : Option (Option Code) := match ds with
 | _ :: _ => none
 | [] => match x with
  | .normal => some none
  | .ret => some (some .ret)
  | .exit id => some (some (.exit id))
  | .panic _ => none
def putPs (ts : List Nat) (n : Nat) : List V -> Tr V -> (Tr V -> AL) -> AL := List.rec (fun vs e k => List.rec (k e) (fun _ _ _ => .fail) vs) (fun t _ ih vs e k => List.rec .fail (fun v r _ => dH (Nat.blt t n) (pp e (some v) (pa t) fun e => ih r e k)) vs) ts
def stOf (j : Option Code) : LoopState := match j with
 | none => .ready
 | some _ => .done
def aAw (ex : Ex) (l : Nat) (args : List V) (k : O -> AL) : AL := .getO l fun o => match o with
 | .loop .ready p f e n ps sg bd d => putPs ps n args e fun e' => ex sg ⟨e', n, [], some l⟩ fun x a => match x with
  | .normal => .getO l fun o => match o with
   | .loop .ready p f e n ps sg' bd' d => .setO l (.loop .busy p f e n ps sg' bd' d) (ex bd a fun x a => oo (pendOf x a.ds) fun j => .getO l fun o => match o with
    | .loop _ _ f e n ps sg bd d => .setO l (.loop (stOf j) j f e n ps sg bd d) (k (.val (.bool j.isNone)))
    | _ => .fail)
   | _ => .fail
  | _ => .fail
 | _ => .fail
def invokeA (P : Program) (ex : Ex) (args : List V) (k : O -> AL) (v : V) : AL := asFn v (fun f first cap => sS P ex f (ap first (ap args cap)) k) (fun l => aAw ex l args k)
def yV (P : Program) (t : Nat) (name : String) : Option Nat := match info P t with
 | some i => match i.methods.find? (·.name == name) with
  | some m => match m.path.toList with
   | [] => match m.func with
    | some (f, p) => match und P t with
     | some (.pointer _) => match p with
      | true => some f
      | false => none
     | some _ => match p with
      | true => none
      | false => some f
     | none => none
    | none => none
   | _ => none
  | none => none
 | none => none
def oOut (x : O) : KV -> (List PE -> AL) -> AL := O.rec (motive := fun _ => KV -> (List PE -> AL) -> AL) (fun v => fun k _ => k v) (fun ch => fun _ kp => kp ch) x
def zP (f : Operand) (c : Call) : H := fun P ex e k kp _ => cS f e fun fv => fD c.args.toList e fun args => invokeA P ex args (fun o => oOut o k kp) fv
def hInv (x : Operand) (name : String) (c : Call) : H := fun P ex e k kp _ => cS x e fun v => fD c.args.toList e fun args => asIf v (fun t w => oo (yV P t name) fun f => sS P ex f (w :: args) fun o => oOut o k kp) .fail
def hCal (x : Callee) : Call -> H := Callee.rec (motive := fun _ => Call -> H) (fun f => zP f) (fun x name => hInv x name) (fun b => opB b) x
def hCall (c : Call) : H := hCal c.callee c
def valOf (x : Callee) : Option Operand := Callee.rec (motive := fun _ => Option Operand) (fun f => some f) (fun _ _ => none) (fun _ => none) x
def tE (c : Call) : H := fun _ _ e _ _ kd => oo (valOf c.callee) fun f => cS f e fun fv => fD c.args.toList e fun args => asFn fv (fun g first cap => kd (.fn g (ap first args) cap)) fun _ => .fail
def xT (x : Operand) : H := fun _ _ e _ kp _ => cS x e fun v => asIf v (fun t w => kp [⟨.iface t w, false⟩]) .fail
def opH (x : Op) : H := Op.rec (motive := fun _ => H) (fun x => mT x) (fun x => mT x) (fun c x y => wH c x y) (fun t => zE t) (fun t x => hBox t x) (fun t ps => wA t ps) (fun t n ps => wS t n ps) (fun t x y z => hUpd t x y z) (fun t x => wY t x) (fun t x y => vY t x y) (fun _ => dK) (fun _ => dK) (fun x => hNil x) (fun op t x y _ => hBin op t x y) (fun op t x => hUn op t x) (fun s t x => uU s t x) (fun _ _ => dK) (fun t x => hMkI t x) (fun fn f c => hMkF fn f c) (fun t r => hMapN t r) (fun _ _ => dK) (fun t x y => hMks t x y) (fun t x lo hi mx => uI t x lo hi mx) (fun t x f => uG t x f) (fun t x f => uR t x f) (fun t x i => uX t x i) (fun t x i => hIdx t x i) (fun t x y ok => vU t x y ok) (fun t x y z => hUpd t x y z) (fun _ _ _ => dK) (fun _ _ _ _ => dK) (fun _ _ => dK) (fun _ _ => dK) (fun _ => dK) (fun x t T ok => hTa x t T ok) (fun x i => hExt x i) (fun c => hCall c) (fun _ => dK) (fun c => tE c) (fun x => xT x) (fun _ _ => dK) (fun _ _ _ => dK) (fun _ _ => dK) x
def jW (ops : List Oper) (j : Nat) : Option Nat := opt (nth ops j) none fun o => o.dst
def aAB (ops : List Oper) (j : Nat) (w : Bool) (e : Tr V) (yes no : AL) : AL := opt (jW ops j) no fun d => oo (gp e (pa d)) fun v => asBool v (fun b => ife b (ife w yes no) (ife w no yes)) no
def fin (d : Option Nat) (e : Tr V) (n : Nat) (ds : List Df) (ro : Option Nat) (ih : Ac -> KX -> AL) (kx : KX) (v : V) : AL := insE d v e n fun e => ih ⟨e, n, ds, ro⟩ kx
def pan (kx : KX) (a : Ac) (ch : List PE) : AL := kx (.panic ch) a
def dfr (d : Option Nat) (e : Tr V) (n : Nat) (ds : List Df) (ro : Option Nat) (ih : Ac -> KX -> AL) (kx : KX) (x : Df) : AL := opt ro (insE d eS e n fun e => ih ⟨e, n, x :: ds, ro⟩ kx) fun _ => .fail
def opG (g : Option (Nat × Bool)) (all : List Oper) (e : Tr V) (yes no : AL) : AL := opt g yes fun g => aAB all g.1 g.2 e yes no
def opO (all : List Oper) (P : Program) (ex : Ex) (o : Oper) (ih : Ac -> KX -> AL) (a : Ac) (k : KX) : AL := acK a fun e n ds ro => opG o.guard all e (opH o.op P ex e (fin o.dst e n ds ro ih k) (pan k ⟨e, n, ds, ro⟩) (dfr o.dst e n ds ro ih k)) (fin o.dst e n ds ro ih k eS)
def opsA (all : List Oper) (P : Program) (ex : Ex) (ops : List Oper) : Ac -> KX -> AL := List.rec (fun a k => k .normal a) (fun o _ ih => opO all P ex o ih) ops
def bit (n : Nat) : Nat := Nat.shiftLeft 1 n
def has (m i : Nat) : Bool := Nat.beq (Nat.land (Nat.shiftRight m i) 1) 1
def dis (a b : Nat) : Bool := Nat.beq (Nat.land a b) 0
def opTmp : Operand -> Nat
 | .tmp t => bit t
 | _ => 0
def nP : List Operand -> Nat
 | [] => 0
 | x :: r => Nat.lor (opTmp x) (nP r)
def pU (ds : List Nat) (n : Nat) (l : List Edge) : Option Nat := List.rec (some 0) (fun e _ ih => Option.rec none (fun m => Bool.rec (some m) (Bool.rec none (Option.rec none (fun x => eW (Nat.lor (Nat.lor (bit e.on) x) m) none some) (nth ds (Nat.sub (Nat.sub n 1) e.on))) (Nat.blt e.on n)) (Region.binds .any e)) ih) l
def pB : Option Nat -> Nat
 | some t => bit t
 | none => 0
def gBit (all : List Oper) : Option (Nat × Bool) -> Nat
 | none => 0
 | some (j, _) => pB (jW all j)
structure Inf where
 anc : Nat
 tr : Nat
 tw : Nat
def plain? : Op -> Bool
 | .defer _ => false
 | .panic _ => false
 | .select _ _ => false
 | _ => true
def infs (all : List Oper) (l : List Oper) : List Nat -> Nat -> (List Inf -> Option (List Inf)) -> Option (List Inf) := List.rec (fun _ _ k => k []) (fun o _ ih ds n k => Option.rec none (fun x => Bool.rec none (eW (Nat.lor (nP o.op.operands.toList) (gBit all o.guard)) none fun tr => eW (pB o.dst) none fun tw => ih (x :: ds) (Nat.succ n) fun l => k (⟨x, tr, tw⟩ :: l)) (plain? o.op)) (pU ds n o.after.toList)) l
def tG (x : Inf) (l : List Inf) : Nat -> Bool := List.rec (fun _ => true) (fun y _ ih n => Bool.rec (Bool.rec false (Bool.rec false (ih (Nat.sub n 1)) (dis y.tw x.tr)) (dis x.tw (Nat.lor y.tr y.tw))) (ih (Nat.sub n 1)) (has x.anc n)) l
def xG (l : List Inf) : Nat -> List Inf -> Bool := List.rec (fun _ _ => true) (fun x _ ih n done => Bool.rec false (ih (Nat.succ n) (x :: done)) (tG x done (Nat.sub n 1))) l
def drawn (ops : List Oper) : Option (List Inf) := infs ops ops [] 0 fun l => ife (xG l 0 []) (some l) none
def fpAp (f g : Fp) : Bool := Fp.rec (fun b lo hi w g => Fp.rec (fun b' lo' hi' w' => Bool.rec true (Bool.rec (Bool.rec (Bool.rec (Bool.not w') false w) true (Nat.ble hi' lo)) true (Nat.ble hi lo')) (Nat.beq b b')) (fun n0 n1 => Bool.rec (Nat.ble n1 b) true (Nat.blt b n0)) g)
 (fun n0 n1 g => Fp.rec (fun b _ _ _ => Bool.rec (Nat.ble n1 b) true (Nat.blt b n0)) (fun m0 m1 => Bool.rec (Nat.ble m1 n0) true (Nat.ble n1 m0)) g) f g
def ap1 (f : Fp) (l : List Fp) : Bool := List.rec true (fun g _ ih => Bool.rec false ih (fpAp f g)) l
def apL (l m : List Fp) : Bool := List.rec true (fun f _ ih => Bool.rec false ih (ap1 f m)) l
def apart (anc : Nat) (lg : List Fp) (l : List (Nat × List Fp)) : Bool := List.rec true (fun p _ ih => Bool.rec (Bool.rec false ih (apL lg p.2)) ih (has anc p.1)) l
def retV (v : V) : AL := .ret (.val v)
def noPan (_ : List PE) : AL := .fail
def noDfr (_ : Df) : AL := .fail
def opD1 (all : List Oper) (P : Program) (ex : Ex) (o : Oper) (x : Inf) (i : Nat) (lg : List (Nat × List Fp)) (e : Tr V) (n : Nat) (ih : Nat -> List (Nat × List Fp) -> Tr V -> AL) : AL :=
 opG o.guard all e (.sub (opH o.op P ex e retV noPan noDfr) fun v l => dH (apart x.anc l lg) (insE o.dst v e n (ih (Nat.succ i) ((i, l) :: lg)))) (insE o.dst eS e n (ih (Nat.succ i) lg))
def opD (all : List Oper) (P : Program) (ex : Ex) (o : Oper) (x : Inf) (ih : Nat -> List (Nat × List Fp) -> Ac -> KX -> AL) (i : Nat) (lg : List (Nat × List Fp)) (a : Ac) (k : KX) : AL := acK a fun e n ds ro => opD1 all P ex o x i lg e n fun i lg e => ih i lg ⟨e, n, ds, ro⟩ k
def opsD (all : List Oper) (P : Program) (ex : Ex) (ops : List Oper) : List Inf -> Nat -> List (Nat × List Fp) -> Ac -> KX -> AL := List.rec (fun _ _ _ a k => k .normal a) (fun o _ ih is => List.rec (fun _ _ _ _ => .fail) (fun x is _ => opD all P ex o x (ih is)) is) ops
def aDH (ops : Array Oper) (draw : Bool) (P : Program) (ex : Ex) (a : Ac) (k : KX) : AL := ife draw (oo (drawn ops.toList) fun is => opsD ops.toList P ex ops.toList is 0 [] a k) (opsA ops.toList P ex ops.toList a k)
def blkX (x : X) : Nat -> KX -> Ac -> AL := X.rec (motive := fun _ => Nat -> KX -> Ac -> AL) (fun _ k => k .normal) (fun i => fun id k => ife (Nat.beq i id) (k .normal) (k (.exit i))) (fun _ k => k .ret) (fun ch => fun _ k => k (.panic ch)) x
def seqX (x : X) : (Ac -> KX -> AL) -> KX -> Ac -> AL := X.rec (motive := fun _ => (Ac -> KX -> AL) -> KX -> Ac -> AL) (fun f k a => f a k) (fun i => fun _ k a => k (.exit i) a) (fun _ k a => k .ret a) (fun ch => fun _ k a => k (.panic ch) a) x
def condX (t f : Ac -> KX -> AL) (c : Operand) (a : Ac) (k : KX) : AL := cS c a.e fun v => asBool v (fun b => ife b t f) (fun _ _ => .fail) a k
def markA (a : Ac) (k : Nat -> Ac -> AL) : AL := match a with
 | ⟨e, n, ds, ro⟩ => opt ro (.newO (.dfr true) fun r => k r ⟨e, n, .col r :: ds, ro⟩) fun l => .getO l fun o => match o with
  | .loop _ _ _ _ _ _ _ _ d => k d ⟨e, n, ds, ro⟩
  | _ => .fail
def jumpX : Option Code -> Option X
 | none => some .normal
 | some .ret => some .ret
 | some (.exit id) => some (.exit id)
 | _ => none
def isVal (x : O) : AL -> (List PE -> AL) -> AL := O.rec (motive := fun _ => AL -> (List PE -> AL) -> AL) (fun _ => fun p _ => p) (fun ch => fun _ f => f ch) x
def aCr (l : Nat) (k : X -> AL) : AL := .getO l fun o => match o with
 | .loop st p f e n ps sg bd d => match st with
  | .busy => .fail
  | _ => .setO l (.loop .exhausted p f e n ps sg bd d) (oo (jumpX p) k)
 | _ => .fail
def rangeA (f : Operand) (ps : Array Tmp) (sg bd : Code) (P : Program) (ex : Ex) (a : Ac) (k : KX) : AL := cS f a.e fun fv => markA a fun d a =>
 .newO (.loop .ready none 0 a.e a.n ps.toList sg bd d) fun l => asFn fv (fun g first cap => sS P ex g (ap first (ap [.yld l] cap)) fun o => isVal o (aCr l fun x => k x a) (fun ch => k (.panic ch) a)) fun _ => .fail
def pW (P : Program) (ex : Ex) (c : Code) : Ac -> KX -> AL := Code.rec (fun a k => k .normal a) (fun _ ops d a k => aDH ops d P ex a k) (fun _ _ ia ib a k => ia a fun x => seqX x ib k) (fun c _ _ it if_ a k => condX it if_ c a k)
 (fun id _ ib a k => ib a fun x => blkX x id k) (fun b ib a k => ib a fun x => seqX x (ex (.loop b)) k) (fun f ps sg bd _ _ a k => rangeA f ps sg bd P ex a k) (fun id a k => k (.exit id) a)
 (fun _ _ _ _ => .fail) (fun _ a k => k .normal a) (fun _ _ _ => .fail) (fun a k => k .ret a) (fun _ _ _ => .fail) c
def exec (P : Program) (n : Nat) : Ex := Nat.rec (fun _ _ _ => .fail) (fun _ ex c => pW P ex c) n
def run0 (P : Program) (n : Nat) (f : Nat) : R := run (sS P (exec P n) f [] .ret) .leaf 0 []
def okB (r : R) (b : Bool) : Bool := match r with
 | some (.val (.bool c), _) => c == b
 | _ => false
end
noncomputable section
theorem aEp (d n : Nat) : paD (d + 1) n = bif Nat.beq n 0 then .h else bif Nat.beq (n % 2) 1 then .l (paD d (n / 2)) else .r (paD d (n / 2 - 1)) := by
 show (Bool.rec (Bool.rec (Pa.r (paD d (n / 2 - 1))) (Pa.l (paD d (n / 2))) (Nat.beq (n % 2) 1)) Pa.h (Nat.beq n 0) : Pa) = _
 cases Nat.beq n 0 <;> cases Nat.beq (n % 2) 1 <;> rfl
theorem pH {a b : Nat} (h : a ≠ b) : Nat.beq a b = false := by
 cases hb : Nat.beq a b with
 | false => rfl
 | true => exact absurd (a1v hb) h
theorem tV {a b : Nat} (h : a = b) : Nat.beq a b = true := by subst h; simp
theorem aAo : ∀ (d n e m : Nat), n < d -> m < e -> paD d n = paD e m -> n = m
 | 0, _, _, _, h, _, _ => by omega
 | _ + 1, _, 0, _, _, h, _ => by omega
 | d + 1, n, e + 1, m, hn, hm, h => by
  rw [aEp, aEp] at h;rcases a1w n with h0 | h0 <;> rcases a1w m with g0 | g0
  ·omega
  ·subst h0;rw [tV rfl, pH (by omega : m ≠ 0)] at h;simp only [a1Q, a1P] at h;cases hb : Nat.beq (m % 2) 1 <;> rw [hb] at h <;> cases h
  ·subst g0;rw [tV rfl, pH (by omega : n ≠ 0)] at h;simp only [a1Q, a1P] at h;cases hb : Nat.beq (n % 2) 1 <;> rw [hb] at h <;> cases h
  ·rw [pH (by omega : n ≠ 0), pH (by omega : m ≠ 0)] at h;simp only [a1P] at h;by_cases h1 : n % 2 = 1 <;> by_cases g1 : m % 2 = 1
   ·rw [tV h1, tV g1] at h;simp only [a1Q, Pa.l.injEq] at h;have := aAo d (n / 2) e (m / 2) (by omega) (by omega) h
    omega
   ·rw [tV h1, pH g1] at h; cases h
   ·rw [pH h1, tV g1] at h; cases h
   ·rw [pH h1, pH g1] at h;simp only [a1P, Pa.r.injEq] at h;have := aAo d (n / 2 - 1) e (m / 2 - 1) (by omega) (by omega) h
    omega
theorem pa_inj {n m : Nat} (h : pa n = pa m) : n = m := aAo (n + 1) n (m + 1) m (by omega) (by omega) h
section
variable {α : Type}
theorem gp_l (l r : Tr α) (v : Option α) (p : Pa) : gp (.node l v r) (.l p) = gp l p := rfl
theorem gp_r (l r : Tr α) (v : Option α) (p : Pa) : gp (.node l v r) (.r p) = gp r p := rfl
def put (t : Tr α) (v : Option α) (p : Pa) : Tr α := pp t v p fun t => t
theorem qE (v : Option α) : ∀ (p : Pa) {β : Type} (k : Tr α -> β), one' v p k = k (one' v p fun t => t)
 | .h, _, _ => rfl
 | .l p, _, k => by
  show one' v p _ = k (one' v p _)
  rw [qE v p, qE v p (fun t => Tr.node t none .leaf)]
 | .r p, _, k => by
  show one' v p _ = k (one' v p _)
  rw [qE v p, qE v p (fun t => Tr.node .leaf none t)]
theorem pp_k (v : Option α) : ∀ (t : Tr α) (p : Pa) {β : Type} (k : Tr α -> β), pp t v p k = k (put t v p)
 | .leaf, p, _, k => qE v p k
 | .node l x r, .h, _, k => rfl
 | .node l x r, .l p, _, k => by
  show pp l v p _ = k (pp l v p _)
  rw [pp_k v l p, pp_k v l p (fun l' => Tr.node l' x r)]
 | .node l x r, .r p, _, k => by
  show pp r v p _ = k (pp r v p _)
  rw [pp_k v r p, pp_k v r p (fun r' => Tr.node l x r')]
theorem aAl (v : Option α) (p : Pa) : put (.leaf : Tr α) v (.l p) = .node (put .leaf v p) none .leaf := by
 show one' v p _ = _; rw [qE]; rfl
theorem zF (v : Option α) (p : Pa) : put (.leaf : Tr α) v (.r p) = .node .leaf none (put .leaf v p) := by
 show one' v p _ = _; rw [qE]; rfl
theorem put_l (l r : Tr α) (x v : Option α) (p : Pa) : put (.node l x r) v (.l p) = .node (put l v p) x r := by
 show pp l v p _ = _; rw [pp_k]
theorem put_r (l r : Tr α) (x v : Option α) (p : Pa) : put (.node l x r) v (.r p) = .node l x (put r v p) := by
 show pp r v p _ = _; rw [pp_k]
theorem vR (v : Option α) : ∀ (t : Tr α) (p : Pa), gp (put t v p) p = v
 | .leaf, .h => rfl
 | .leaf, .l p => by rw [aAl, gp_l]; exact vR v .leaf p
 | .leaf, .r p => by rw [zF, gp_r]; exact vR v .leaf p
 | .node l x r, .h => rfl
 | .node l x r, .l p => by rw [put_l, gp_l]; exact vR v l p
 | .node l x r, .r p => by rw [put_r, gp_r]; exact vR v r p
theorem vN (v : Option α) : ∀ (t : Tr α) (p q : Pa), p ≠ q -> gp (put t v p) q = gp t q
 | .leaf, .h, .h, h => absurd rfl h
 | .leaf, .h, .l q, _ => rfl
 | .leaf, .h, .r q, _ => rfl
 | .leaf, .l p, .h, _ => by rw [aAl]; rfl
 | .leaf, .l p, .l q, h => by rw [aAl, gp_l, vN v .leaf p q (fun e => h (e ▸ rfl))]; rfl
 | .leaf, .l p, .r q, _ => by rw [aAl]; rfl
 | .leaf, .r p, .h, _ => by rw [zF]; rfl
 | .leaf, .r p, .l q, _ => by rw [zF]; rfl
 | .leaf, .r p, .r q, h => by rw [zF, gp_r, vN v .leaf p q (fun e => h (e ▸ rfl))]; rfl
 | .node l x r, .h, .h, h => absurd rfl h
 | .node l x r, .h, .l q, _ => rfl
 | .node l x r, .h, .r q, _ => rfl
 | .node l x r, .l p, .h, _ => by rw [put_l]; rfl
 | .node l x r, .l p, .l q, h => by rw [put_l, gp_l, gp_l, vN v l p q (fun e => h (e ▸ rfl))]
 | .node l x r, .l p, .r q, _ => by rw [put_l]; rfl
 | .node l x r, .r p, .h, _ => by rw [put_r]; rfl
 | .node l x r, .r p, .l q, _ => by rw [put_r]; rfl
 | .node l x r, .r p, .r q, h => by rw [put_r, gp_r, gp_r, vN v r p q (fun e => h (e ▸ rfl))]
def at_ (t : Tr α) (n : Nat) : Option α := gp t (pa n)
def pu (t : Tr α) (n : Nat) (v : Option α) : Tr α := put t v (pa n)
theorem fS (t : Tr α) (n m : Nat) (v : Option α) : at_ (pu t n v) m = if m = n then v else at_ t m := by
 by_cases h : m = n
 ·subst h; rw [a1V rfl]; exact vR v t _
 ·rw [a1U h]; exact vN v t _ _ fun e => h (pa_inj e).symm
theorem at_same {t : Tr α} {n : Nat} {v : Option α} : at_ (pu t n v) n = v := by rw [fS, a1V rfl]
theorem at_ne {t : Tr α} {n m : Nat} {v : Option α} (h : m ≠ n) : at_ (pu t n v) m = at_ t m := by rw [fS, a1U h]
theorem wI (n : Nat) : at_ (.leaf : Tr α) n = none := rfl
theorem nV {β : Type} (t : Tr α) (v : Option α) (n : Nat) (k : Tr α -> β) : pp t v (pa n) k = k (pu t n v) := pp_k v t _ k
theorem aBm : ∀ (l : List α) (n : Nat) (t : Tr α) (m : Nat), at_ (rO l n t fun t => t) m = if n <= m /\ m < n + l.length then l[m - n]? else at_ t m
 | [], n, t, m => by rw [a1U (by simp)]; rfl
 | x :: l, n, t, m => by
  show at_ (pp t (some x) (pa n) _) m = _
  rw [nV];show at_ (rO l (n + 1) (pu t n (some x)) fun t => t) m = _
  rw [aBm l (n + 1) _ m];by_cases h1 : n + 1 <= m /\ m < n + 1 + l.length
  ·rw [a1V h1, a1V (by simp; omega), show m - n = (m - (n + 1)) + 1 from by omega, a0E]
  ·rw [a1U h1, fS];by_cases h2 : m = n
   ·subst h2; rw [a1V rfl, a1V (by simp)]; simp
   ·rw [a1U h2, a1U (by simp; omega)]
end
section
variable {α : Type}
theorem lG : ∀ (l : List α) (n : Nat), nth l n = l[n]?
 | [], _ => rfl
 | _ :: _, 0 => rfl
 | _ :: l, n + 1 => by rw [a0E, <- lG l n]; rfl
theorem dr_eq : ∀ (n : Nat) (l : List α), dr n l = l.drop n
 | 0, _ => rfl
 | _ + 1, [] => rfl
 | n + 1, _ :: l => by rw [List.drop_succ_cons, <- dr_eq n l]; rfl
theorem vJ : ∀ (n : Nat) (l r : List α), tk n l = some r ↔ n <= l.length /\ r = l.take n
 | 0, l, r => by show some [] = some r ↔ _; simp [eq_comm]
 | n + 1, [], r => by show none = some r ↔ _; simp
 | n + 1, x :: l, r => by
  show (Option.rec none (fun t => some (x :: t)) (tk n l) : Option (List α)) = some r ↔ _
  cases h : tk n l with
  | none =>
   have : ¬ n <= l.length := fun e => by have := (vJ n l (l.take n)).2 ⟨e, rfl⟩; rw [h] at this; cases this
   simp; omega
  | some t =>
   have := (vJ n l t).1 h;simp only [a1M, a0U, List.take_succ_cons];constructor
   ·rintro rfl; exact ⟨by omega, by rw [this.2]⟩
   ·rintro ⟨_, rfl⟩; rw [this.2]
theorem iO : ∀ (l m : List α), ap l m = l ++ m
 | [], _ => rfl
 | x :: l, m => by rw [a0v, <- iO l m]; rfl
theorem ln_eq : ∀ (l : List α) (n : Nat), ln l n = l.length + n
 | [], n => by simp; rfl
 | _ :: l, n => by
  show ln l (n + 1) = _
  rw [ln_eq l (n + 1), a0U]; omega
theorem ln0 (l : List α) : ln l 0 = l.length := ln_eq l 0
theorem ov_eq : ∀ (new c r : List α), ov new c = some r ↔ new.length <= c.length /\ r = new ++ c.drop new.length
 | [], c, r => by show some c = some r ↔ _; simp [eq_comm]
 | x :: l, [], r => by show none = some r ↔ _; simp
 | x :: l, _ :: c, r => by
  show (Option.rec none (fun t => some (x :: t)) (ov l c) : Option (List α)) = some r ↔ _
  cases h : ov l c with
  | none =>
   have : ¬ l.length <= c.length := fun e => by have := (ov_eq l c _).2 ⟨e, rfl⟩; rw [h] at this; cases this
   simp only [a0U]; constructor
   ·intro e; cases e
   ·rintro ⟨e, _⟩; omega
  | some t =>
   have := (ov_eq l c t).1 h;simp only [a1M, a0U, a0v, List.drop_succ_cons];constructor
   ·rintro rfl; exact ⟨by omega, by rw [this.2]⟩
   ·rintro ⟨_, rfl⟩; rw [this.2]
theorem tA (new : List α) : ∀ (off : Nat) (c r : List α), pl new off c = some r ↔ off + new.length <= c.length /\ r = c.take off ++ new ++ c.drop (off + new.length)
 | 0, c, r => by
  show ov new c = some r ↔ _
  rw [ov_eq]; simp
 | off + 1, [], r => by show none = some r ↔ _; simp
 | off + 1, x :: c, r => by
  show (Option.rec none (fun t => some (x :: t)) (pl new off c) : Option (List α)) = some r ↔ _
  cases h : pl new off c with
  | none =>
   have : ¬ off + new.length <= c.length := fun e => by have := (tA new off c _).2 ⟨e, rfl⟩; rw [h] at this; cases this
   constructor
   ·intro e; cases e
   ·rintro ⟨e, _⟩; simp at e; omega
  | some t =>
   have := (tA new off c t).1 h;have e : off + 1 + new.length = (off + new.length) + 1 := by omega
   simp only [a1M, a0U, e, List.take_succ_cons, List.drop_succ_cons, a0v];constructor
   ·rintro rfl; exact ⟨by omega, by rw [this.2]⟩
   ·rintro ⟨_, rfl⟩; rw [this.2]
theorem aAT (l : List α) : ∀ n, rep l n = (List.replicate n l).flatten
 | 0 => rfl
 | n + 1 => by
  show ap l (rep l n) = _
  rw [iO, aAT l n, List.replicate_succ, List.flatten_cons]
theorem wG {β : Type} (n : Nat) (d : β) (f : Nat -> β) : eW n d f = f n := rfl
end
end
noncomputable section
inductive CV where
 | val (v : V)
 | mark (n t op : Nat)
 | obj (o : Ob)
def cvB (k : Option Blk) (i : Nat) : Option CV := match k with
 | none => none
 | some (.cells c t op) => if i = c.length then some (.mark i t op) else c[i]?.map .val
 | some (.obj o) => if i = 0 then some (.obj o) else none
def cv (h : Tr Blk) (b i : Nat) : Option CV := cvB (at_ h b) i
theorem lS {k : Option Blk} {i : Nat} {v : V} : cvB k i = some (.val v) ↔ ∃ c t op, k = some (.cells c t op) /\ c[i]? = some v := by
 match k with
 | none => simp [cvB]
 | some (.obj o) => simp only [cvB]; split <;> simp
 | some (.cells c t op) =>
  simp only [cvB, a1M, Blk.cells.injEq];constructor
  ·intro h;split at h
   ·cases h
   ·exact ⟨c, t, op, ⟨rfl, rfl, rfl⟩, by simpa using h⟩
  ·rintro ⟨c', t', op', ⟨rfl, rfl, rfl⟩, h⟩
   rw [a1U (by have := (a0J.1 h).1; omega), h]; rfl
theorem sV {k : Option Blk} {i n t op : Nat} : cvB k i = some (.mark n t op) ↔ ∃ c, k = some (.cells c t op) /\ c.length = n /\ i = n := by
 match k with
 | none => simp [cvB]
 | some (.obj o) => simp only [cvB]; split <;> simp
 | some (.cells c t' op') =>
  simp only [cvB, a1M, Blk.cells.injEq];constructor
  ·intro h;split at h
   ·cases h; exact ⟨c, ⟨rfl, rfl, rfl⟩, by omega, rfl⟩
   ·simp at h
  ·rintro ⟨c', ⟨rfl, rfl, rfl⟩, rfl, rfl⟩
   rw [a1V rfl]
theorem qB {k : Option Blk} {i : Nat} {o : Ob} : cvB k i = some (.obj o) ↔ k = some (.obj o) /\ i = 0 := by
 match k with
 | none => simp [cvB]
 | some (.obj o') => simp only [cvB, a1M, Blk.obj.injEq]; split <;> simp_all
 | some (.cells c t' op') =>
  simp only [cvB, a1M];constructor
  ·intro h; split at h
   ·cases h
   ·simp at h
  ·rintro ⟨h, _⟩; cases h
theorem aDl {k : Option Blk} (h : ∀ i, cvB k i = none) : k = none := by
 match k with
 | none => rfl
 | some (.obj o) => have := h 0; simp [cvB] at this
 | some (.cells c t op) => have := h c.length; simp [cvB] at this
theorem cvB_ext {k k' : Option Blk} (h : ∀ i, cvB k i = cvB k' i) : k = k' := by
 match k with
 | none => exact (aDl fun i => (h i).symm).symm
 | some (.obj o) =>
  have := (h 0).symm.trans (qB.2 ⟨rfl, rfl⟩);exact (qB.1 this).1.symm
 | some (.cells c t op) =>
  have h1 : cvB (some (.cells c t op)) c.length = some (.mark c.length t op) := sV.2 ⟨c, rfl, rfl, rfl⟩;obtain ⟨c', hk, hl, _⟩ := sV.1 ((h _).symm.trans h1);subst hk;have : c' = c := by
   apply a0z
   intro i;by_cases hi : i < c.length
   ·have h2 : cvB (some (.cells c t op)) i = some (.val c[i]) := lS.2 ⟨c, t, op, rfl, by simp [hi]⟩
    obtain ⟨_, _, _, e, h3⟩ := lS.1 ((h _).symm.trans h2);cases e; rw [h3]; simp [hi]
   ·rw [a0I (by omega), a0I (by omega)]
  rw [this]
def Fp.t : Fp -> Nat -> Nat -> Prop
 | .cell b lo hi _, c, i => c = b /\ lo <= i /\ i < hi
 | .fresh n0 n1, c, _ => n0 <= c /\ c < n1
def Fp.w : Fp -> Nat -> Nat -> Prop
 | .cell b lo hi w, c, i => w = true /\ c = b /\ lo <= i /\ i < hi
 | .fresh n0 n1, c, _ => n0 <= c /\ c < n1
def T (l : List Fp) (b i : Nat) : Prop := ∃ f ∈ l, f.t b i
def W (l : List Fp) (b i : Nat) : Prop := ∃ f ∈ l, f.w b i
theorem w_t {f : Fp} {b i : Nat} (h : f.w b i) : f.t b i := by
 cases f with
 | cell => exact h.2
 | fresh => exact h
theorem W.t {l : List Fp} {b i : Nat} (h : W l b i) : T l b i := let ⟨f, m, x⟩ := h; ⟨f, m, w_t x⟩
theorem T_app {l m : List Fp} {b i : Nat} : T (l ++ m) b i ↔ T l b i \/ T m b i := by simp [T, or_and_right, exists_or]
theorem uV {l m : List Fp} {b i : Nat} : W (l ++ m) b i ↔ W l b i \/ W m b i := by simp [W, or_and_right, exists_or]
theorem uK {f : Fp} {b i : Nat} : T [f] b i ↔ f.t b i := by simp [T]
theorem rR {f : Fp} {b i : Nat} : W [f] b i ↔ f.w b i := by simp [W]
theorem aCR {b i : Nat} : ¬ W [] b i := fun ⟨_, h, _⟩ => by cases h
def Agr (l : List Fp) (g h : Tr Blk) : Prop := ∀ b i, T l b i -> cv g b i = cv h b i
structure Dif (l : List Fp) (g h1 g1 : Tr Blk) : Prop where
 inn : ∀ b i, W l b i -> cv g1 b i = cv h1 b i
 out : ∀ b i, ¬ W l b i -> cv g1 b i = cv g b i
abbrev Pr (α : Type) := Tr Blk -> Nat -> Option (α × Tr Blk × Nat × List Fp)
structure iC {α : Type} (pr : Pr α) : Prop where
 mono : ∀ {h nx x h1 n1 l}, pr h nx = some (x, h1, n1, l) -> nx <= n1
 out : ∀ {h nx x h1 n1 l}, pr h nx = some (x, h1, n1, l) -> ∀ b i, ¬ W l b i -> cv h1 b i = cv h b i
 loc : ∀ {h nx x h1 n1 l}, pr h nx = some (x, h1, n1, l) -> ∀ g, Agr l g h -> ∃ g1, pr g nx = some (x, g1, n1, l) /\ Dif l g h1 g1
structure Loc (f : St) : Prop where
 shape : ∀ {h nx lg r}, f h nx lg = some r -> ∃ l, r.2.log = l ++ lg /\ nx <= r.2.nx /\ (∀ b i, ¬ W l b i -> cv r.2.h b i = cv h b i) /\
  ∀ g lg2, Agr l g h -> ∃ g1, f g nx lg2 = some (r.1, ⟨g1, r.2.nx, l ++ lg2⟩) /\ Dif l g r.2.h g1
theorem Agr.app1 {l m : List Fp} {g h : Tr Blk} (a : Agr (m ++ l) g h) : Agr l g h := fun b i t => a b i (T_app.2 (.inr t))
theorem Loc.seq {α : Type} {pr : Pr α} {k : α -> St} {f : St} (hp : iC pr) (hk : ∀ x, Loc (k x))
  (hf : ∀ h nx lg, f h nx lg = match pr h nx with
   | none => none
   | some (x, h1, n1, l) => k x h1 n1 (l ++ lg)) : Loc f := ⟨fun {h nx lg r} e => by
 rw [hf] at e
 cases hq : pr h nx with
 | none => rw [hq] at e; cases e
 | some q =>
  obtain ⟨x, h1, n1, l1⟩ := q;rw [hq] at e;obtain ⟨l2, e1, e2, e3, e4⟩ := (hk x).shape e;refine ⟨l2 ++ l1, by rw [e1]; simp, a1z (hp.mono hq) e2, fun b i hw => ?_, fun g lg2 ha => ?_⟩
  ·rw [e3 b i fun w => hw (uV.2 (.inl w)), hp.out hq b i fun w => hw (uV.2 (.inr w))]
  ·obtain ⟨g1, f1, d1⟩ := hp.loc hq g ha.app1;have ha2 : Agr l2 g1 h1 := fun b i t => by
    by_cases hw : W l1 b i
    ·exact d1.inn b i hw
    ·rw [d1.out b i hw, ha b i (T_app.2 (.inl t)), hp.out hq b i hw]
   obtain ⟨g2, f2, d2⟩ := e4 g1 (l1 ++ lg2) ha2;refine ⟨g2, by rw [hf, f1]; simp only []; rw [f2, a0t], fun b i hw => ?_, fun b i hw => ?_⟩
   ·by_cases hw2 : W l2 b i
    ·exact d2.inn b i hw2
    ·rw [d2.out b i hw2, e3 b i hw2];exact d1.inn b i ((uV.1 hw).resolve_left hw2)
   ·rw [d2.out b i fun w => hw (uV.2 (.inl w)), d1.out b i fun w => hw (uV.2 (.inr w))]⟩
theorem qY {h : Tr Blk} {b c i : Nat} {k : Option Blk} : cv (pu h b k) c i = if c = b then cvB k i else cv h c i := by
 unfold cv; rw [fS]; split <;> rfl
def pRd (b off n : Nat) : Pr (List V) := fun h nx => match at_ h b with
 | some (.cells c _ _) => match tk n (dr off c) with
  | some l => if 0 < n then some (l, h, nx, [.cell b off (off + n) false]) else none
  | none => none
 | _ => none
theorem tk_dr {n off : Nat} {c l : List V} : tk n (dr off c) = some l ↔ (n = l.length /\ (0 < n -> off + n <= c.length) /\ ∀ j, j < n -> c[off + j]? = l[j]?) := by
 rw [dr_eq, vJ]
 constructor
 ·rintro ⟨h, rfl⟩
  simp only [a0V] at h;refine ⟨by simp; omega, fun _ => by omega, fun j hj => ?_⟩
  rw [a0Q hj, a0G]
 ·rintro ⟨h1, h2, h3⟩
  have hle : n <= (c.drop off).length := by
   rcases a1w n with h0 | h0
   ·omega
   ·have := h2 h0; simp; omega
  refine ⟨hle, a0z fun j => ?_⟩
  by_cases hj : j < n
  ·rw [a0Q hj, a0G, h3 j hj]
  ·rw [a0I (by omega), a0I (by simp; omega)]
theorem pRd_loc (b off n : Nat) : iC (pRd b off n) := by
 have inv : ∀ {h nx x h1 n1 l}, pRd b off n h nx = some (x, h1, n1, l) -> h1 = h /\ n1 = nx /\ l = [.cell b off (off + n) false] /\ 0 < n /\ n = x.length /\ ∀ j, j < n -> cv h b (off + j) = x[j]?.map .val := by
  intro h nx x h1 n1 l e;unfold pRd at e;split at e
  ·rename_i c t op hb;split at e
   ·rename_i l' htk;split at e
    ·rename_i hn;cases e;obtain ⟨e1, e2, e3⟩ := tk_dr.1 htk;refine ⟨rfl, rfl, rfl, hn, e1, fun j hj => ?_⟩
     have hx : j < x.length := by omega
     rw [a0H hx, a1K];exact lS.2 ⟨c, t, op, hb, by rw [e3 j hj, a0H hx]⟩
    ·cases e
   ·cases e
  ·cases e
 refine ⟨fun e => ?_, fun e b i _ => ?_, fun {h nx x h1 n1 l} e g ha => ?_⟩
 ·obtain ⟨_, rfl, _⟩ := inv e; exact a1y _
 ·obtain ⟨rfl, _⟩ := inv e; rfl
 ·obtain ⟨rfl, rfl, rfl, hn, hx, hv⟩ := inv e;refine ⟨g, ?_, fun c i hw => ?_, fun _ _ _ => rfl⟩
  ·have hg : ∀ j, j < n -> cv g b (off + j) = x[j]?.map .val := fun j hj => by
    rw [ha b (off + j) (uK.2 ⟨rfl, by omega, by omega⟩)]; exact hv j hj
   have h0 := hg 0 hn;rw [a0H (by omega), a1K] at h0;obtain ⟨c, t, op, hb, _⟩ := lS.1 h0;have : tk n (dr off c) = some x := tk_dr.2 ⟨hx, fun _ => ?_, fun j hj => ?_⟩
   ·unfold pRd; rw [hb]; simp only []; rw [this]; simp only [hn, if_true]
   ·have h1 := hg (n - 1) (by omega)
    rw [a0H (by omega), a1K] at h1;obtain ⟨c', _, _, hb', h2⟩ := lS.1 h1;rw [hb] at hb'; cases hb'
    have := (a0J.1 h2).1; omega
   ·have h1 := hg j hj;rw [a0H (by omega), a1K] at h1;obtain ⟨c', _, _, hb', h2⟩ := lS.1 h1;rw [hb] at hb'; cases hb'
    rw [h2, a0H]
  ·rw [rR] at hw; cases hw.1
theorem xV {g h : Tr Blk} {b : Nat} {k k' : Option Blk} {l : List Fp} (hl : ∀ c i, W l c i -> c = b) (hi : ∀ i, W l b i -> cvB k' i = cvB k i) (ho : ∀ i, ¬ W l b i -> cvB k' i = cv g b i) : Dif l g (pu h b k) (pu g b k') :=
 ⟨fun c i hw => by obtain rfl := hl c i hw; rw [qY, qY, a1V rfl, a1V rfl]; exact hi i hw,
  fun c i hw => by
     rw [qY]; split
     ·rename_i e; subst e; exact ho i hw
     ·rfl⟩
theorem yI {g h : Tr Blk} {l : List Fp} (hl : ∀ c i, ¬ W l c i) : Dif l g h g := ⟨fun c i hw => absurd hw (hl c i), fun _ _ _ => rfl⟩
def pRd1 (b off : Nat) : Pr V := fun h nx => match at_ h b with
 | some (.cells c _ _) => match c[off]? with
  | some v => some (v, h, nx, [.cell b off (off + 1) false])
  | none => none
 | _ => none
theorem wX {b off : Nat} {h : Tr Blk} {nx : Nat} {q : V × Tr Blk × Nat × List Fp} : pRd1 b off h nx = some q ↔ cv h b off = some (.val q.1) /\ q.2 = (h, nx, [.cell b off (off + 1) false]) := by
 obtain ⟨v, q⟩ := q
 unfold pRd1 cv
 rw [lS]
 constructor
 ·intro e;split at e
  ·rename_i c t op hb;split at e
   ·rename_i u hu; cases e; exact ⟨⟨c, t, op, hb, hu⟩, rfl⟩
   ·cases e
  ·cases e
 ·rintro ⟨⟨c, t, op, hb, hu⟩, rfl⟩
  rw [hb]; simp only []; simp only at hu; rw [hu]
theorem aA5 {b lo hi : Nat} : ∀ c i, ¬ W [.cell b lo hi false] c i := fun c i hw => by rw [rR] at hw; cases hw.1
theorem pRd1_loc (b off : Nat) : iC (pRd1 b off) := by
 refine ⟨fun e => ?_, fun e b i _ => ?_, fun e g ha => ?_⟩
 ·have := (wX.1 e).2; cases this; exact a1y _
 ·have := (wX.1 e).2; cases this; rfl
 ·obtain ⟨e1, e2⟩ := wX.1 e;cases e2;exact ⟨g, wX.2 ⟨by rw [ha b off (uK.2 ⟨rfl, by omega, by omega⟩)]; exact e1, rfl⟩, yI aA5⟩
def pWr (b off : Nat) (l : List V) : Pr Unit := fun h nx => match at_ h b with
 | some (.cells c t op) => match pl l off c with
  | some c' => if 0 < l.length then some ((), pu h b (some (.cells c' t op)), nx, [.cell b off (off + l.length) true]) else none
  | none => none
 | _ => none
theorem over_get {c l : List V} {off i : Nat} (h : off + l.length <= c.length) : (c.take off ++ l ++ c.drop (off + l.length))[i]? = if off <= i /\ i < off + l.length then l[i - off]? else c[i]? := by
 rw [a0t, List.getElem?_append, List.length_take, a1D (by omega)]
 by_cases h1 : i < off
 ·rw [a1V h1, a1U (by omega), a0Q h1]
 ·rw [a1U h1, List.getElem?_append];by_cases h2 : i - off < l.length
  ·rw [a1V h2, a1V (by omega)]
  ·rw [a1U h2, a1U (by omega), a0G]; congr 1; omega
theorem over_len {c l : List V} {off : Nat} (h : off + l.length <= c.length) : (c.take off ++ l ++ c.drop (off + l.length)).length = c.length := by
 simp; omega
theorem aAi {c l : List V} {off t op i : Nat} (h : off + l.length <= c.length) : cvB (some (.cells (c.take off ++ l ++ c.drop (off + l.length)) t op)) i =
  if off <= i /\ i < off + l.length then l[i - off]?.map .val else cvB (some (.cells c t op)) i := by
 simp only [cvB, over_len h, over_get h]
 by_cases h1 : off <= i /\ i < off + l.length
 ·rw [a1V h1, a1V h1, a1U (by omega)]
 ·rw [a1U h1, a1U h1]
theorem pWr_loc (b off : Nat) (l : List V) : iC (pWr b off l) := by
 have inv : ∀ {h nx q}, pWr b off l h nx = some q ↔ ∃ c t op, at_ h b = some (.cells c t op) /\ off + l.length <= c.length /\ 0 < l.length /\ q = ((), pu h b (some (.cells (c.take off ++ l ++ c.drop (off + l.length)) t op)), nx, [.cell b off (off + l.length) true]) := by
  intro h nx q;unfold pWr;constructor
  ·intro e;split at e
   ·rename_i c t op hb;split at e
    ·rename_i c' hpl;split at e
     ·rename_i hn;cases e;obtain ⟨h1, rfl⟩ := (tA l off c c').1 hpl;exact ⟨c, t, op, hb, h1, hn, rfl⟩
     ·cases e
    ·cases e
   ·cases e
  ·rintro ⟨c, t, op, hb, h1, hn, rfl⟩
   rw [hb]; simp only [];rw [(tA l off c _).2 ⟨h1, rfl⟩]; simp only [hn, if_true]
 have hw : ∀ c i, W [.cell b off (off + l.length) true] c i ↔ c = b /\ off <= i /\ i < off + l.length := fun c i => by rw [rR]; exact ⟨fun h => h.2, fun h => ⟨rfl, h⟩⟩
 refine ⟨fun e => ?_, fun e c i hn => ?_, fun {h nx x h1 n1 m} e g ha => ?_⟩
 ·obtain ⟨_, _, _, _, _, _, q⟩ := inv.1 e; cases q; exact a1y _
 ·obtain ⟨cs, t, op, hb, hle, _, q⟩ := inv.1 e; cases q;rw [qY]; split
  ·rename_i hc; subst hc
   rw [aAi hle, a1U fun hx => hn ((hw _ _).2 ⟨rfl, hx⟩)]; unfold cv; rw [hb]
  ·rfl
 ·obtain ⟨cs, t, op, hb, hle, hpos, q⟩ := inv.1 e; cases q;have hcell : ∀ j, off <= j -> j < off + l.length -> ∃ c' t' op', at_ g b = some (.cells c' t' op') /\ j < c'.length := fun j h1 h2 => by
   have hx : cv h b j = some (.val (cs[j]'(by omega))) := lS.2 ⟨cs, t, op, hb, by simp⟩
   obtain ⟨c', t', op', e1, e2⟩ := lS.1 ((ha b j (uK.2 ⟨rfl, h1, h2⟩)).trans hx);exact ⟨c', t', op', e1, (a0J.1 e2).1⟩
  obtain ⟨c', t', op', hg, _⟩ := hcell off (by omega) (by omega)
  have hle' : off + l.length <= c'.length := by
   obtain ⟨c'', _, _, hg', hl⟩ := hcell (off + l.length - 1) (by omega) (by omega)
   rw [hg] at hg'; cases hg'; omega
  refine ⟨_, inv.2 ⟨c', t', op', hg, hle', hpos, rfl⟩, xV (fun c i h => ((hw c i).1 h).1) (fun i h => ?_) fun i h => ?_⟩
  ·have := ((hw _ _).1 h).2;rw [aAi hle', aAi hle, a1V this, a1V this]
  ·rw [aAi hle', a1U fun hx => h ((hw _ _).2 ⟨rfl, hx⟩)]; unfold cv; rw [hg]
def pSz (b : Nat) : Pr (Nat × Nat × Nat) := fun h nx => match at_ h b with
 | some (.cells c t op) => some ((c.length, t, op), h, nx, [.cell b c.length (c.length + 1) false])
 | _ => none
theorem pSz_loc (b : Nat) : iC (pSz b) := by
 have inv : ∀ {h nx q}, pSz b h nx = some q ↔ ∃ n t op, cv h b n = some (.mark n t op) /\ q = ((n, t, op), h, nx, [.cell b n (n + 1) false]) := by
  intro h nx q;unfold pSz cv;constructor
  ·intro e;split at e
   ·rename_i c t op hb; cases e; exact ⟨c.length, t, op, by rw [hb]; exact sV.2 ⟨c, rfl, rfl, rfl⟩, rfl⟩
   ·cases e
  ·rintro ⟨n, t, op, h1, rfl⟩
   obtain ⟨c, hb, rfl, _⟩ := sV.1 h1;rw [hb]
 refine ⟨fun e => ?_, fun e b i _ => ?_, fun e g ha => ?_⟩
 ·obtain ⟨_, _, _, _, q⟩ := inv.1 e; cases q; exact a1y _
 ·obtain ⟨_, _, _, _, q⟩ := inv.1 e; cases q; rfl
 ·obtain ⟨n, t, op, h1, q⟩ := inv.1 e; cases q;exact ⟨g, inv.2 ⟨n, t, op, by rw [ha b n (uK.2 ⟨rfl, by omega, by omega⟩)]; exact h1, rfl⟩, yI aA5⟩
def iT (x : Blk) : Pr Nat := fun h nx => match at_ h nx with
 | none => some (nx, pu h nx (some x), nx + 1, [.fresh nx (nx + 1)])
 | some _ => none
theorem aE0 (x : Blk) : iC (iT x) := by
 have inv : ∀ {h nx q}, iT x h nx = some q ↔ at_ h nx = none /\ q = (nx, pu h nx (some x), nx + 1, [.fresh nx (nx + 1)]) := by
  intro h nx q;unfold iT;constructor
  ·intro e;split at e
   ·rename_i hb; cases e; exact ⟨hb, rfl⟩
   ·cases e
  ·rintro ⟨h1, rfl⟩; rw [h1]
 have hw : ∀ {nx c i}, W [.fresh nx (nx + 1)] c i ↔ c = nx := fun {nx c i} => by rw [rR]; show _ /\ _ ↔ _; omega
 refine ⟨fun e => ?_, fun e c i hn => ?_, fun {h nx y h1 n1 m} e g ha => ?_⟩
 ·obtain ⟨_, q⟩ := inv.1 e; cases q; omega
 ·obtain ⟨_, q⟩ := inv.1 e; cases q; rw [qY, a1U fun h => hn (hw.2 h)]
 ·obtain ⟨h0, q⟩ := inv.1 e; cases q;have : at_ g nx = none := aDl fun i => by
   have := ha nx i (W.t (hw.2 rfl)); unfold cv at this; rw [this, h0]; rfl
  exact ⟨_, inv.2 ⟨this, rfl⟩, xV (fun c i h => hw.1 h) (fun _ _ => rfl) fun i h => absurd (hw.2 rfl) h⟩
def pDel (b : Nat) : Pr Unit := fun h nx => match at_ h b with
 | some (.cells c _ _) => some ((), pu h b none, nx, [.cell b 0 (c.length + 1) true])
 | _ => none
theorem aEb {c : List V} {t op i : Nat} (h : c.length < i) : cvB (some (.cells c t op)) i = none := by
 simp only [cvB]; rw [a1U (by omega), a0I (by omega)]; rfl
theorem pDel_loc (b : Nat) : iC (pDel b) := by
 have inv : ∀ {h nx q}, pDel b h nx = some q ↔ ∃ c t op, at_ h b = some (.cells c t op) /\ q = ((), pu h b none, nx, [.cell b 0 (c.length + 1) true]) := by
  intro h nx q;unfold pDel;constructor
  ·intro e;split at e
   ·rename_i c t op hb; cases e; exact ⟨c, t, op, hb, rfl⟩
   ·cases e
  ·rintro ⟨c, t, op, h1, rfl⟩; rw [h1]
 have hw : ∀ {n c i}, W [.cell b 0 (n + 1) true] c i ↔ c = b /\ i <= n := fun {n c i} => by rw [rR]; show _ /\ _ /\ _ /\ _ ↔ _; simp; omega
 refine ⟨fun e => ?_, fun e c i hn => ?_, fun {h nx y h1 n1 m} e g ha => ?_⟩
 ·obtain ⟨_, _, _, _, q⟩ := inv.1 e; cases q; exact a1y _
 ·obtain ⟨cs, t, op, hb, q⟩ := inv.1 e; cases q;rw [qY]; split
  ·rename_i hc; subst hc
   have : cs.length < i := by
    rcases a1B cs.length i with h | h
    ·exact h
    ·exact absurd (hw.2 ⟨rfl, h⟩) hn
   unfold cv; rw [hb, aEb this]; rfl
  ·rfl
 ·obtain ⟨cs, t, op, hb, q⟩ := inv.1 e; cases q;have h1 : cv h b cs.length = some (.mark cs.length t op) := sV.2 ⟨cs, hb, rfl, rfl⟩;obtain ⟨c', hg, hl, _⟩ := sV.1 ((ha b _ (W.t (hw.2 ⟨rfl, a1y _⟩))).trans h1);refine ⟨_, inv.2 ⟨c', t, op, hg, by rw [hl]⟩, xV (fun c i h => (hw.1 h).1) (fun _ _ => rfl) fun i h => ?_⟩
  have : c'.length < i := by
   rcases a1B c'.length i with h' | h'
   ·exact h'
   ·exact absurd (hw.2 ⟨rfl, by omega⟩) h
  unfold cv; rw [hg, aEb this]; rfl
def pF (b : Nat) : Pr Ob := fun h nx => match at_ h b with
 | some (.obj o) => some (o, h, nx, [.cell b 0 1 false])
 | _ => none
theorem aGl (b : Nat) : iC (pF b) := by
 have inv : ∀ {h nx q}, pF b h nx = some q ↔ cv h b 0 = some (.obj q.1) /\ q.2 = (h, nx, [.cell b 0 1 false]) := by
  intro h nx q;obtain ⟨o, q⟩ := q;unfold pF cv;rw [qB];constructor
  ·intro e;split at e
   ·rename_i o' hb; cases e; exact ⟨⟨hb, rfl⟩, rfl⟩
   ·cases e
  ·rintro ⟨⟨h1, _⟩, rfl⟩; rw [h1]
 refine ⟨fun e => ?_, fun e b i _ => ?_, fun e g ha => ?_⟩
 ·have := (inv.1 e).2; cases this; exact a1y _
 ·have := (inv.1 e).2; cases this; rfl
 ·obtain ⟨e1, e2⟩ := inv.1 e;cases e2;exact ⟨g, inv.2 ⟨by rw [ha b 0 (uK.2 ⟨rfl, by omega, by omega⟩)]; exact e1, rfl⟩, yI aA5⟩
def pK (b : Nat) (o : Ob) : Pr Unit := fun h nx => match at_ h b with
 | some (.obj _) => some ((), pu h b (some (.obj o)), nx, [.cell b 0 1 true])
 | _ => none
theorem aHY (b : Nat) (o : Ob) : iC (pK b o) := by
 have inv : ∀ {h nx q}, pK b o h nx = some q ↔ (∃ o', cv h b 0 = some (.obj o')) /\ q = ((), pu h b (some (.obj o)), nx, [.cell b 0 1 true]) := by
  intro h nx q;unfold pK cv;constructor
  ·intro e;split at e
   ·rename_i o' hb; cases e; exact ⟨⟨o', qB.2 ⟨hb, rfl⟩⟩, rfl⟩
   ·cases e
  ·rintro ⟨⟨o', h1⟩, rfl⟩; rw [(qB.1 h1).1]
 have hw : ∀ {c i}, W [.cell b 0 1 true] c i ↔ c = b /\ i = 0 := fun {c i} => by rw [rR]; show _ /\ _ /\ _ /\ _ ↔ _; simp
 have far : ∀ (o : Ob) i, i ≠ 0 -> cvB (some (.obj o)) i = none := fun o i h => by simp [cvB, h]
 refine ⟨fun e => ?_, fun e c i hn => ?_, fun {h nx y h1 n1 m} e g ha => ?_⟩
 ·obtain ⟨_, q⟩ := inv.1 e; cases q; exact a1y _
 ·obtain ⟨⟨o', h0⟩, q⟩ := inv.1 e; cases q;rw [qY]; split
  ·rename_i hc; subst hc
   have : i ≠ 0 := fun e => hn (hw.2 ⟨rfl, e⟩)
   unfold cv; rw [(qB.1 h0).1, far _ _ this, far _ _ this]
  ·rfl
 ·obtain ⟨⟨o', h0⟩, q⟩ := inv.1 e; cases q;have hg := (ha b 0 (W.t (hw.2 ⟨rfl, rfl⟩))).trans h0;refine ⟨_, inv.2 ⟨⟨o', hg⟩, rfl⟩, xV (fun c i h => (hw.1 h).1) (fun _ _ => rfl) fun i h => ?_⟩
  have : i ≠ 0 := fun e => h (hw.2 ⟨rfl, e⟩)
  unfold cv; rw [(qB.1 hg).1, far _ _ this, far _ _ this]
theorem aAN {n0 n1 : Nat} {f : Fp} : ∀ {l : List Fp}, f ∈ l -> f ∈ eI n0 n1 l \/ ∀ b i, f.t b i -> n0 <= b /\ b < n1
 | [], h => by cases h
 | g :: l, h => by
  have key : (eI n0 n1 (g :: l) = g :: eI n0 n1 l) \/ (eI n0 n1 (g :: l) = eI n0 n1 l /\ ∀ b i, g.t b i -> n0 <= b /\ b < n1) := by
   cases g with
   | cell b lo hi w =>
    have e : eI n0 n1 (.cell b lo hi w :: l) = bif Nat.blt b n0 then .cell b lo hi w :: eI n0 n1 l else bif Nat.blt b n1 then eI n0 n1 l else .cell b lo hi w :: eI n0 n1 l := by
     show (Bool.rec (Bool.rec (Fp.cell b lo hi w :: eI n0 n1 l) (eI n0 n1 l) (Nat.blt b n1)) (Fp.cell b lo hi w :: eI n0 n1 l) (Nat.blt b n0) : List Fp) = _
     cases Nat.blt b n0 <;> cases Nat.blt b n1 <;> rfl
    rw [e];cases h1 : Nat.blt b n0 with
    | true => exact .inl rfl
    | false =>
     cases h2 : Nat.blt b n1 with
     | false => exact .inl rfl
     | true =>
      refine .inr ⟨rfl, fun c i hc => ?_⟩
      obtain ⟨rfl, _⟩ := hc;have h3 : ¬ c < n0 := fun hlt => by rw [(a1u ▸ hlt : Nat.blt c n0 = true)] at h1; cases h1
      exact ⟨by omega, by rw [a1u] at h2; exact h2⟩
   | fresh m0 m1 =>
    have e : eI n0 n1 (.fresh m0 m1 :: l) = bif Nat.ble n0 m0 then (bif Nat.ble m1 n1 then eI n0 n1 l else .fresh m0 m1 :: eI n0 n1 l) else .fresh m0 m1 :: eI n0 n1 l := by
     show (Bool.rec (Fp.fresh m0 m1 :: eI n0 n1 l) (Bool.rec (Fp.fresh m0 m1 :: eI n0 n1 l) (eI n0 n1 l) (Nat.ble m1 n1)) (Nat.ble n0 m0) : List Fp) = _
     cases Nat.ble n0 m0 <;> cases Nat.ble m1 n1 <;> rfl
    rw [e];cases h1 : Nat.ble n0 m0 with
    | false => exact .inl rfl
    | true =>
     cases h2 : Nat.ble m1 n1 with
     | false => exact .inl rfl
     | true =>
      refine .inr ⟨rfl, fun c i hc => ?_⟩
      have := a1x h1;have := a1x h2;have : m0 <= c /\ c < m1 := hc;omega
  rcases a1e.1 h with rfl | h
  ·rcases key with k | k
   ·exact .inl (by rw [k]; exact .head _)
   ·exact .inr k.2
  ·rcases aAN h with o | o
   ·rcases key with k | k
    ·exact .inl (by rw [k]; exact .tail _ o)
    ·exact .inl (by rw [k.1]; exact o)
   ·exact .inr o
def kK (p : St) : Pr (V × List Fp) := fun h nx => match p h nx [] with
 | some (.val v, s) => some ((v, .fresh nx s.nx :: eI nx s.nx s.log), s.h, s.nx, .fresh nx s.nx :: eI nx s.nx s.log)
 | _ => none
theorem aEx {p : St} (hp : Loc p) : iC (kK p) := by
 have inv : ∀ {h nx q}, kK p h nx = some q ↔ ∃ v s, p h nx [] = some (.val v, s) /\ q = ((v, .fresh nx s.nx :: eI nx s.nx s.log), s.h, s.nx, .fresh nx s.nx :: eI nx s.nx s.log) := by
  intro h nx q;unfold kK;constructor
  ·intro e;split at e
   ·rename_i v s hs; cases e; exact ⟨v, s, hs, rfl⟩
   ·cases e
  ·rintro ⟨v, s, h1, rfl⟩; rw [h1]
 have sub : ∀ {n0 n1 l b i}, T l b i -> T (.fresh n0 n1 :: eI n0 n1 l) b i := fun {n0 n1 l b i} ⟨f, hf, ht⟩ => by
  rcases aAN hf with h | h
  ·exact ⟨f, .tail _ h, ht⟩
  ·exact ⟨_, .head _, h b i ht⟩
 have subw : ∀ {n0 n1 l b i}, W l b i -> W (.fresh n0 n1 :: eI n0 n1 l) b i := fun {n0 n1 l b i} ⟨f, hf, ht⟩ => by
  rcases aAN hf with h | h
  ·exact ⟨f, .tail _ h, ht⟩
  ·exact ⟨_, .head _, h b i (w_t ht)⟩
 refine ⟨fun e => ?_, fun e b i hn => ?_, fun {h nx y h1 n1 m} e g ha => ?_⟩
 ·obtain ⟨v, s, h1, q⟩ := inv.1 e; cases q;obtain ⟨l, _, h2, _⟩ := hp.shape h1; exact h2
 ·obtain ⟨v, s, h1, q⟩ := inv.1 e; cases q;obtain ⟨l, h0, _, h3, _⟩ := hp.shape h1;simp only [a0u] at h0;subst h0;exact h3 b i fun w => hn (subw w)
 ·obtain ⟨v, s, h1, q⟩ := inv.1 e; cases q;obtain ⟨l, h0, _, h3, h4⟩ := hp.shape h1;simp only [a0u] at h0;subst h0;obtain ⟨g1, f1, d1⟩ := h4 g [] fun b i t => ha b i (sub t)
  simp only [a0u] at f1;refine ⟨g1, inv.2 ⟨v, _, f1, rfl⟩, fun b i hw => ?_, fun b i hw => d1.out b i fun w => hw (subw w)⟩
  by_cases hw' : W s.log b i
  ·exact d1.inn b i hw'
  ·rw [d1.out b i hw', ha b i hw.t, h3 b i hw']
theorem ifN_eq {β : Type} (a b : Nat) (d p : β) : ifN (Nat.blt a b) d p = if a < b then p else d := by
 cases h : Nat.blt a b with
 | true => rw [a1u] at h; rw [a1V h]; rfl
 | false => rw [a1U fun e => by rw [(a1u ▸ e : Nat.blt a b = true)] at h; cases h]; rfl
section
variable {α : Type} (h : Tr Blk) (nx : Nat) (lg : List Fp)
def thn (pr : Pr α) (ih : α -> St) : St := fun h nx lg => match pr h nx with
 | none => none
 | some (x, h1, n1, l) => ih x h1 n1 (l ++ lg)
theorem rRd_eq (b off n : Nat) (ih : List V -> St) : rRd b off n ih h nx lg = thn (pRd b off n) ih h nx lg := by
 unfold rRd thn pRd at_
 cases gp h (pa b) with
 | none => rfl
 | some x => cases x with
  | obj o => rfl
  | cells c t op =>
   show opt (tk n (dr off c)) none _ = _
   simp only [];cases tk n (dr off c) with
   | none => rfl
   | some l =>
    show ifN (Nat.blt 0 n) none _ = _
    rw [ifN_eq];by_cases hn : 0 < n
    ·simp only [a1V hn]; rfl
    ·simp only [a1U hn]
theorem rRd1_eq (b off : Nat) (ih : V -> St) : rRd1 b off ih h nx lg = thn (pRd1 b off) ih h nx lg := by
 unfold rRd1 thn pRd1 at_
 cases gp h (pa b) with
 | none => rfl
 | some x => cases x with
  | obj o => rfl
  | cells c t op =>
   show opt (nth c off) none _ = _
   rw [lG];simp only [];cases c[off]? <;> rfl
theorem rWr_eq (b off : Nat) (l : List V) (ih : St) : rWr b off l ih h nx lg = thn (pWr b off l) (fun _ => ih) h nx lg := by
 unfold rWr thn pWr at_
 cases gp h (pa b) with
 | none => rfl
 | some x => cases x with
  | obj o => rfl
  | cells c t op =>
   show opt (pl l off c) none _ = _
   simp only [];cases pl l off c with
   | none => rfl
   | some c' =>
    show pp h _ (pa b) _ = _
    rw [nV, ifN_eq, ln0];by_cases hn : 0 < l.length
    ·simp only [a1V hn]; rfl
    ·simp only [a1U hn]
theorem rSz_eq (b : Nat) (ih : Nat -> Nat -> Nat -> St) : rSz b ih h nx lg = thn (pSz b) (fun x => ih x.1 x.2.1 x.2.2) h nx lg := by
 unfold rSz thn pSz at_
 cases gp h (pa b) with
 | none => rfl
 | some x => cases x with
  | obj o => rfl
  | cells c t op =>
   show eW (ln c 0) none (fun n => ih n t op h nx (.cell b n (Nat.succ n) false :: lg)) = _
   rw [wG, ln0]; rfl
theorem aE1 (x : Blk) (ih : Nat -> St) : rNew x ih h nx lg = thn (iT x) ih h nx lg := by
 unfold rNew thn iT
 rw [wG]
 show opt (at_ h nx) _ _ = _
 cases at_ h nx with
 | none =>
  show pp h _ (pa nx) _ = _
  rw [nV]; rfl
 | some x => rfl
theorem rDel_eq (b : Nat) (ih : St) : rDel b ih h nx lg = thn (pDel b) (fun _ => ih) h nx lg := by
 unfold rDel thn pDel at_
 cases gp h (pa b) with
 | none => rfl
 | some x => cases x with
  | obj o => rfl
  | cells c t op =>
   show pp h none (pa b) _ = _
   rw [nV, ln0]; rfl
theorem rGetO_eq (b : Nat) (ih : Ob -> St) : rGetO b ih h nx lg = thn (pF b) ih h nx lg := by
 unfold rGetO thn pF at_
 cases gp h (pa b) with
 | none => rfl
 | some x => cases x with
  | obj o => rfl
  | cells c t op => rfl
theorem rSetO_eq (b : Nat) (o : Ob) (ih : St) : rSetO b o ih h nx lg = thn (pK b o) (fun _ => ih) h nx lg := by
 unfold rSetO thn pK at_
 cases gp h (pa b) with
 | none => rfl
 | some x => cases x with
  | obj o' =>
   show pp h _ (pa b) _ = _
   rw [nV]; rfl
  | cells c t op => rfl
theorem rSub_eq (p : St) (ih : V -> List Fp -> St) : rSub p ih h nx lg = thn (kK p) (fun x => ih x.1 x.2) h nx lg := by
 unfold rSub rSub1 thn kK
 cases p h nx [] with
 | none => rfl
 | some r =>
  obtain ⟨o, s⟩ := r;cases o with
  | panic ch => rfl
  | val v => simp only []; rw [iO]; rfl
end
theorem aAF (b off n : Nat) (k : List V -> AL) : run (.rd b off n k) = thn (pRd b off n) fun x => run (k x) := funext fun h => funext fun nx => funext fun lg => rRd_eq h nx lg b off n fun x => run (k x)
theorem aEK (b off : Nat) (k : V -> AL) : run (.rd1 b off k) = thn (pRd1 b off) fun x => run (k x) := funext fun h => funext fun nx => funext fun lg => rRd1_eq h nx lg b off fun x => run (k x)
theorem vB (b off : Nat) (l : List V) (k : AL) : run (.wr b off l k) = thn (pWr b off l) fun _ => run k := funext fun h => funext fun nx => funext fun lg => rWr_eq h nx lg b off l (run k)
theorem aBa (b : Nat) (k : Nat -> Nat -> Nat -> AL) : run (.sz b k) = thn (pSz b) fun x => run (k x.1 x.2.1 x.2.2) := funext fun h => funext fun nx => funext fun lg => rSz_eq h nx lg b fun x y z => run (k x y z)
theorem xO (c : List V) (t op : Nat) (k : Nat -> AL) : run (.new c t op k) = thn (iT (.cells c t op)) fun x => run (k x) := funext fun h => funext fun nx => funext fun lg => aE1 h nx lg _ fun x => run (k x)
theorem aDK (b : Nat) (k : AL) : run (.del b k) = thn (pDel b) fun _ => run k := funext fun h => funext fun nx => funext fun lg => rDel_eq h nx lg b (run k)
theorem aAc (o : Ob) (k : Nat -> AL) : run (.newO o k) = thn (iT (.obj o)) fun x => run (k x) := funext fun h => funext fun nx => funext fun lg => aE1 h nx lg _ fun x => run (k x)
theorem kY (b : Nat) (k : Ob -> AL) : run (.getO b k) = thn (pF b) fun x => run (k x) := funext fun h => funext fun nx => funext fun lg => rGetO_eq h nx lg b fun x => run (k x)
theorem tX (b : Nat) (o : Ob) (k : AL) : run (.setO b o k) = thn (pK b o) fun _ => run k := funext fun h => funext fun nx => funext fun lg => rSetO_eq h nx lg b o (run k)
theorem aDG (p : AL) (k : V -> List Fp -> AL) : run (.sub p k) = thn (kK (run p)) fun x => run (k x.1 x.2) := funext fun h => funext fun nx => funext fun lg => rSub_eq h nx lg (run p) fun x y => run (k x y)
theorem gN : ∀ p : AL, Loc (run p)
 | .ret o => ⟨fun {h nx lg r} e => by cases e; exact ⟨[], rfl, a1y _, fun _ _ _ => rfl, fun g lg2 _ => ⟨g, rfl, yI fun _ _ => aCR⟩⟩⟩
 | .fail => ⟨fun e => by cases e⟩
 | .rd b off n k => Loc.seq (pRd_loc b off n) (fun x => gN (k x)) fun h nx lg => by rw [aAF]; rfl
 | .rd1 b off k => Loc.seq (pRd1_loc b off) (fun x => gN (k x)) fun h nx lg => by rw [aEK]; rfl
 | .wr b off l k => Loc.seq (pWr_loc b off l) (fun _ => gN k) fun h nx lg => by rw [vB]; rfl
 | .sz b k => Loc.seq (pSz_loc b) (fun x => gN (k x.1 x.2.1 x.2.2)) fun h nx lg => by rw [aBa]; rfl
 | .new c t op k => Loc.seq (aE0 (.cells c t op)) (fun x => gN (k x)) fun h nx lg => by rw [xO]; rfl
 | .del b k => Loc.seq (pDel_loc b) (fun _ => gN k) fun h nx lg => by rw [aDK]; rfl
 | .newO o k => Loc.seq (aE0 (.obj o)) (fun x => gN (k x)) fun h nx lg => by rw [aAc]; rfl
 | .getO b k => Loc.seq (aGl b) (fun x => gN (k x)) fun h nx lg => by rw [kY]; rfl
 | .setO b o k => Loc.seq (aHY b o) (fun _ => gN k) fun h nx lg => by rw [tX]; rfl
 | .sub p k => Loc.seq (aEx (gN p)) (fun x => gN (k x.1 x.2)) fun h nx lg => by rw [aDG]; rfl
end
noncomputable section
abbrev Rho := Nat -> Option (Nat × Nat)
def Rho.le (ρ ρ' : Rho) : Prop := ∀ b x, ρ b = some x -> ρ' b = some x
theorem Rho.le_refl (ρ : Rho) : ρ.le ρ := fun _ _ h => h
theorem Rho.le_trans {a b c : Rho} (h : a.le b) (k : b.le c) : a.le c := fun x y e => k x y (h x y e)
mutual
def tv (ρ : Rho) : V -> Option Value
 | .int k n => some (.int k n)
 | .bool b => some (.bool b)
 | .str s => some (.string s)
 | .ptr b off => (ρ b).map fun x => .pointer (some ⟨x.1, off, none⟩)
 | .nilp => some (.pointer none)
 | .sl b off len cap => (ρ b).map fun x => .slice (some ⟨x.1, off, none⟩) len cap
 | .so b off len es => (ρ b).map fun x => .slice (some ⟨x.1, off, none⟩) len (x.2 - off / es)
 | .nils => some (.slice none 0 0)
 | .map b => (ρ b).map fun x => .map (some x.1)
 | .nilm => some (.map none)
 | .fn f a c => match tvs ρ a with
  | some x => match tvs ρ c with
   | some y => some (.func (.func f) ⟨x⟩ ⟨y⟩)
   | none => none
  | none => none
 | .yld l => (ρ l).map fun x => .func (.yield x.1) #[] #[]
 | .nilf => some .nilFunc
 | .iface t v => match tv ρ v with
  | some x => some (.iface t x)
  | none => none
 | .nili => some .nilIface
 | .agg cs => match iA cs with
  | true => match tvs ρ cs with
   | some l => some (.agg ⟨l⟩)
   | none => none
  | false => none
 | .tup vs => match tvs ρ vs with
  | some l => some (.tuple ⟨l⟩)
  | none => none
def tvs (ρ : Rho) : List V -> Option (List Value)
 | [] => some []
 | v :: l => match tv ρ v with
  | some x => match tvs ρ l with
   | some r => some (x :: r)
   | none => none
  | none => none
end
theorem wZ {α : Type} {ρ ρ' : Rho} (h : ρ.le ρ') {b : Nat} {f : Nat × Nat -> α} {y : α} (e : (ρ b).map f = some y) : (ρ' b).map f = some y := by
 cases hb : ρ b with
 | none => rw [hb] at e; cases e
 | some x => rw [h b x hb]; rw [hb] at e; exact e
mutual
theorem mZ {ρ ρ' : Rho} (h : ρ.le ρ') : ∀ (v : V) {x : Value}, tv ρ v = some x -> tv ρ' v = some x
 | .int _ _, _, e => e
 | .bool _, _, e => e
 | .str _, _, e => e
 | .ptr _ _, _, e => wZ h e
 | .nilp, _, e => e
 | .sl _ _ _ _, _, e => wZ h e
 | .so _ _ _ _, _, e => wZ h e
 | .nils, _, e => e
 | .map _, _, e => wZ h e
 | .nilm, _, e => e
 | .fn f a c, x, e => by
  simp only [tv] at e ⊢;cases ha : tvs ρ a with
  | none => rw [ha] at e; cases e
  | some y =>
   rw [ha] at e;cases hc : tvs ρ c with
   | none => rw [hc] at e; cases e
   | some z => rw [hc] at e; rw [pX h a ha, pX h c hc]; exact e
 | .yld _, _, e => wZ h e
 | .nilf, _, e => e
 | .iface t v, x, e => by
  simp only [tv] at e ⊢;cases ha : tv ρ v with
  | none => rw [ha] at e; cases e
  | some y => rw [ha] at e; rw [mZ h v ha]; exact e
 | .nili, _, e => e
 | .agg cs, x, e => by
  simp only [tv] at e ⊢;cases hc : iA cs with
  | false => rw [hc] at e; cases e
  | true =>
   rw [hc] at e;simp only at e ⊢
   cases ha : tvs ρ cs with
   | none => rw [ha] at e; cases e
   | some y => rw [ha] at e; rw [pX h cs ha]; exact e
 | .tup cs, x, e => by
  simp only [tv] at e ⊢;cases ha : tvs ρ cs with
  | none => rw [ha] at e; cases e
  | some y => rw [ha] at e; rw [pX h cs ha]; exact e
theorem pX {ρ ρ' : Rho} (h : ρ.le ρ') : ∀ (l : List V) {x : List Value}, tvs ρ l = some x -> tvs ρ' l = some x
 | [], _, e => e
 | v :: l, x, e => by
  simp only [tvs] at e ⊢;cases ha : tv ρ v with
  | none => rw [ha] at e; cases e
  | some y =>
   rw [ha] at e;cases hc : tvs ρ l with
   | none => rw [hc] at e; cases e
   | some z => rw [hc] at e; rw [mZ h v ha, pX h l hc]; exact e
end
theorem eT {ρ : Rho} {v : V} {l : List V} {r : List Value} : tvs ρ (v :: l) = some r ↔ ∃ x y, tv ρ v = some x /\ tvs ρ l = some y /\ r = x :: y := by
 simp only [tvs]
 cases tv ρ v with
 | none => simp
 | some x => cases tvs ρ l with
  | none => simp
  | some y => simp [eq_comm]
theorem rY {ρ : Rho} {r : List Value} : tvs ρ [] = some r ↔ r = [] := by simp [tvs, eq_comm]
theorem lD {ρ : Rho} : ∀ {l m : List V} {r : List Value}, tvs ρ (l ++ m) = some r ↔ ∃ x y, tvs ρ l = some x /\ tvs ρ m = some y /\ r = x ++ y
 | [], m, r => by
  constructor
  ·intro h; exact ⟨[], r, rfl, h, rfl⟩
  ·rintro ⟨x, y, h1, h2, rfl⟩; rw [rY] at h1; subst h1; exact h2
 | v :: l, m, r => by
  rw [a0v, eT];constructor
  ·rintro ⟨x, y, h1, h2, rfl⟩
   obtain ⟨a, b, h3, h4, rfl⟩ := lD.1 h2;exact ⟨x :: a, b, eT.2 ⟨x, a, h1, h3, rfl⟩, h4, rfl⟩
  ·rintro ⟨a, b, h1, h2, rfl⟩
   obtain ⟨x, y, h3, h4, rfl⟩ := eT.1 h1;exact ⟨x, y ++ b, h3, lD.2 ⟨y, b, h4, h2, rfl⟩, rfl⟩
theorem sA {ρ : Rho} : ∀ {l : List V} {r : List Value}, tvs ρ l = some r -> r.length = l.length
 | [], r, h => by rw [rY] at h; subst h; rfl
 | v :: l, r, h => by
  obtain ⟨x, y, _, h2, rfl⟩ := eT.1 h;simp [sA h2]
theorem yO {ρ : Rho} : ∀ {l : List V} {r : List Value} {i : Nat} {v : V}, tvs ρ l = some r -> l[i]? = some v -> ∃ x, r[i]? = some x /\ tv ρ v = some x
 | [], _, _, _, _, h => by simp at h
 | u :: l, r, 0, v, h, e => by
  obtain ⟨x, y, h1, h2, rfl⟩ := eT.1 h;simp only [a0F, a1M] at e ⊢;subst e; exact ⟨x, rfl, h1⟩
 | u :: l, r, i + 1, v, h, e => by
  obtain ⟨x, y, h1, h2, rfl⟩ := eT.1 h;simp only [a0E] at e ⊢;exact yO h2 e
theorem aCI {ρ : Rho} {l : List V} {r : List Value} (n : Nat) (h : tvs ρ l = some r) : tvs ρ (l.take n) = some (r.take n) /\ tvs ρ (l.drop n) = some (r.drop n) := by
 have h' := h
 rw [<- List.take_append_drop n l, lD] at h'
 obtain ⟨x, y, h1, h2, rfl⟩ := h'
 have hx := sA h1
 have hy := sA h2
 simp only [List.length_take, a0V] at hx hy
 by_cases hn : n <= l.length
 ·have : x.length = n := by omega
  rw [h1, h2, List.take_left' this, List.drop_left' this]; exact ⟨rfl, rfl⟩
 ·have hy0 : y = [] := a0y (by omega)
  subst hy0;rw [h1, h2, a0u, a1p (by omega), a0x (by omega)]; exact ⟨rfl, rfl⟩
def dS : Value -> Prop
 | .agg _ | .tuple _ => False
 | _ => True
theorem tD {v : V} {l : List V} : iA (v :: l) = true ↔ isC v = true /\ iA l = true := by
 simp only [iA]; cases isC v <;> simp
theorem nS : ∀ {l : List V}, iA l = true ↔ ∀ v ∈ l, isC v = true
 | [] => by simp [iA]
 | v :: l => by rw [tD, nS (l := l)]; simp
theorem aBp {ρ : Rho} : ∀ {v : V} {x : Value}, isC v = true -> tv ρ v = some x -> dS x
 | .int _ _, _, _, e => by cases e; trivial
 | .bool _, _, _, e => by cases e; trivial
 | .str _, _, _, e => by cases e; trivial
 | .ptr _ _, _, _, e => by simp only [tv, a1J] at e; obtain ⟨y, _, rfl⟩ := e; trivial
 | .nilp, _, _, e => by cases e; trivial
 | .sl _ _ _ _, _, _, e => by simp only [tv, a1J] at e; obtain ⟨y, _, rfl⟩ := e; trivial
 | .so _ _ _ _, _, _, e => by simp only [tv, a1J] at e; obtain ⟨y, _, rfl⟩ := e; trivial
 | .nils, _, _, e => by cases e; trivial
 | .map _, _, _, e => by simp only [tv, a1J] at e; obtain ⟨y, _, rfl⟩ := e; trivial
 | .nilm, _, _, e => by cases e; trivial
 | .fn _ a c, x, _, e => by
  simp only [tv] at e;cases ha : tvs ρ a with
  | none => rw [ha] at e; cases e
  | some y => rw [ha] at e; cases hc : tvs ρ c with
   | none => rw [hc] at e; cases e
   | some z => rw [hc] at e; cases e; trivial
 | .yld _, _, _, e => by simp only [tv, a1J] at e; obtain ⟨y, _, rfl⟩ := e; trivial
 | .nilf, _, _, e => by cases e; trivial
 | .iface _ v, x, _, e => by
  simp only [tv] at e;cases ha : tv ρ v with
  | none => rw [ha] at e; cases e
  | some y => rw [ha] at e; cases e; trivial
 | .nili, _, _, e => by cases e; trivial
 | .agg _, _, h, _ => by cases h
 | .tup _, _, h, _ => by cases h
def cells (ρ : Rho) (l : List V) (r : List Value) : Prop := iA l = true /\ tvs ρ l = some r
theorem cells.is {ρ : Rho} : ∀ {l : List V} {r : List Value}, cells ρ l r -> ∀ x ∈ r, dS x
 | [], r, h, x, hx => by rw [rY.1 h.2] at hx; cases hx
 | v :: l, r, h, x, hx => by
  obtain ⟨y, z, h1, h2, rfl⟩ := eT.1 h.2;obtain ⟨h3, h4⟩ := tD.1 h.1;rcases a1e.1 hx with rfl | hx
  ·exact aBp h3 h1
  ·exact cells.is ⟨h4, h2⟩ x hx
theorem cells.mono {ρ ρ' : Rho} (h : ρ.le ρ') {l : List V} {r : List Value} (c : cells ρ l r) : cells ρ' l r := ⟨c.1, pX h l c.2⟩
theorem cells.app {ρ : Rho} {l m : List V} {r s : List Value} (c : cells ρ l r) (d : cells ρ m s) : cells ρ (l ++ m) (r ++ s) :=
 ⟨nS.2 fun v hv => by
  rcases a1b.1 hv with h | h
  ·exact nS.1 c.1 v h
  ·exact nS.1 d.1 v h, lD.2 ⟨r, s, c.2, d.2, rfl⟩⟩
theorem cells.take {ρ : Rho} {l : List V} {r : List Value} (c : cells ρ l r) (n : Nat) : cells ρ (l.take n) (r.take n) := ⟨nS.2 fun v hv => nS.1 c.1 v (List.mem_of_mem_take hv), (aCI n c.2).1⟩
theorem cells.drop {ρ : Rho} {l : List V} {r : List Value} (c : cells ρ l r) (n : Nat) : cells ρ (l.drop n) (r.drop n) := ⟨nS.2 fun v hv => nS.1 c.1 v (List.mem_of_mem_drop hv), (aCI n c.2).2⟩
theorem cells.len {ρ : Rho} {l : List V} {r : List Value} (c : cells ρ l r) : r.length = l.length := sA c.2
theorem cells.nil {ρ : Rho} : cells ρ [] [] := ⟨rfl, rfl⟩
theorem cells.get {ρ : Rho} {l : List V} {r : List Value} (c : cells ρ l r) {i : Nat} {v : V} (h : l[i]? = some v) : ∃ x, r[i]? = some x /\ tv ρ v = some x /\ isC v = true :=
 let ⟨x, h1, h2⟩ := yO c.2 h
 ⟨x, h1, h2, nS.1 c.1 v (a1i h)⟩
theorem dS.cells {v : Value} (h : dS v) : v.cells = #[v] := by cases v <;> first | rfl | exact h.elim
theorem gY {ρ : Rho} {v : V} {x : Value} (hc : isC v = true) (e : tv ρ v = some x) : vc v = some [v] /\ BX.cells ρ [v] x.cells.toList :=
 ⟨(by cases v <;> first | rfl | cases hc), tD.2 ⟨hc, rfl⟩, eT.2 ⟨x, [], e, rfl, by rw [(aBp hc e).cells]⟩⟩
theorem xZ {ρ : Rho} {cs : List V} {x : Value} (e : tv ρ (.agg cs) = some x) : ∃ l, cells ρ cs l /\ x = .agg ⟨l⟩ := by
 simp only [tv] at e
 cases hc : iA cs with
 | false => rw [hc] at e; cases e
 | true =>
  rw [hc] at e;simp only at e
  cases ha : tvs ρ cs with
  | none => rw [ha] at e; cases e
  | some y => rw [ha] at e; cases e; exact ⟨y, ⟨hc, ha⟩, rfl⟩
theorem xF {ρ : Rho} : ∀ {v : V} {x : Value} {c : List V}, vc v = some c -> tv ρ v = some x -> BX.cells ρ c x.cells.toList
 | .agg cs, x, c, h, e => by
  obtain ⟨l, h1, rfl⟩ := xZ e;cases h; exact h1
 | .tup _, _, _, h, _ => by cases h
 | .int _ _, _, _, h, e => by cases h; exact (gY rfl e).2
 | .bool _, _, _, h, e => by cases h; exact (gY rfl e).2
 | .str _, _, _, h, e => by cases h; exact (gY rfl e).2
 | .ptr _ _, _, _, h, e => by cases h; exact (gY rfl e).2
 | .nilp, _, _, h, e => by cases h; exact (gY rfl e).2
 | .sl _ _ _ _, _, _, h, e => by cases h; exact (gY rfl e).2
 | .so _ _ _ _, _, _, h, e => by cases h; exact (gY rfl e).2
 | .nils, _, _, h, e => by cases h; exact (gY rfl e).2
 | .map _, _, _, h, e => by cases h; exact (gY rfl e).2
 | .nilm, _, _, h, e => by cases h; exact (gY rfl e).2
 | .fn _ _ _, _, _, h, e => by cases h; exact (gY rfl e).2
 | .yld _, _, _, h, e => by cases h; exact (gY rfl e).2
 | .nilf, _, _, h, e => by cases h; exact (gY rfl e).2
 | .iface _ _, _, _, h, e => by cases h; exact (gY rfl e).2
 | .nili, _, _, h, e => by cases h; exact (gY rfl e).2
theorem xY {ρ : Rho} {cs : List V} {l : List Value} (h : cells ρ cs l) : tv ρ (.agg cs) = some (.agg ⟨l⟩) := by
 simp only [tv, h.1, h.2]
def entR (ρ : Rho) (e : Ent) (m : MapEntry) : Prop := tv ρ e.key = some m.key /\ tv ρ e.val = some m.val /\ m.born = e.born
def jU (ρ : Rho) : List Ent -> List MapEntry -> Prop
 | [], [] => True
 | e :: es, m :: ms => entR ρ e m /\ jU ρ es ms
 | _, _ => False
structure cC (ρ : Rho) (e : Tr V) (n : Nat) (a : Array Value) : Prop where
 size : a.size = n
 get : ∀ t v, at_ e t = some v -> ∃ x, a[t]? = some x /\ tv ρ v = some x
def obR (ρ : Rho) : Ob -> Obj -> Prop
 | .map es c, .map ms c' => c' = c /\ jU ρ es ms.toList
 | .loop st p _ e n ps sg bd d, .loop r => r.state = st /\ r.pending = p /\ cC ρ e n r.tmps /\ r.params.toList = ps /\ r.assign = sg /\ r.body = bd /\ ∃ x, ρ d = some x /\ r.defers = x.1
 | .dfr l, .deferred c => c = if l then some [] else none
 | _, _ => False
def blkR (ρ : Rho) (κ : Nat) : Blk -> Obj -> Prop
 | .cells c t op, .cells a t' fz => t' = t /\ fz = (0, 0) /\ ∃ l junk, cells ρ c l /\ a = ⟨l ++ junk⟩ /\ (op = 0 -> junk = []) /\ (0 < op -> l.length + junk.length = κ * op)
 | .obj o, o' => obR ρ o o'
 | _, _ => False
structure G where
 w : World
 lo : Nat
 hi : Nat
 ρ : Rho
structure Rel (g : G) (ρ : Rho) (h : Tr Blk) (nx : Nat) (w : World) : Prop where
 blk : ∀ b k, at_ h b = some k -> ∃ x o, ρ b = some x /\ w.heap[x.1]? = some o /\ blkR ρ x.2 k o
 inj : ∀ b b' x x', at_ h b ≠ none -> at_ h b' ≠ none -> ρ b = some x -> ρ b' = some x' -> x.1 = x'.1 -> b = b'
 new : ∀ b x, ρ b = some x -> g.w.heap.size <= x.1
 below : RowKit.Below g.w.heap.size g.w w
 lo : g.lo <= nx
 fresh : ∀ b, nx <= b -> b < g.hi -> ρ b = none
 le : g.ρ.le ρ
 out : ∀ b, b < g.lo \/ g.hi <= b -> ρ b = g.ρ b
theorem entR.mono {ρ ρ' : Rho} (h : ρ.le ρ') {e : Ent} {m : MapEntry} (r : entR ρ e m) : entR ρ' e m := ⟨mZ h _ r.1, mZ h _ r.2.1, r.2.2⟩
theorem jU.mono {ρ ρ' : Rho} (h : ρ.le ρ') : ∀ {es : List Ent} {ms : List MapEntry}, jU ρ es ms -> jU ρ' es ms
 | [], [], _ => trivial
 | _ :: _, _ :: _, r => ⟨r.1.mono h, jU.mono h r.2⟩
 | [], _ :: _, r => r.elim
 | _ :: _, [], r => r.elim
theorem cC.mono {ρ ρ' : Rho} (h : ρ.le ρ') {e : Tr V} {n : Nat} {a : Array Value} (r : cC ρ e n a) : cC ρ' e n a :=
 ⟨r.size, fun t v ht => let ⟨x, h1, h2⟩ := r.get t v ht; ⟨x, h1, mZ h v h2⟩⟩
theorem obR.mono {ρ ρ' : Rho} (h : ρ.le ρ') {o : Ob} {o' : Obj} (r : obR ρ o o') : obR ρ' o o' := by
 cases o with
 | map es c => cases o' <;> first | exact ⟨r.1, r.2.mono h⟩ | exact r.elim
 | loop st p f e n ps sg bd d =>
  cases o' <;> first
   | (obtain ⟨h1, h2, h3, h4, h5, h6, x, h7, h8⟩ := r; exact ⟨h1, h2, h3.mono h, h4, h5, h6, x, h _ _ h7, h8⟩)
   | exact r.elim
 | dfr b => cases o' <;> exact r
theorem blkR.mono {ρ ρ' : Rho} (h : ρ.le ρ') {κ : Nat} {k : Blk} {o : Obj} (r : blkR ρ κ k o) : blkR ρ' κ k o := by
 cases k with
 | obj o' => exact obR.mono h r
 | cells c t op =>
  cases o <;> first
   | (obtain ⟨h1, h2, l, j, h3, h4⟩ := r; exact ⟨h1, h2, l, j, h3.mono h, h4⟩)
   | exact r.elim
end
open RowKit (Below)
noncomputable section
section
variable {h : Tr Blk} {nx : Nat} {lg : List Fp} {r : O × S}
theorem kR {α : Type} {o : Option α} {p : AL} {f : α -> AL} (e : run (opt o p f) h nx lg = some r) : (o = none /\ run p h nx lg = some r) \/ ∃ a, o = some a /\ run (f a) h nx lg = some r := by
 cases o with
 | none => exact .inl ⟨rfl, e⟩
 | some a => exact .inr ⟨a, rfl, e⟩
theorem bR {α : Type} {o : Option α} {f : α -> AL} (e : run (oo o f) h nx lg = some r) : ∃ a, o = some a /\ run (f a) h nx lg = some r := by
 rcases kR e with ⟨_, e⟩ | e
 ·cases e
 ·exact e
theorem fT {x : Operand} {e : Tr V} {f : V -> AL} (q : run (cS x e f) h nx lg = some r) : ∃ v, ev x e = some v /\ run (f v) h nx lg = some r := bR (o := ev x e) (f := f) q
theorem rE {x y : Operand} {e : Tr V} {f : V -> V -> AL} (q : run (eA x y e f) h nx lg = some r) : ∃ v u, ev x e = some v /\ ev y e = some u /\ run (f v u) h nx lg = some r := by
 obtain ⟨v, h1, q⟩ := bR (o := ev x e) (f := fun v => oo (ev y e) (f v)) q
 obtain ⟨u, h2, q⟩ := bR q
 exact ⟨v, u, h1, h2, q⟩
theorem aDj {x y z : Operand} {e : Tr V} {f : V -> V -> V -> AL} (q : run (eX x y z e f) h nx lg = some r) : ∃ v u t, ev x e = some v /\ ev y e = some u /\ ev z e = some t /\ run (f v u t) h nx lg = some r := by
 obtain ⟨v, h1, q⟩ := fT q
 obtain ⟨u, t, h2, h3, q⟩ := rE q
 exact ⟨v, u, t, h1, h2, h3, q⟩
theorem kP {l : List Operand} {e : Tr V} {f : List V -> AL} (q : run (fD l e f) h nx lg = some r) : ∃ vs, evs l e = some vs /\ run (f vs) h nx lg = some r := bR q
theorem aA9 {x : Option Operand} {e : Tr V} {f : Option V -> AL} (q : run (wR x e f) h nx lg = some r) : ∃ v, evO x e = some v /\ run (f v) h nx lg = some r := bR q
theorem dU {b : Bool} {p : AL} (q : run (dH b p) h nx lg = some r) : b = true /\ run p h nx lg = some r := by
 cases b with
 | true => exact ⟨rfl, q⟩
 | false => cases q
theorem gV {b : Bool} {p p' : AL} (q : run (ife b p p') h nx lg = some r) : (b = true /\ run p h nx lg = some r) \/ (b = false /\ run p' h nx lg = some r) := by
 cases b with
 | true => exact .inl ⟨rfl, q⟩
 | false => exact .inr ⟨rfl, q⟩
theorem wL {v : V} {f : Nat -> Nat -> AL} (q : run (tS v f) h nx lg = some r) : ∃ b off, v = .ptr b off /\ run (f b off) h nx lg = some r := by
 cases v <;> first
  | exact ⟨_, _, rfl, q⟩
  | cases q
theorem aCc {v : V} {f : Bool -> AL} (q : run (asBool v f .fail) h nx lg = some r) : ∃ b, v = .bool b /\ run (f b) h nx lg = some r := by
 cases v <;> first
  | exact ⟨_, rfl, q⟩
  | cases q
theorem aGZ {v : V} {f : List V -> AL} (q : run (asTup v f) h nx lg = some r) : ∃ l, v = .tup l /\ run (f l) h nx lg = some r := by
 cases v <;> first
  | exact ⟨_, rfl, q⟩
  | cases q
theorem aBB {v : V} {f : Nat -> AL} {p : AL} (q : run (asMap v f p) h nx lg = some r) : (∃ b, v = .map b /\ run (f b) h nx lg = some r) \/ (v = .nilm /\ run p h nx lg = some r) := by
 cases v <;> first
  | exact .inl ⟨_, rfl, q⟩
  | exact .inr ⟨rfl, q⟩
  | cases q
theorem aBQ {v : V} {f : Nat -> V -> AL} {p : AL} (q : run (asIf v f p) h nx lg = some r) : (∃ t u, v = .iface t u /\ run (f t u) h nx lg = some r) \/ (v = .nili /\ run p h nx lg = some r) := by
 cases v <;> first
  | exact .inl ⟨_, _, rfl, q⟩
  | exact .inr ⟨rfl, q⟩
  | cases q
theorem aBS {v : V} {f : Nat -> List V -> List V -> AL} {y : Nat -> AL} (q : run (asFn v f y) h nx lg = some r) : (∃ g a c, v = .fn g a c /\ run (f g a c) h nx lg = some r) \/ (∃ l, v = .yld l /\ run (y l) h nx lg = some r) := by
 cases v <;> first
  | exact .inl ⟨_, _, _, rfl, q⟩
  | exact .inr ⟨_, rfl, q⟩
  | cases q
theorem qW {v : V} {f : Nat -> Nat -> Nat -> Nat -> AL} {f' : Nat -> Nat -> Nat -> Nat -> AL} {p d : AL} (q : run (asSl v f f' p d) h nx lg = some r) :
  (∃ b off len cap, v = .sl b off len cap /\ run (f b off len cap) h nx lg = some r) \/ (∃ b off len es, v = .so b off len es /\ run (f' b off len es) h nx lg = some r) \/ (v = .nils /\ run p h nx lg = some r) \/ run d h nx lg = some r := by
 cases v <;> first
  | exact .inl ⟨_, _, _, _, rfl, q⟩
  | exact .inr (.inl ⟨_, _, _, _, rfl, q⟩)
  | exact .inr (.inr (.inl ⟨rfl, q⟩))
  | exact .inr (.inr (.inr q))
theorem aDD {v : V} {f : IntKind -> Int -> AL} {d : AL} (q : run (uZ v f d) h nx lg = some r) : (∃ k n, v = .int k n /\ run (f k n) h nx lg = some r) \/ run d h nx lg = some r := by
 cases v <;> first
  | exact .inl ⟨_, _, rfl, q⟩
  | exact .inr q
theorem aCZ {v : V} {f : List V -> AL} {d : AL} (q : run (asAgg v f d) h nx lg = some r) : (∃ cs, v = .agg cs /\ run (f cs) h nx lg = some r) \/ run d h nx lg = some r := by
 cases v <;> first
  | exact .inl ⟨_, rfl, q⟩
  | exact .inr q
theorem aBn {v : V} {f : ByteArray -> AL} {d : AL} (q : run (xM v f d) h nx lg = some r) : (∃ s, v = .str s /\ run (f s) h nx lg = some r) \/ run d h nx lg = some r := by
 cases v <;> first
  | exact .inl ⟨_, rfl, q⟩
  | exact .inr q
theorem dZ {α : Type} {pr : Pr α} {k : α -> St} (q : thn pr k h nx lg = some r) : ∃ x h1 n1 l, pr h nx = some (x, h1, n1, l) /\ k x h1 n1 (l ++ lg) = some r := by
 unfold thn at q
 cases hq : pr h nx with
 | none => rw [hq] at q; cases q
 | some y =>
  obtain ⟨x, h1, n1, l⟩ := y;rw [hq] at q;exact ⟨x, h1, n1, l, rfl, q⟩
theorem wB {v : V} {n : Nat} (q : pT v = some n) : ∃ k, v = .int k (.ofNat n) := by
 cases v <;> try (cases q; done)
 rename_i k i
 cases i with
 | ofNat m => exact ⟨k, by cases q; rfl⟩
 | negSucc m => cases q
theorem qM {p : AL} (q : run p h nx lg = some r) : nx <= r.2.nx := let ⟨_, _, h2, _⟩ := (gN p).shape q; h2
end
mutual
theorem uN (ρ : Rho) : ∀ (c : Value) {v : V}, ofC c = some v -> tv ρ v = some c
 | .int _ _, _, e => by cases e; rfl
 | .bool _, _, e => by cases e; rfl
 | .float _ _, _, e => by cases e
 | .complex _ _ _, _, e => by cases e
 | .string _, _, e => by cases e; rfl
 | .pointer none, _, e => by cases e; rfl
 | .pointer (some _), _, e => by cases e
 | .slice none 0 0, _, e => by cases e; rfl
 | .slice none 0 (_ + 1), _, e => by cases e
 | .slice none (_ + 1) _, _, e => by cases e
 | .slice (some _) _ _, _, e => by cases e
 | .map none, _, e => by cases e; rfl
 | .map (some _), _, e => by cases e
 | .chan _, _, e => by cases e
 | .func _ _ _, _, e => by cases e
 | .nilFunc, _, e => by cases e; rfl
 | .nilIface, _, e => by cases e; rfl
 | .iface t c, v, e => by
  simp only [ofC] at e;cases h : ofC c with
  | none => rw [h] at e; cases e
  | some x => rw [h] at e; cases e; simp only [tv, uN ρ c h]
 | .agg cs, v, e => by
  simp only [ofC] at e;cases h : ofA cs with
  | none => rw [h] at e; cases e
  | some l =>
   rw [h] at e;simp only at e
   cases hc : iA l with
   | false => rw [hc] at e; cases e
   | true => rw [hc] at e; cases e; simp only [tv, hc, ofA_tv ρ cs h]
 | .tuple cs, v, e => by
  simp only [ofC] at e;cases h : ofA cs with
  | none => rw [h] at e; cases e
  | some l => rw [h] at e; cases e; simp only [tv, ofA_tv ρ cs h]
theorem ofA_tv (ρ : Rho) : ∀ (cs : Array Value) {l : List V}, ofA cs = some l -> tvs ρ l = some cs.toList
 | ⟨l⟩, _, e => ofL_tv ρ l e
theorem ofL_tv (ρ : Rho) : ∀ (cs : List Value) {l : List V}, ofL cs = some l -> tvs ρ l = some cs
 | [], _, e => by cases e; rfl
 | c :: cs, l, e => by
  simp only [ofL] at e;cases h : ofC c with
  | none => rw [h] at e; cases e
  | some x =>
   rw [h] at e;simp only at e
   cases h2 : ofL cs with
   | none => rw [h2] at e; cases e
   | some y => rw [h2] at e; cases e; exact eT.2 ⟨c, cs, uN ρ c h, ofL_tv ρ cs h2, rfl⟩
end
theorem dD {ρ : Rho} {e : Tr V} {n : Nat} {a : Act} (he : cC ρ e n a.tmps) : ∀ {x : Operand} {v : V}, ev x e = some v -> tv ρ v = some (a.eval x)
 | .tmp t, v, q => by
  obtain ⟨x, h1, h2⟩ := he.get t v q;rw [h2]; simp [Act.eval, a0b, h1]
 | .const c, v, q => uN ρ c q
 | .global _, _, q => by cases q
 | .func f, v, q => by cases q; rfl
theorem jG {ρ : Rho} {e : Tr V} {n : Nat} {a : Act} (he : cC ρ e n a.tmps) : ∀ {l : List Operand} {vs : List V}, evs l e = some vs -> tvs ρ vs = some (l.map a.eval)
 | [], vs, q => by cases q; rfl
 | x :: l, vs, q => by
  have q' : (Option.rec none (fun v => Option.rec none (fun vs => some (v :: vs)) (evs l e)) (ev x e) : Option (List V)) = some vs := q
  cases h1 : ev x e with
  | none => rw [h1] at q'; cases q'
  | some v =>
   rw [h1] at q';cases h2 : evs l e with
   | none => simp only [h2] at q'; cases q'
   | some us =>
    simp only [h2] at q';cases q';exact eT.2 ⟨_, _, dD he h1, jG he h2, rfl⟩
theorem cC.put {ρ : Rho} {e : Tr V} {n : Nat} {a : Act} (he : cC ρ e n a.tmps) {t : Nat} (ht : t < n) {v : V} {x : Value} (hv : tv ρ v = some x) : cC ρ (pu e t (some v)) n (a.put (some t) x).tmps := by
 refine ⟨by simp [Act.put, he.size], fun s u hu => ?_⟩
 rw [fS] at hu
 by_cases hs : s = t
 ·subst hs;rw [a1V rfl] at hu; cases hu
  exact ⟨x, by simp [Act.put, he.size, ht], hv⟩
 ·rw [a1U hs] at hu;obtain ⟨y, h1, h2⟩ := he.get s u hu;exact ⟨y, by simp [Act.put, a0e (Ne.symm hs), h1], h2⟩
theorem Rel.lt {g : G} {ρ : Rho} {h : Tr Blk} {nx : Nat} {w : World} (R : Rel g ρ h nx w) {b : Nat} {k : Blk} (e : at_ h b = some k) : ∃ x o, ρ b = some x /\ w.heap[x.1]? = some o /\ blkR ρ x.2 k o /\ x.1 < w.heap.size := by
 obtain ⟨x, o, h1, h2, h3⟩ := R.blk b k e
 exact ⟨x, o, h1, h2, h3, SX.heap_lt h2⟩
theorem Rel.row {g : G} {ρ : Rho} {h : Tr Blk} {nx : Nat} {w : World} (R : Rel g ρ h nx w) {b : Nat} {c : List V} {t op : Nat} (e : at_ h b = some (.cells c t op)) :
  ∃ x l junk, ρ b = some x /\ w.heap[x.1]? = some (.cells ⟨l ++ junk⟩ t (0, 0)) /\ cells ρ c l /\ (op = 0 -> junk = []) /\ (0 < op -> l.length + junk.length = x.2 * op) := by
 obtain ⟨x, o, h1, h2, h3⟩ := R.blk b _ e
 cases o <;> first
  | (obtain ⟨rfl, rfl, l, j, h4, rfl, h5, h6⟩ := h3; exact ⟨x, l, j, h1, h2, h4, h5, h6⟩)
  | exact h3.elim
theorem vF (b off i : Nat) : Addr.add ⟨b, off, none⟩ i = ⟨b, off + i, none⟩ := by
 unfold Addr.add; split
 ·subst_vars; rfl
 ·rfl
theorem uE {w : World} {x : Nat} {a : Array Value} {t : Nat} {fz : Nat × Nat} (h : w.heap[x]? = some (.cells a t fz)) (i : Nat) : w.cell? ⟨x, i, none⟩ = a[i]? := by
 simp [World.cell?, h]
theorem aBb {P : Program} {g : G} {ρ : Rho} {h : Tr Blk} {nx : Nat} {w : World} (R : Rel g ρ h nx w) {b off n : Nat} {l : List V} {h1 : Tr Blk} {n1 : Nat} {m : List Fp}
  (e : pRd b off n h nx = some (l, h1, n1, m)) : ∃ x r, ρ b = some x /\ (loadCells ⟨x.1, off, none⟩ n).run P w = .ok ⟨r⟩ w /\ cells ρ l r /\ l.length = n /\ h1 = h /\ n1 = nx := by
 unfold pRd at e
 split at e
 ·rename_i c t op hb;split at e
  ·rename_i l' htk;split at e
   ·cases e;obtain ⟨x, cl, junk, hx, hw, hc, _, _⟩ := R.row hb;rw [dr_eq, vJ] at htk;obtain ⟨h2, rfl⟩ := htk;simp only [a0V] at h2;have hcl := hc.len;have hlen : ((cl.drop off).take n).length = n := by simp; omega
    refine ⟨x, (cl.drop off).take n, hx, ?_, (hc.drop off).take n, by simp; omega, rfl, rfl⟩
    have := SX.run_loadCellsFrom (P := P) (w := w) (p := ⟨x.1, off, none⟩) ((cl.drop off).take n) 0 #[] (fun j v hj => by
     rw [vF, uE hw];have hjn : j < n := by have := (a0J.1 hj).1; omega
     rw [a0Q hjn, a0G] at hj;rw [a0R, a1G, a0C (a0J.1 hj).1]; exact hj)
    rw [hlen] at this;unfold loadCells;rw [this]; simp
   ·cases e
  ·cases e
 ·cases e
theorem aFE {g : G} {ρ : Rho} {h : Tr Blk} {nx : Nat} {w : World} (R : Rel g ρ h nx w) {b off : Nat} {v : V} {h1 : Tr Blk} {n1 : Nat} {m : List Fp}
  (e : pRd1 b off h nx = some (v, h1, n1, m)) : ∃ x u, ρ b = some x /\ w.cell? ⟨x.1, off, none⟩ = some u /\ tv ρ v = some u /\ isC v = true /\ h1 = h /\ n1 = nx := by
 obtain ⟨e1, e2⟩ := wX.1 e
 cases e2
 obtain ⟨c, t, op, hb, hv⟩ := lS.1 e1
 obtain ⟨x, cl, junk, hx, hw, hc, _, _⟩ := R.row hb
 obtain ⟨u, h2, h3, h4⟩ := hc.get hv
 refine ⟨x, u, hx, ?_, h3, h4, rfl, rfl⟩
 rw [uE hw, a0R, a0C (a0J.1 h2).1]; exact h2
theorem Rel.ext {g : G} {ρ : Rho} {h h' : Tr Blk} {nx : Nat} {w : World} (R : Rel g ρ h nx w) (e : ∀ b, at_ h' b = at_ h b) : Rel g ρ h' nx w :=
 ⟨fun b k q => R.blk b k (by rw [<- e]; exact q), fun b b' x x' p q => R.inj b b' x x' (by rw [<- e]; exact p) (by rw [<- e]; exact q), R.new, R.below, R.lo, R.fresh, R.le, R.out⟩
theorem Rel.write {g : G} {ρ : Rho} {h : Tr Blk} {nx : Nat} {w w' : World} (R : Rel g ρ h nx w) {b : Nat} {x : Nat × Nat} {k k' : Blk} {o' : Obj} (hb : at_ h b = some k) (hx : ρ b = some x) (hw : w'.heap[x.1]? = some o')
  (ho : ∀ c, c ≠ x.1 -> w'.heap[c]? = w.heap[c]?) (hsz : w'.heap.size = w.heap.size) (hos : w'.os = w.os) (hout : w'.output = w.output) (htp : w'.tape = w.tape) (hk : blkR ρ x.2 k' o') : Rel g ρ (pu h b (some k')) nx w' := by
 refine ⟨fun c q hc => ?_, fun c c' y y' h1 h2 h3 h4 h5 => ?_, R.new, ⟨hos.trans R.below.os, htp.trans R.below.tape, hout.trans R.below.output, by rw [hsz]; exact R.below.size, fun c hc => ?_⟩, R.lo, R.fresh, R.le, R.out⟩
 ·rw [fS] at hc;by_cases e : c = b
  ·subst e; rw [a1V rfl] at hc; cases hc; exact ⟨x, o', hx, hw, hk⟩
  ·rw [a1U e] at hc;obtain ⟨y, o, h1, h2, h3⟩ := R.blk c q hc;refine ⟨y, o, h1, ?_, h3⟩;rw [ho y.1 fun e2 => e (R.inj c b y x (by rw [hc]; simp) (by rw [hb]; simp) h1 hx e2)]; exact h2
 ·refine R.inj c c' y y' (fun e => h1 ?_) (fun e => h2 ?_) h3 h4 h5
  ·rw [fS]; split
   ·subst_vars; rw [hb] at e; cases e
   ·exact e
  ·rw [fS]; split
   ·subst_vars; rw [hb] at e; cases e
   ·exact e
 ·have := R.new b x hx;rw [ho c (by omega)]; exact R.below.block c hc
theorem aEi {w : World} {b off : Nat} {a : Array Value} {t : Nat} {fz : Nat × Nat} (h : w.heap[b]? = some (.cells a t fz)) (u : Value) :
  (w.setCell ⟨b, off, none⟩ u).heap[b]? = some (.cells (a.setIfInBounds off u) t fz) := SX.setCell_self w ⟨b, off, none⟩ u h rfl
theorem aBD {α : Type} {c l : List α} {off : Nat} {v : α} (h : off + (v :: l).length <= c.length) : ((c.set off v).take (off + 1) ++ l ++ (c.set off v).drop (off + 1 + l.length)) = c.take off ++ (v :: l) ++ c.drop (off + (v :: l).length) := by
 simp only [a0U] at h
 have h2 : (c.set off v).take (off + 1) = c.take off ++ [v] := by
  rw [List.take_set, a1q (by omega), List.set_append_right _ _ (by simp; omega)];simp [a1D (by omega : off <= c.length)]
 have h3 : (c.set off v).drop (off + 1 + l.length) = c.drop (off + (v :: l).length) := by
  rw [List.drop_set, a1V (by omega)];congr 1; simp; omega
 rw [h2, h3]; simp
theorem aGB {ρ : Rho} {c : List V} {l : List Value} (h : cells ρ c l) {i : Nat} {v : V} {u : Value} (hv : isC v = true) (e : tv ρ v = some u) (hi : i < c.length) : cells ρ (c.set i v) (l.set i u) := by
 have hl := h.len
 have e1 : c.set i v = c.take i ++ v :: c.drop (i + 1) := by rw [List.set_eq_take_append_cons_drop, a1V hi]
 have e2 : l.set i u = l.take i ++ u :: l.drop (i + 1) := by rw [List.set_eq_take_append_cons_drop, a1V (by omega)]
 rw [e1, e2]
 have h1 : cells ρ [v] [u] := ⟨tD.2 ⟨hv, rfl⟩, eT.2 ⟨u, [], e, rfl, rfl⟩⟩
 exact (h.take i).app (h1.app (h.drop (i + 1)))
theorem aDb {P : Program} {g : G} {ρ : Rho} {nx : Nat} {b t op : Nat} {x : Nat × Nat} : ∀ (l : List V) (r : List Value) (off : Nat) (c : List V) (h : Tr Blk) (w : World) (k i : Nat), Rel g ρ h nx w -> at_ h b = some (.cells c t op) -> ρ b = some x ->
  cells ρ l r -> off + l.length <= c.length -> off = k + i -> ∃ w', (storeCells ⟨x.1, k, none⟩ r i).run P w = .ok () w' /\ Rel g ρ (pu h b (some (.cells (c.take off ++ l ++ c.drop (off + l.length)) t op))) nx w'
 | [], r, off, c, h, w, k, i, R, hb, hx, hc, hle, hk => by
  rw [rY.1 hc.2];refine ⟨w, rfl, R.ext fun d => ?_⟩
  rw [fS]; split
  ·subst_vars; rw [hb]; simp
  ·rfl
 | v :: l, r, off, c, h, w, k, i, R, hb, hx, hc, hle, hk => by
  obtain ⟨u, r, h1, h2, rfl⟩ := eT.1 hc.2;obtain ⟨h3, h4⟩ := tD.1 hc.1;obtain ⟨y, cl, junk, hy, hw, hcc, hj0, hj1⟩ := R.row hb;rw [hx] at hy; cases hy
  have hlen := hcc.len;have hoff : off < c.length := by simp at hle; omega
  have hcell : w.cell? ⟨x.1, off, none⟩ = some (cl[off]'(by omega)) := by
   rw [uE hw, a0R, a0C (by omega)]; simp
  have hfr : w.frozen? ⟨x.1, off, none⟩ = false := by simp [World.frozen?, hw]
  have hrun : (Go.store ⟨x.1, off, none⟩ u).run P w = .ok () (w.setCell ⟨x.1, off, none⟩ u) := SX.run_store (P := P) (by
   have := aBp h3 h1;cases u <;> first | exact this.elim | trivial) hcell hfr
  have hcc' := aGB hcc h3 h1 hoff;have R' : Rel g ρ (pu h b (some (.cells (c.set off v) t op))) nx (w.setCell ⟨x.1, off, none⟩ u) :=
   R.write hb hx (aEi hw u) (fun d hd => SX.setCell_other w ⟨x.1, off, none⟩ u hd) (SX.setCell_size _ _ _) rfl rfl rfl
    ⟨rfl, rfl, cl.set off u, junk, hcc', by simp [List.set_append_left _ _ (by omega : off < cl.length)], hj0, fun h => by simp; exact hj1 h⟩
  obtain ⟨w', hr, hR⟩ := aDb (P := P) l r (off + 1) (c.set off v) _ _ k (i + 1) R' at_same hx ⟨h4, h2⟩ (by simp at hle ⊢; omega) (by omega)
  refine ⟨w', ?_, hR.ext fun d => ?_⟩
  ·have e0 : Addr.add ⟨x.1, k, none⟩ i = ⟨x.1, off, none⟩ := by rw [vF, hk]
   simp only [storeCells, a1O, e0, hrun];exact hr
  ·rw [fS, fS]; split
   ·rw [aBD hle]
   ·rw [at_ne (by assumption)]
theorem yR {P : Program} {g : G} {ρ : Rho} {h : Tr Blk} {nx : Nat} {w : World} (R : Rel g ρ h nx w) {b off : Nat} {l : List V} {r : List Value} {h1 : Tr Blk} {n1 : Nat} {m : List Fp}
  (e : pWr b off l h nx = some ((), h1, n1, m)) (hc : cells ρ l r) : ∃ x w', ρ b = some x /\ (storeCells ⟨x.1, off, none⟩ r).run P w = .ok () w' /\ Rel g ρ h1 n1 w' := by
 unfold pWr at e
 split at e
 ·rename_i c t op hb;split at e
  ·rename_i c' hpl;split at e
   ·cases e;obtain ⟨h2, rfl⟩ := (tA l off c c').1 hpl;obtain ⟨x, _, _, hx, _⟩ := R.row hb;obtain ⟨w', h3, h4⟩ := aDb (P := P) l r off c h w off 0 R hb hx hc h2 rfl;exact ⟨x, w', hx, h3, h4⟩
   ·cases e
  ·cases e
 ·cases e
def Rho.ins (ρ : Rho) (b : Nat) (x : Nat × Nat) : Rho := fun c => if c = b then some x else ρ c
theorem Rho.le_ins {ρ : Rho} {b : Nat} {x : Nat × Nat} (h : ρ b = none) : ρ.le (ρ.ins b x) := fun c y e => by
 unfold Rho.ins; split
 ·subst c; rw [h] at e; cases e
 ·exact e
theorem Rho.ins_self {ρ : Rho} {b : Nat} {x : Nat × Nat} : ρ.ins b x b = some x := by simp [Rho.ins]
theorem xH {g : G} {ρ : Rho} {h : Tr Blk} {nx : Nat} {w : World} (R : Rel g ρ h nx w) {k : Blk} {b : Nat} {h1 : Tr Blk} {n1 : Nat} {m : List Fp}
  (e : iT k h nx = some (b, h1, n1, m)) (hi : n1 <= g.hi) (κ : Nat) (o : Obj) (hk : blkR (ρ.ins nx (w.heap.size, κ)) κ k o) : b = nx /\ ρ.le (ρ.ins nx (w.heap.size, κ)) /\ Rel g (ρ.ins nx (w.heap.size, κ)) h1 n1 (w.alloc o) := by
 unfold iT at e
 split at e
 ·rename_i h0;cases e;have hn : ρ nx = none := R.fresh nx (a1y _) hi;have hle := Rho.le_ins (x := (w.heap.size, κ)) hn;have hnew : (w.alloc o).heap[w.heap.size]? = some o := by show (w.heap.push o)[w.heap.size]? = _; simp
  refine ⟨rfl, hle, ⟨fun c q hc => ?_, fun c c' y y' h1 h2 h3 h4 h5 => ?_, fun c y hy => ?_, R.below.alloc R.below.size o, Nat.le_succ_of_le R.lo, fun c hc hc2 => ?_, Rho.le_trans R.le hle, fun c hc => ?_⟩⟩
  ·rw [fS] at hc;by_cases e : c = nx
   ·subst e; rw [a1V rfl] at hc; cases hc; exact ⟨_, o, Rho.ins_self, hnew, hk⟩
   ·rw [a1U e] at hc;obtain ⟨y, o2, h1, h2, h3, h4⟩ := R.lt hc;exact ⟨y, o2, hle _ _ h1, by rw [Below.heap_alloc w o y.1 h4]; exact h2, h3.mono hle⟩
  ·have key : ∀ {d : Nat} {z : Nat × Nat}, at_ (pu h nx (some k)) d ≠ none -> ρ.ins nx (w.heap.size, κ) d = some z -> (d = nx /\ z.1 = w.heap.size) \/ (d ≠ nx /\ at_ h d ≠ none /\ ρ d = some z /\ z.1 < w.heap.size) := fun {d z} hd hz => by
    by_cases e : d = nx
    ·subst e; rw [Rho.ins_self] at hz; cases hz; exact .inl ⟨rfl, rfl⟩
    ·rw [at_ne e] at hd;have hz' : ρ d = some z := by simpa [Rho.ins, e] using hz
     refine .inr ⟨e, hd, hz', ?_⟩;cases hq : at_ h d with
     | none => exact absurd hq hd
     | some q =>
      obtain ⟨y, o2, g1, g2, _, g4⟩ := R.lt hq;rw [hz'] at g1; cases g1; exact g4
   rcases key h1 h3 with ⟨a1, a2⟩ | ⟨a1, a2, a3, a4⟩ <;> rcases key h2 h4 with ⟨b1, b2⟩ | ⟨b1, b2, b3, b4⟩
   ·omega
   ·omega
   ·omega
   ·exact R.inj c c' y y' a2 b2 a3 b3 h5
  ·unfold Rho.ins at hy;split at hy
   ·cases hy; exact R.below.size
   ·exact R.new c y hy
  ·have : c ≠ nx := by omega
   simp only [Rho.ins, a1U this]; exact R.fresh c (by omega) hc2
  ·have := R.lo;have : c ≠ nx := by omega
   simp only [Rho.ins, a1U this]; exact R.out c hc
 ·cases e
theorem aHM {g : G} {ρ : Rho} {h : Tr Blk} {nx : Nat} {w : World} (R : Rel g ρ h nx w) {b : Nat} {h1 : Tr Blk} {n1 : Nat} {m : List Fp} (e : pDel b h nx = some ((), h1, n1, m)) : Rel g ρ h1 n1 w := by
 unfold pDel at e
 split at e
 ·cases e;refine ⟨fun c q hc => ?_, fun c c' y y' h1 h2 => R.inj c c' y y' (fun e => h1 ?_) (fun e => h2 ?_), R.new, R.below, R.lo, R.fresh, R.le, R.out⟩
  ·rw [fS] at hc; split at hc
   ·cases hc
   ·exact R.blk c q hc
  ·rw [fS]; split
   ·rfl
   ·exact e
  ·rw [fS]; split
   ·rfl
   ·exact e
 ·cases e
theorem nH {g : G} {ρ : Rho} {h : Tr Blk} {nx : Nat} {w : World} (R : Rel g ρ h nx w) {b : Nat} {o : Ob} {h1 : Tr Blk} {n1 : Nat} {m : List Fp} (e : pF b h nx = some (o, h1, n1, m)) :
  ∃ x o', ρ b = some x /\ w.heap[x.1]? = some o' /\ obR ρ o o' /\ at_ h b = some (.obj o) /\ h1 = h /\ n1 = nx := by
 unfold pF at e
 split at e
 ·rename_i hb; cases e
  obtain ⟨x, o', h1, h2, h3⟩ := R.blk b _ hb;exact ⟨x, o', h1, h2, h3, hb, rfl, rfl⟩
 ·cases e
theorem sW {g : G} {ρ : Rho} {h : Tr Blk} {nx : Nat} {w : World} (R : Rel g ρ h nx w) {b : Nat} {o : Ob} {x : Nat × Nat} {o1 : Obj} {h1 : Tr Blk} {n1 : Nat} {m : List Fp} (e : pK b o h nx = some ((), h1, n1, m)) (hx : ρ b = some x) (ho : obR ρ o o1) :
  Rel g ρ h1 n1 { w with heap := w.heap.setIfInBounds x.1 o1 } := by
 unfold pK at e
 split at e
 ·rename_i o0 hb; cases e
  obtain ⟨y, o', h1, h2, h3, h4⟩ := R.lt hb;rw [hx] at h1; cases h1
  refine R.write hb hx ?_ (fun c hc => ?_) (by simp) rfl rfl rfl ho
  ·simp [h4]
  ·simp [a0e (Ne.symm hc)]
 ·cases e
end
open RowKit (Below)
noncomputable section
section
variable {P : Program}
theorem rF {t : Nat} {i : TypeInfo} (h : info P t = some i) : P.info? t = some i := by
 have e : at_ (rO P.types.toList 0 .leaf fun t => t) t = some i := h
 rw [aBm] at e
 split at e
 ·rename_i hlt;have : t < P.types.size := by simpa using hlt.2
  unfold Tables.info?
  rw [a1V this];simpa using e
 ·rw [wI] at e; cases e
theorem dY {t : Nat} {d : TypeDesc} (h : und P t = some d) : P.underlying t = some d := by
 unfold und at h
 unfold Program.underlying
 cases hi : info P t with
 | none => rw [hi] at h; cases h
 | some i =>
  rw [hi] at h;rw [rF hi];simp only [und1] at h ⊢;obtain ⟨desc, a1, a2, a3, a4, a5, a6, a7, a8, a9⟩ := i;cases desc <;> first
   | exact h
   | (rename_i nm u
      simp only at h ⊢
      cases hu : info P u with
      | none => rw [hu] at h; cases h
      | some j => rw [hu] at h; rw [rF hu]; exact h)
theorem sL {t n : Nat} (h : szT P t = some n) : ∃ i, P.info? t = some i /\ i.size = n := by
 unfold szT at h
 cases hi : info P t with
 | none => rw [hi] at h; cases h
 | some i => rw [hi] at h; cases h; exact ⟨i, rF hi, rfl⟩
theorem zer_tv {t : Nat} {z : V} (ρ : Rho) (h : zer P t = some z) : ∃ i zv, P.info? t = some i /\ i.zero = some zv /\ tv ρ z = some zv := by
 unfold zer at h
 cases hi : info P t with
 | none => rw [hi] at h; cases h
 | some i =>
  rw [hi] at h;simp only at h
  cases hz : i.zero with
  | none => rw [hz] at h; cases h
  | some zv => rw [hz] at h; exact ⟨i, zv, rF hi, hz, uN ρ zv h⟩
theorem kT {t : Nat} {z : V} {ρ : Rho} (h : zer P t = some z) (w : World) : ∃ zv, (zeroValue t).run P w = .ok zv w /\ tv ρ z = some zv := by
 obtain ⟨i, zv, h1, h2, h3⟩ := zer_tv ρ h
 exact ⟨zv, by simp [zeroValue, a1O, SX.run_typeInfo h1, h2, Sem.run, pure], h3⟩
theorem xI {t n : Nat} (h : szT P t = some n) (w : World) : (sizeOf t).run P w = .ok n w := by
 obtain ⟨i, h1, rfl⟩ := sL h
 exact SX.run_sizeOf h1 w
theorem aDE {t : Nat} {s : Option Nat} (h : shp P t = some s) (w : World) : (isAgg t).run P w = .ok s.isSome w /\ ∀ n, s = some n -> (sizeOf t).run P w = .ok n w := by
 unfold shp at h
 cases hu : und P t with
 | none => rw [hu] at h; cases h
 | some d =>
  rw [hu] at h;have hU := SX.run_underlying (dY hu) w;cases d <;> simp only at h <;> first
   | (cases h; exact ⟨by simp [isAgg, a1O, hU, Sem.run, pure], fun n e => by cases e⟩)
   | (cases hs : szT P t with
     | none => rw [hs] at h; cases h
     | some m => rw [hs] at h; cases h; exact ⟨by simp [isAgg, a1O, hU, Sem.run, pure], fun n e => by cases e; exact xI hs w⟩)
end
def OkV (P : Program) (o : Oper) (a : Act) (w : World) (g : G) (ρ : Rho) (r : O × S) (kv : KV) : Prop :=
 ∃ v x ρ' h' nx' lg' w', ((execOp a.eval o).run P w = .ok (.value x) w' \/ ((execOp a.eval o).run P w = .ok .skip w' /\ x = undef)) /\ ρ.le ρ' /\ Rel g ρ' h' nx' w' /\ tv ρ' v = some x /\ run (kv v) h' nx' lg' = some r
section
variable {P : Program} {o : Oper} {a : Act} {w : World} {g : G} {ρ : Rho} {r : O × S} {kv : KV} {kp : List PE -> AL} {kd : Df -> AL} {e : Tr V} {n : Nat} {h : Tr Blk} {nx : Nat} {lg : List Fp} {ex : Ex}
theorem OkV.pure {v : V} {x : Value} (R : Rel g ρ h nx w) (hx : (execOp a.eval o).run P w = .ok (.value x) w) (ht : tv ρ v = some x) (q : run (kv v) h nx lg = some r) : OkV P o a w g ρ r kv :=
 ⟨v, x, ρ, h, nx, lg, w, .inl hx, Rho.le_refl ρ, R, ht, q⟩
theorem oZ {k : IntKind} {n : Int} {x : Value} (h : tv ρ (.int k n) = some x) : x = .int k n := by cases h; rfl
theorem aD9 {b : Bool} {x : Value} (h : tv ρ (.bool b) = some x) : x = .bool b := by cases h; rfl
theorem lK {b off : Nat} {x : Value} (h : tv ρ (.ptr b off) = some x) : ∃ y, ρ b = some y /\ x = .pointer (some ⟨y.1, off, none⟩) := by
 simp only [tv, a1J] at h
 obtain ⟨y, h1, rfl⟩ := h; exact ⟨y, h1, rfl⟩
theorem tv_tup {l : List V} {x : Value} (h : tv ρ (.tup l) = some x) : ∃ r, tvs ρ l = some r /\ x = .tuple ⟨r⟩ := by
 simp only [tv] at h
 cases ha : tvs ρ l with
 | none => rw [ha] at h; cases h
 | some r => rw [ha] at h; cases h; exact ⟨r, rfl, rfl⟩
theorem s_move {x : Operand} (ho : o.op = .move x \/ o.op = .assign x) (he : cC ρ e n a.tmps) (R : Rel g ρ h nx w) (q : run (mT x P ex e kv kp kd) h nx lg = some r) : OkV P o a w g ρ r kv := by
 obtain ⟨v, h1, q1⟩ := fT q
 exact .pure R (by rcases ho with ho | ho <;> simp [execOp, ho, Sem.run, Pure.pure]) (dD he h1) q1
theorem s_pick {c x y : Operand} (ho : o.op = .pick c x y) (he : cC ρ e n a.tmps) (R : Rel g ρ h nx w) (q : run (wH c x y P ex e kv kp kd) h nx lg = some r) : OkV P o a w g ρ r kv := by
 obtain ⟨v, u, t, h1, h2, h3, q1⟩ := aDj q
 obtain ⟨b, rfl, q2⟩ := aCc q1
 have hb := aD9 (dD he h1)
 cases b with
 | true => exact .pure R (by simp [execOp, ho, hb, Go.asBool, a1O, Sem.run, Pure.pure]) (dD he h2) q2
 | false => exact .pure R (by simp [execOp, ho, hb, Go.asBool, a1O, Sem.run, Pure.pure]) (dD he h3) q2
theorem aEr {t : Nat} {s : Option Nat} {b off : Nat} {y : Nat × Nat} {k : V -> AL} (R : Rel g ρ h nx w) (hs : shp P t = some s) (hb : ρ b = some y) (q : run (loadS s b off k) h nx lg = some r) :
  ∃ v x lg', (loadVar t ⟨y.1, off, none⟩).run P w = .ok x w /\ tv ρ v = some x /\ run (k v) h nx lg' = some r := by
 obtain ⟨hA, hsz⟩ := aDE hs w
 rcases kR q with ⟨rfl, q1⟩ | ⟨m, rfl, q1⟩
 ·rw [aEK] at q1;obtain ⟨v, h1, n1, l, e1, q2⟩ := dZ q1;obtain ⟨x, u, h2, h3, h4, _, rfl, rfl⟩ := aFE R e1;rw [hb] at h2; cases h2
  exact ⟨v, u, _, by simp [loadVar, a1O, hA, Go.load, Sem.run, h3], h4, q2⟩
 ·have hm := hsz m rfl;rcases gV q1 with ⟨h0, q3⟩ | ⟨_, q3⟩
  ·have := a1v h0;subst this;exact ⟨.agg [], .agg #[], lg, by simp [loadVar, a1O, hA, hm, loadCells, loadCellsFrom, Sem.run, Pure.pure], rfl, q3⟩
  ·rw [aAF] at q3;obtain ⟨v, h1, n1, l, e1, q4⟩ := dZ q3;obtain ⟨x, rr, h2, h3, h4, _, rfl, rfl⟩ := aBb (P := P) R e1;rw [hb] at h2; cases h2
   exact ⟨.agg v, .agg ⟨rr⟩, _, by simp [loadVar, a1O, hA, hm, h3, Sem.run, Pure.pure], xY h4, q4⟩
theorem s_load {t : Nat} {x : Operand} (ho : o.op = .load t x) (he : cC ρ e n a.tmps) (R : Rel g ρ h nx w) (q : run (wY t x P ex e kv kp kd) h nx lg = some r) : OkV P o a w g ρ r kv := by
 obtain ⟨v, h1, q1⟩ := fT q
 obtain ⟨s, hs, q2⟩ := bR q1
 obtain ⟨b, off, rfl, q3⟩ := wL q2
 obtain ⟨y, hb, hx⟩ := lK (dD he h1)
 obtain ⟨u, z, lg', h2, h3, q4⟩ := aEr R hs hb q3
 exact .pure R (by simp [execOp, ho, hx, Instr.loadAt, Instr.sureAddr, a1O, h2, Sem.run, Pure.pure]) h3 q4
theorem s_store {t : Nat} {x y : Operand} (ho : o.op = .store t x y) (he : cC ρ e n a.tmps) (R : Rel g ρ h nx w) (q : run (vY t x y P ex e kv kp kd) h nx lg = some r) : OkV P o a w g ρ r kv := by
 obtain ⟨p, v, h1, h2, q1⟩ := rE q
 obtain ⟨sz, hs, q2⟩ := bR q1
 obtain ⟨b, off, rfl, q3⟩ := wL q2
 obtain ⟨c, hc, q4⟩ := bR q3
 obtain ⟨hlen, q5⟩ := dU q4
 rw [ln0] at hlen
 have hlen := a1v hlen
 obtain ⟨y', hb, hx⟩ := lK (dD he h1)
 have hcc := xF hc (dD he h2)
 have hl := hcc.len
 have hsz := xI hs w
 rcases gV q5 with ⟨h0, q6⟩ | ⟨_, q6⟩
 ·have := a1v h0;subst this;have h0' : (a.eval y).cells.toList = [] := a0y (by omega)
  have h0s : (a.eval y).cells.size = 0 := by rw [<- a0g, h0']; rfl
  refine ⟨eS, undef, ρ, h, nx, lg, w, .inr ⟨?_, rfl⟩, Rho.le_refl ρ, R, rfl, q6⟩;simp [execOp, ho, hx, Instr.storeAt, Instr.sureAddr, storeVar, a1O, hsz, h0s, h0', storeCells, Sem.run, Pure.pure]
 ·rw [vB] at q6;obtain ⟨_, h1', n1, l, e1, q7⟩ := dZ q6;obtain ⟨y2, w', g1, g2, g3⟩ := yR (P := P) R e1 hcc;rw [hb] at g1; cases g1
  have h0s : (a.eval y).cells.size = sz := by rw [<- a0g]; omega
  refine ⟨eS, undef, ρ, h1', n1, _, w', .inr ⟨?_, rfl⟩, Rho.le_refl ρ, g3, rfl, q7⟩;simp [execOp, ho, hx, Instr.storeAt, Instr.sureAddr, storeVar, a1O, hsz, h0s, g2, Sem.run, Pure.pure]
theorem yA {c : List V} {l : List Value} {t : Nat} {k : Nat -> AL} (R : Rel g ρ h nx w) (hc : cells ρ c l) (hi : r.2.nx <= g.hi) (q : run (.new c t 0 k) h nx lg = some r) :
  ∃ b ρ' h' nx' lg', (Go.newRow t ⟨l⟩).run P w = .ok ⟨w.heap.size, 0, none⟩ (w.alloc (.cells ⟨l⟩ t)) /\ ρ.le ρ' /\ Rel g ρ' h' nx' (w.alloc (.cells ⟨l⟩ t)) /\ (∃ κ, ρ' b = some (w.heap.size, κ)) /\ run (k b) h' nx' lg' = some r := by
 rw [xO] at q
 obtain ⟨b, h1, n1, m, e1, q1⟩ := dZ q
 have hn1 := a1z (qM q1) hi
 have hn : ρ nx = none := by
  unfold iT at e1;split at e1
  ·cases e1; exact R.fresh nx (a1y _) hn1
  ·cases e1
 have hle := Rho.le_ins (x := (w.heap.size, 0)) hn
 obtain ⟨rfl, h2, h3⟩ := xH R e1 hn1 0 (.cells ⟨l⟩ t) ⟨rfl, rfl, l, [], hc.mono hle, by simp, fun _ => rfl, fun h => absurd h (Nat.lt_irrefl 0)⟩
 exact ⟨b, _, h1, n1, _, by simp [newRow, newObj, a1O, Sem.run, Pure.pure], h2, h3, ⟨0, Rho.ins_self⟩, q1⟩
theorem vV {b off : Nat} {x κ : Nat} (h : ρ b = some (x, κ)) : tv ρ (.ptr b off) = some (.pointer (some ⟨x, off, none⟩)) := by simp [tv, h]
theorem s_alloc {t : Nat} (ho : o.op = .alloc t) (hi : r.2.nx <= g.hi) (R : Rel g ρ h nx w) (q : run (zE t P ex e kv kp kd) h nx lg = some r) : OkV P o a w g ρ r kv := by
 obtain ⟨z, hz, q1⟩ := bR q
 obtain ⟨c, hc, q2⟩ := bR q1
 obtain ⟨zv, h1, h2⟩ := kT (ρ := ρ) hz w
 obtain ⟨b, ρ', h', nx', lg', g1, g2, g3, ⟨κ, g4⟩, q3⟩ := yA (P := P) R (xF hc h2) hi q2
 refine ⟨.ptr b 0, _, ρ', h', nx', lg', _, .inl ?_, g2, g3, vV g4, q3⟩
 simp [execOp, ho, Instr.alloc, a1O, h1, newVar, g1, Sem.run, Pure.pure]
theorem s_box {t : Nat} {x : Operand} (ho : o.op = .box t x) (he : cC ρ e n a.tmps) (hi : r.2.nx <= g.hi) (R : Rel g ρ h nx w) (q : run (hBox t x P ex e kv kp kd) h nx lg = some r) : OkV P o a w g ρ r kv := by
 obtain ⟨v, h1, q1⟩ := fT q
 obtain ⟨c, hc, q2⟩ := bR q1
 obtain ⟨b, ρ', h', nx', lg', g1, g2, g3, ⟨κ, g4⟩, q3⟩ := yA (P := P) R (xF hc (dD he h1)) hi q2
 refine ⟨.ptr b 0, _, ρ', h', nx', lg', _, .inl ?_, g2, g3, vV g4, q3⟩
 simp [execOp, ho, Instr.box, a1O, newVar, g1, Sem.run, Pure.pure]
theorem s_nil {x : Operand} (ho : o.op = .nilCheck x) (he : cC ρ e n a.tmps) (R : Rel g ρ h nx w) (q : run (hNil x P ex e kv kp kd) h nx lg = some r) : OkV P o a w g ρ r kv := by
 obtain ⟨v, h1, q1⟩ := fT q
 have ht := dD he h1
 have key : run (kv v) h nx lg = some r /\ (execOp a.eval o).run P w = .ok (.value (a.eval x)) w := by
  cases v <;> first
   | (cases q1; done)
   | skip
  ·obtain ⟨y, _, hx⟩ := lK ht;exact ⟨q1, by simp [execOp, ho, hx, Sem.run, Pure.pure]⟩
  ·simp only [tv] at ht;rename_i f a1 c1;cases ha : tvs ρ a1 with
   | none => rw [ha] at ht; cases ht
   | some y =>
    rw [ha] at ht;simp only at ht
    cases hc : tvs ρ c1 with
    | none => rw [hc] at ht; cases ht
    | some z => rw [hc] at ht; simp only [a1M] at ht; exact ⟨q1, by simp [execOp, ho, <- ht, Sem.run, Pure.pure]⟩
  ·simp only [tv, a1J] at ht;obtain ⟨y, _, hx⟩ := ht;exact ⟨q1, by simp [execOp, ho, <- hx, Sem.run, Pure.pure]⟩
 exact .pure R key.2 ht key.1
theorem s_ext {x : Operand} {i : Nat} (ho : o.op = .extract x i) (he : cC ρ e n a.tmps) (R : Rel g ρ h nx w) (q : run (hExt x i P ex e kv kp kd) h nx lg = some r) : OkV P o a w g ρ r kv := by
 obtain ⟨v, h1, q1⟩ := fT q
 obtain ⟨l, rfl, q2⟩ := aGZ q1
 obtain ⟨u, h2, q3⟩ := bR q2
 obtain ⟨rr, h3, hx⟩ := tv_tup (dD he h1)
 rw [lG] at h2
 obtain ⟨y, h4, h5⟩ := yO h3 h2
 exact .pure R (by simp [execOp, ho, hx, Instr.extract, h4, a1O, Sem.run, Pure.pure]) h5 q3
theorem aEI {t : Nat} (hh : noIf P t = true) : ∃ d, P.underlying t = some d /\ ∀ ms, d ≠ .interface ms := by
 unfold noIf at hh
 cases hu : und P t with
 | none => rw [hu] at hh; cases hh
 | some d =>
  refine ⟨d, dY hu, fun ms e => ?_⟩
  subst e; rw [hu] at hh; cases hh
theorem s_mkI {t : Nat} {x : Operand} (ho : o.op = .makeInterface t x) (he : cC ρ e n a.tmps) (R : Rel g ρ h nx w) (q : run (hMkI t x P ex e kv kp kd) h nx lg = some r) : OkV P o a w g ρ r kv := by
 obtain ⟨v, h1, q1⟩ := fT q
 obtain ⟨hn, q2⟩ := dU q1
 obtain ⟨d, hd, hni⟩ := aEI hn
 have hU := SX.run_underlying hd w
 refine .pure (x := .iface t (a.eval x)) R ?_ (by simp only [tv, dD he h1]) q2
 cases d <;> first
  | exact absurd rfl (hni _)
  | simp [execOp, ho, Instr.makeInterface, a1O, hU, Sem.run, Pure.pure]
theorem s_mkF {fn : Fn} {f c : Array Operand} (ho : o.op = .makeFunc fn f c) (he : cC ρ e n a.tmps) (R : Rel g ρ h nx w) (q : run (hMkF fn f c P ex e kv kp kd) h nx lg = some r) : OkV P o a w g ρ r kv := by
 obtain ⟨gf, h1, q1⟩ := bR q
 obtain ⟨fs, h2, q2⟩ := kP q1
 obtain ⟨cs, h3, q3⟩ := kP q2
 have : fn = .func gf := by cases fn <;> first | (cases h1; rfl) | cases h1
 subst this
 have hf := jG he h2
 have hc := jG he h3
 refine .pure (x := .func (.func gf) (f.map a.eval) (c.map a.eval)) R (by simp [execOp, ho, Instr.makeFunc, a1O, Sem.run, Pure.pure]) ?_ q3
 simp only [tv, hf, hc]
 rw [<- Array.toList_map, <- Array.toList_map]
theorem s_mapN {t : Nat} {rr : Option Operand} (ho : o.op = .makeMap t rr) (hi : r.2.nx <= g.hi) (R : Rel g ρ h nx w) (q : run (hMapN t rr P ex e kv kp kd) h nx lg = some r) : OkV P o a w g ρ r kv := by
 rcases kR q with ⟨rfl, q1⟩ | ⟨_, _, q1⟩
 ·rw [aAc] at q1;obtain ⟨b, h1, n1, m, e1, q2⟩ := dZ q1;obtain ⟨rfl, h2, h3⟩ := xH R e1 (a1z (qM q2) hi) 0 (.map #[] 0) ⟨rfl, trivial⟩;refine ⟨.map b, .map (some w.heap.size), _, h1, n1, _, _, .inl ?_, h2, h3, by simp [tv, Rho.ins_self], q2⟩
  simp [execOp, ho, Instr.makeMap, newObj, a1O, Sem.run, Pure.pure]
 ·cases q1
end
end
open RowKit (Below)
noncomputable section
section
variable {P : Program} {o : Oper} {a : Act} {w : World} {g : G} {ρ : Rho} {r : O × S} {kv : KV} {kp : List PE -> AL} {kd : Df -> AL} {e : Tr V} {n : Nat} {h : Tr Blk} {nx : Nat} {lg : List Fp} {ex : Ex}
theorem aEs {t f : Nat} {q : Nat × Nat} (hf : fldOf P t f = some q) : ∃ fs fd, P.underlying t = some (.struct fs) /\ fs[f]? = some fd /\ fd.offset = q.1 /\ fd.type = q.2 := by
 unfold fldOf at hf
 split at hf
 ·rename_i fs hu;split at hf
  ·rename_i fd hn;cases hf;rw [lG] at hn;exact ⟨fs, fd, dY hu, by simpa using hn, rfl, rfl⟩
  ·cases hf
 ·cases hf
theorem fldA_eq {t f k : Nat} (hf : fldA P t f = some k) : ∃ fs fd i, P.underlying t = some (.struct fs) /\ fs[f]? = some fd /\ fd.offset = k /\ P.info? fd.type = some i /\ i.size ≠ 0 := by
 unfold fldA at hf
 split at hf
 ·rename_i k' ft hq;split at hf
  ·rename_i m hs;split at hf
   ·rename_i hpos;cases hf;obtain ⟨fs, fd, h1, h2, h3, h4⟩ := aEs hq;simp only at h3 h4
    subst h3 h4;obtain ⟨i, h5, h6⟩ := sL hs;rw [a1u] at hpos;exact ⟨fs, fd, i, h1, h2, rfl, h5, by omega⟩
   ·cases hf
  ·cases hf
 ·cases hf
theorem aHc {k : Nat} {d : AL} {f : Nat -> AL} (q : run (eW k d f) h nx lg = some r) : run (f k) h nx lg = some r := q
theorem nK {y off k : Nat} : Addr.add ⟨y, off, none⟩ k = ⟨y, off + k, none⟩ := vF y off k
theorem s_fieldA {t f : Nat} {x : Operand} (ho : o.op = .fieldAddr t x f) (he : cC ρ e n a.tmps) (R : Rel g ρ h nx w) (q : run (uG t x f P ex e kv kp kd) h nx lg = some r) : OkV P o a w g ρ r kv := by
 obtain ⟨v, h1, q1⟩ := fT q
 obtain ⟨k, hk, q2⟩ := bR q1
 obtain ⟨b, off, rfl, q3⟩ := wL q2
 have q4 := aHc q3
 obtain ⟨y, hb, hx⟩ := lK (dD he h1)
 obtain ⟨fs, fd, i, g1, g2, g3, g4, g5⟩ := fldA_eq hk
 refine .pure (x := .pointer (some ⟨y.1, off + k, none⟩)) R ?_ (vV (κ := y.2) hb) q4
 simp [execOp, ho, hx, Instr.fieldAt, Instr.sureAddr, fieldPlace, a1O, SX.run_underlying g1, g2, SX.run_sizeOf g4, g5, Sem.run, Pure.pure, nK, g3]
theorem aCK {t off : Nat} {s : Option Nat} {cs : List V} {l : List Value} {k : V -> AL} (hs : shp P t = some s) (hc : cells ρ cs l) (q : run (partV s off cs k) h nx lg = some r) :
  ∃ v x, (part t ⟨l⟩ off).run P w = .ok x w /\ tv ρ v = some x /\ run (k v) h nx lg = some r := by
 obtain ⟨hA, hsz⟩ := aDE hs w
 rcases kR q with ⟨rfl, q1⟩ | ⟨m, rfl, q1⟩
 ·obtain ⟨v, hv, q2⟩ := bR q1;rw [lG] at hv;obtain ⟨x, h1, h2, _⟩ := hc.get hv;exact ⟨v, x, by simp [part, a1O, hA, h1, Sem.run, Pure.pure], h2, q2⟩
 ·obtain ⟨c', hc', q2⟩ := bR q1;rw [dr_eq, vJ] at hc';obtain ⟨h1, rfl⟩ := hc';have h2 := (hc.drop off).take m;refine ⟨_, _, ?_, xY h2, q2⟩;have h3 : ((⟨l⟩ : Array Value).extract off (off + m)) = ⟨(l.drop off).take m⟩ := by
   apply Array.ext'
   simp [List.extract_eq_take_drop]
  simp [part, a1O, hA, hsz m rfl, Sem.run, Pure.pure, h3]
theorem s_field {t f : Nat} {x : Operand} (ho : o.op = .field t x f) (he : cC ρ e n a.tmps) (R : Rel g ρ h nx w) (q : run (uR t x f P ex e kv kp kd) h nx lg = some r) : OkV P o a w g ρ r kv := by
 obtain ⟨v, h1, q1⟩ := fT q
 obtain ⟨p, hp, q2⟩ := bR q1
 rcases aCZ q2 with ⟨cs, rfl, q3⟩ | q3
 ·obtain ⟨l, hl, hx⟩ := xZ (dD he h1);unfold fldV at hp;split at hp
  ·rename_i k ft hq;split at hp
   ·rename_i s hs;cases hp;obtain ⟨fs, fd, g1, g2, g3, g4⟩ := aEs hq;simp only at g3 g4
    subst g3 g4;obtain ⟨u, z, g5, g6, q4⟩ := aCK (w := w) hs hl q3;exact .pure R (by simp [execOp, ho, hx, Instr.field, Go.asAgg, a1O, SX.run_underlying g1, g2, g5, Sem.run, Pure.pure]) g6 q4
   ·cases hp
  ·cases hp
 ·cases q3
theorem at_inv {b off es len : Nat} {i : V} {k : V -> AL} (q : run (at' b off es len i k) h nx lg = some r) : ∃ kd j, i = .int kd (.ofNat j) /\ j < len /\ run (k (.ptr b (off + j * es))) h nx lg = some r := by
 obtain ⟨j, hj, q1⟩ := bR q
 obtain ⟨hlt, q2⟩ := dU q1
 obtain ⟨kd, rfl⟩ := wB hj
 rw [a1u] at hlt
 exact ⟨kd, j, rfl, hlt, q2⟩
theorem nY {b off len cap : Nat} {x : Value} (h : tv ρ (.sl b off len cap) = some x) : ∃ y, ρ b = some y /\ x = .slice (some ⟨y.1, off, none⟩) len cap := by
 simp only [tv, a1J] at h
 obtain ⟨y, h1, rfl⟩ := h; exact ⟨y, h1, rfl⟩
theorem nB {b off len es : Nat} {x : Value} (h : tv ρ (.so b off len es) = some x) : ∃ y, ρ b = some y /\ x = .slice (some ⟨y.1, off, none⟩) len (y.2 - off / es) := by
 simp only [tv, a1J] at h
 obtain ⟨y, h1, rfl⟩ := h; exact ⟨y, h1, rfl⟩
theorem aCh {t el : Nat} (hh : elOf P t = some el) : P.underlying t = some (.slice el) := by
 unfold elOf at hh
 split at hh
 ·rename_i u hu; cases hh; exact dY hu
 ·cases hh
theorem arOf_eq {t : Nat} {q : Nat × Nat} (hh : arOf P t = some q) : P.underlying t = some (.array q.1 q.2) := by
 unfold arOf at hh
 split at hh
 ·rename_i m u hu; cases hh; exact dY hu
 ·cases hh
theorem ixOf_eq {t : Nat} {q : Nat × Option Nat} (hh : ixOf P t = some q) : ∃ el i, P.info? el = some i /\ i.size = q.1 /\ (q.2 = none /\ P.underlying t = some (.slice el) \/ ∃ m, q.2 = some m /\ P.underlying t = some (.array m el)) := by
 unfold ixOf at hh
 split at hh
 ·rename_i el hu;split at hh
  ·rename_i es hs; cases hh
   obtain ⟨i, h1, h2⟩ := sL hs;exact ⟨el, i, h1, h2, .inl ⟨rfl, dY hu⟩⟩
  ·cases hh
 ·rename_i m el hu;split at hh
  ·rename_i es hs; cases hh
   obtain ⟨i, h1, h2⟩ := sL hs;exact ⟨el, i, h1, h2, .inr ⟨m, rfl, dY hu⟩⟩
  ·cases hh
 ·cases hh
theorem s_idxA {t : Nat} {x ix : Operand} (ho : o.op = .indexAddr t x ix) (he : cC ρ e n a.tmps) (R : Rel g ρ h nx w) (q : run (uX t x ix P ex e kv kp kd) h nx lg = some r) : OkV P o a w g ρ r kv := by
 obtain ⟨v, i, h1, h2, q1⟩ := rE q
 obtain ⟨p, hp, q2⟩ := bR q1
 obtain ⟨el, inf, g1, g2, g3⟩ := ixOf_eq hp
 have hsz := SX.run_sizeOf g1 w
 have hv := dD he h1
 have hi := dD he h2
 have fin : ∀ (y : Nat × Nat) (b off len cap : Nat), ρ b = some y -> P.underlying t = some (.slice el) -> a.eval x = .slice (some ⟨y.1, off, none⟩) len cap -> run (at' b off p.1 len i kv) h nx lg = some r -> OkV P o a w g ρ r kv := by
  intro y b off len cap hb hu hx q3;obtain ⟨kd', j, rfl, hj, q4⟩ := at_inv q3;have hj' := oZ hi;refine .pure (x := .pointer (some ⟨y.1, off + j * p.1, none⟩)) R ?_ (vV (κ := y.2) hb) q4;have h1 : (0 : Int) <= (j : Int) /\ (j : Int) < (len : Int) := by omega
  simp [execOp, ho, hx, hj', Instr.indexAt, asIntOf, a1O, SX.run_underlying hu, Sem.run, Pure.pure, hsz, g2, nK, hj]
 rcases g3 with ⟨g3, hu⟩ | ⟨m, g3, hu⟩
 ·rw [g3] at q2;rcases qW q2 with ⟨b, off, len, cap, rfl, q3⟩ | ⟨b, off, len, es, rfl, q3⟩ | ⟨_, q3⟩ | q3
  ·obtain ⟨y, hb, hx⟩ := nY hv;exact fin y b off len _ hb hu hx q3
  ·obtain ⟨y, hb, hx⟩ := nB hv;exact fin y b off len _ hb hu hx q3
  ·cases q3
  ·cases q3
 ·rw [g3] at q2;obtain ⟨b, off, rfl, q3⟩ := wL (v := v) (f := fun b off => at' b off p.1 m i kv) q2
  obtain ⟨y, hb, hx⟩ := lK hv;obtain ⟨kd', j, rfl, hj, q4⟩ := at_inv q3;have hj' := oZ hi;refine .pure (x := .pointer (some ⟨y.1, off + j * p.1, none⟩)) R ?_ (vV (κ := y.2) hb) q4;have h1 : (0 : Int) <= (j : Int) /\ (j : Int) < (m : Int) := by omega
  simp [execOp, ho, hx, hj', Instr.indexAt, Instr.sureAddr, asIntOf, a1O, SX.run_underlying hu, Sem.run, Pure.pure, hsz, g2, nK, hj]
mutual
theorem uF (ρ : Rho) : ∀ {v : V} {c : Value}, gv v = some c -> tv ρ v = some c
 | .int _ _, _, q => by cases q; rfl
 | .bool _, _, q => by cases q; rfl
 | .str _, _, q => by cases q; rfl
 | .ptr _ _, _, q => by cases q
 | .nilp, _, q => by cases q; rfl
 | .sl _ _ _ _, _, q => by cases q
 | .so _ _ _ _, _, q => by cases q
 | .nils, _, q => by cases q; rfl
 | .map _, _, q => by cases q
 | .nilm, _, q => by cases q; rfl
 | .fn _ _ _, _, q => by cases q
 | .yld _, _, q => by cases q
 | .nilf, _, q => by cases q; rfl
 | .iface t v, c, q => by
  simp only [gv] at q;cases hq : gv v with
  | none => rw [hq] at q; cases q
  | some x => rw [hq] at q; cases q; simp only [tv, uF ρ hq]
 | .nili, _, q => by cases q; rfl
 | .agg cs, c, q => by
  simp only [gv] at q;cases hc : iA cs with
  | false => rw [hc] at q; cases q
  | true =>
   rw [hc] at q;simp only at q
   cases hq : gvs cs with
   | none => rw [hq] at q; cases q
   | some x => rw [hq] at q; cases q; simp only [tv, hc, aBl ρ hq]
 | .tup cs, c, q => by
  simp only [gv] at q;cases hq : gvs cs with
  | none => rw [hq] at q; cases q
  | some x => rw [hq] at q; cases q; simp only [tv, aBl ρ hq]
theorem aBl (ρ : Rho) : ∀ {l : List V} {c : List Value}, gvs l = some c -> tvs ρ l = some c
 | [], _, q => by cases q; rfl
 | v :: l, c, q => by
  simp only [gvs] at q;cases hq : gv v with
  | none => rw [hq] at q; cases q
  | some x =>
   rw [hq] at q;simp only at q
   cases h2 : gvs l with
   | none => rw [h2] at q; cases q
   | some y => rw [h2] at q; cases q; exact eT.2 ⟨x, y, uF ρ hq, aBl ρ h2, rfl⟩
end
theorem aA0 {α : Type} : ∀ (m : Sem α) {x : α}, zG P m = some x -> m.run P w = .ok x w
 | .pure a, x, q => by cases q; rfl
 | .program k, x, q => aA0 (k P) q
 | .mark _ k, x, q => aA0 k q
 | .load _ _ _, _, q => by cases q
 | .store _ _ _ _, _, q => by cases q
 | .new _ _, _, q => by cases q
 | .shape _ _, _, q => by cases q
 | .freeze _ _ _, _, q => by cases q
 | .frozen _ _, _, q => by cases q
 | .getObj _ _, _, q => by cases q
 | .setObj _ _ _, _, q => by cases q
 | .choose _ _, _, q => by cases q
 | .sys _ _, _, q => by cases q
 | .halt _, _, q => by cases q
theorem aDI {m : Sem Value} {k : V -> AL} (q : run (gen P m k) h nx lg = some r) : ∃ v x, m.run P w = .ok x w /\ tv ρ v = some x /\ run (k v) h nx lg = some r := by
 obtain ⟨x, h1, q1⟩ := bR q
 obtain ⟨v, h2, q2⟩ := bR q1
 exact ⟨v, x, aA0 m h1, uN ρ x h2, q2⟩
theorem aCd {m : Value -> Sem Value} {v : V} {x : Value} {k : V -> AL} (hv : tv ρ v = some x) (q : run (gen1 P m v k) h nx lg = some r) : ∃ u y, (m x).run P w = .ok y w /\ tv ρ u = some y /\ run (k u) h nx lg = some r := by
 obtain ⟨c, h1, q1⟩ := bR q
 have := (uF ρ h1).symm.trans hv
 cases this
 exact aDI q1
theorem aED {m : Value -> Value -> Sem Value} {v v' : V} {x x' : Value} {k : V -> AL} (hv : tv ρ v = some x) (hv' : tv ρ v' = some x') (q : run (gen2 P m v v' k) h nx lg = some r) : ∃ u y, (m x x').run P w = .ok y w /\ tv ρ u = some y /\ run (k u) h nx lg = some r := by
 obtain ⟨c, h1, q1⟩ := bR q
 obtain ⟨c', h2, q2⟩ := bR q1
 have := (uF ρ h1).symm.trans hv
 cases this
 have := (uF ρ h2).symm.trans hv'
 cases this
 exact aDI q2
theorem s_idx {t : Nat} {x ix : Operand} (ho : o.op = .index t x ix) (he : cC ρ e n a.tmps) (R : Rel g ρ h nx w) (q : run (hIdx t x ix P ex e kv kp kd) h nx lg = some r) : OkV P o a w g ρ r kv := by
 obtain ⟨v, i, h1, h2, q1⟩ := rE q
 have hv := dD he h1
 have hi := dD he h2
 rcases aCZ q1 with ⟨cs, rfl, q2⟩ | q2
 ·obtain ⟨p, hp, q3⟩ := bR q2;obtain ⟨es, hes, q4⟩ := bR q3;obtain ⟨s, hs, q5⟩ := bR q4;obtain ⟨j, hj, q6⟩ := bR q5;obtain ⟨hlt, q7⟩ := dU q6;obtain ⟨kd', rfl⟩ := wB hj;have hj' := oZ hi;obtain ⟨l, hl, hx⟩ := xZ hv;obtain ⟨u, z, g5, g6, q8⟩ := aCK (w := w) hs hl q7;rw [a1u] at hlt;have g5' : (part p.2 ⟨l⟩ (j * es)).run P w = .ok z w := g5;exact .pure R (by simp [execOp, ho, hx, hj', Instr.index, asIntOf, a1O, SX.run_underlying (arOf_eq hp), xI hes w, hlt, g5', Sem.run, Pure.pure]) g6 q8
 ·obtain ⟨u, y, g1, g2, q3⟩ := aED (w := w) hv hi q2;exact .pure R (by simp [execOp, ho, a1O, g1, Sem.run, Pure.pure]) g2 q3
theorem s_un {op : UnOp} {t : Nat} {x : Operand} (ho : o.op = .unOp op t x) (he : cC ρ e n a.tmps) (R : Rel g ρ h nx w) (q : run (hUn op t x P ex e kv kp kd) h nx lg = some r) : OkV P o a w g ρ r kv := by
 obtain ⟨v, h1, q1⟩ := fT q
 have hv := dD he h1
 have gen : run (gen1 P (Op.unary op) v kv) h nx lg = some r -> OkV P o a w g ρ r kv := fun q2 => by
  obtain ⟨u, y, g1, g2, q3⟩ := aCd (w := w) hv q2;exact .pure R (by simp [execOp, ho, a1O, g1, Sem.run, Pure.pure]) g2 q3
 cases op with
 | not =>
  obtain ⟨b, rfl, q2⟩ := aCc (v := v) (f := fun b => kv (.bool (Bool.not b))) q1
  have hb := aD9 hv;exact .pure (x := .bool (!b)) R (by simp [execOp, ho, hb, Op.unary, a1O, Sem.run, Pure.pure]) rfl q2
 | neg => exact gen q1
 | xor => exact gen q1
 | plus => exact gen q1
theorem s_conv {s t : Nat} {x : Operand} (ho : o.op = .convert s t x) (he : cC ρ e n a.tmps) (R : Rel g ρ h nx w) (q : run (uU s t x P ex e kv kp kd) h nx lg = some r) : OkV P o a w g ρ r kv := by
 obtain ⟨v, h1, q1⟩ := fT q
 obtain ⟨u, y, g1, g2, q3⟩ := aCd (w := w) (dD he h1) q1
 exact .pure R (by simp [execOp, ho, a1O, g1, Sem.run, Pure.pure]) g2 q3
end
end
open RowKit (Below)
noncomputable section
section
variable {P : Program} {o : Oper} {a : Act} {w : World} {g : G} {ρ : Rho} {r : O × S} {kv : KV} {kp : List PE -> AL} {kd : Df -> AL} {e : Tr V} {n : Nat} {h : Tr Blk} {nx : Nat} {lg : List Fp} {ex : Ex}
theorem aAu {i : Int} {k : Int -> AL} (q : run (inR i k) h nx lg = some r) : -9223372036854775808 <= i /\ i <= 9223372036854775807 /\ run (k i) h nx lg = some r := by
 cases i with
 | ofNat m =>
  obtain ⟨h1, q1⟩ := dU (b := Nat.blt m OPEN) (p := k (.ofNat m)) q;rw [a1u] at h1;have : m < 9223372036854775808 := h1;exact ⟨by show _ <= (m : Int); omega, by show (m : Int) <= _; omega, q1⟩
 | negSucc m =>
  obtain ⟨h1, q1⟩ := dU (b := Nat.blt m OPEN) (p := k (.negSucc m)) q;rw [a1u] at h1;have : m < 9223372036854775808 := h1;exact ⟨by rw [Int.negSucc_eq]; omega, by rw [Int.negSucc_eq]; omega, q1⟩
theorem aEj (a b : Nat) : Nat.beq a b = decide (a = b) := by
 rw [a0l]; simp
theorem yT (i j : Int) : eqI i j = decide (i = j) := by
 cases i <;> cases j <;> simp only [eqI, aEj] <;> rw [a0l] <;> simp <;> omega
theorem blt_dec (a b : Nat) : Nat.blt a b = decide (a < b) := by
 rw [a0l, a1u]; simp
theorem tC (i j : Int) : ltI i j = decide (i < j) := by
 cases i <;> cases j <;> simp only [ltI, blt_dec] <;> rw [a0l] <;> simp <;> omega
theorem yF {op : BinOp} {T : Nat} {x y : Operand} {U : Nat} {i j : Int} {v : Value} (ho : o.op = .binOp op T x y U) (hx : a.eval x = .int .i64 i) (hy : a.eval y = .int .i64 j)
  (hh : (binOp op T (.int .i64 i) (.int .i64 j)).run P w = .ok v w) : (execOp a.eval o).run P w = .ok (.value v) w := by
 have h1 : (eqGuard op T x y (.int .i64 i) (.int .i64 j)).run P w = .ok () w := by cases op <;> simp [eqGuard, Sem.run, Pure.pure]
 simp [execOp, ho, hx, hy, a1O, h1, hh, Sem.run, Pure.pure]
theorem s_binI {op : BinOp} {T : Nat} {x y : Operand} {U : Nat} {i j : Int} {d : AL} (ho : o.op = .binOp op T x y U) (hx : a.eval x = .int .i64 i) (hy : a.eval y = .int .i64 j) (R : Rel g ρ h nx w)
  (q : run (binI op i j kv d) h nx lg = some r) : OkV P o a w g ρ r kv \/ run d h nx lg = some r := by
 have cmp : ∀ (b : Bool), (binOp op T (.int .i64 i) (.int .i64 j)).run P w = .ok (.bool b) w -> run (kv (.bool b)) h nx lg = some r -> OkV P o a w g ρ r kv \/ run d h nx lg = some r :=
  fun b h1 q => .inl (.pure R (yF ho hx hy h1) rfl q)
 cases op with
 | add => obtain ⟨g1, g2, q1⟩ := aAu (k := fun n => kv (.int .i64 n)) q; exact .inl (.pure R (yF ho hx hy (by simp [binOp, Op.intArith, Sem.run, Pure.pure, SX.wrap64_id g1 g2])) rfl q1)
 | sub => obtain ⟨g1, g2, q1⟩ := aAu (k := fun n => kv (.int .i64 n)) q; exact .inl (.pure R (yF ho hx hy (by simp [binOp, Op.intArith, Sem.run, Pure.pure, SX.wrap64_id g1 g2])) rfl q1)
 | mul => obtain ⟨g1, g2, q1⟩ := aAu (k := fun n => kv (.int .i64 n)) q; exact .inl (.pure R (yF ho hx hy (by simp [binOp, Op.intArith, Sem.run, Pure.pure, SX.wrap64_id g1 g2])) rfl q1)
 | eql => exact cmp (eqI i j) (by
    have : (i == j) = decide (i = j) := by rw [a0l]; simp
    simp [binOp, Op.intCmp, Sem.run, Pure.pure, yT, this]) q
 | neq => exact cmp (Bool.not (eqI i j)) (by
    have : (i == j) = decide (i = j) := by rw [a0l]; simp
    simp [binOp, Op.intCmp, Sem.run, Pure.pure, yT, bne, this]) q
 | lss => exact cmp (ltI i j) (by simp [binOp, Op.intCmp, Sem.run, Pure.pure, tC]) q
 | gtr => exact cmp (ltI j i) (by simp [binOp, Op.intCmp, Sem.run, Pure.pure, tC]) q
 | leq => exact cmp (Bool.not (ltI j i)) (by
    have : decide (i <= j) = !decide (j < i) := by rw [a0l]; simp
    simp only [binOp, ne_eq, not_true_eq_false, if_false, Op.intCmp, Sem.run, Pure.pure, tC, this]) q
 | geq => exact cmp (Bool.not (ltI i j)) (by
    have : decide (i ≥ j) = !decide (i < j) := by rw [a0l]; simp
    simp only [binOp, ne_eq, not_true_eq_false, if_false, Op.intCmp, Sem.run, Pure.pure, tC, this]) q
 | quo => exact .inr q
 | rem => exact .inr q
 | and => exact .inr q
 | or => exact .inr q
 | xor => exact .inr q
 | shl => exact .inr q
 | shr => exact .inr q
 | andNot => exact .inr q
theorem s_eqK {op : BinOp} {T : Nat} {x y : Operand} {U : Nat} {b : Bool} (ho : o.op = .binOp op T x y U) (hg : (eqGuard op T x y (a.eval x) (a.eval y)).run P w = .ok () w)
  (h1 : op = .eql -> (binOp .eql T (a.eval x) (a.eval y)).run P w = .ok (.bool b) w) (h2 : op = .neq -> (binOp .neq T (a.eval x) (a.eval y)).run P w = .ok (.bool (!b)) w)
  (R : Rel g ρ h nx w) (q : run (eqK op b kv) h nx lg = some r) : OkV P o a w g ρ r kv := by
 cases op <;> first
  | (cases q; done)
  | skip
 ·exact .pure (x := .bool b) R (by simp [execOp, ho, a1O, hg, h1 rfl, Sem.run, Pure.pure]) rfl q
 ·exact .pure (x := .bool (!b)) R (by simp [execOp, ho, a1O, hg, h2 rfl, Sem.run, Pure.pure]) rfl q
theorem eqN1_inv {u v : V} {x y : Value} {b : Bool} (hu : tv ρ u = some x) (hv : tv ρ v = some y) (hq : eqN1 u v = some b) :
  ∃ p q : Option Addr, x = .pointer p /\ y = .pointer q /\ ((p = none /\ q.isSome = true /\ b = false) \/ (p.isSome = true /\ q = none /\ b = false) \/ ∃ c d : Addr, p = some c /\ q = some d /\ c.block = d.block /\ b = (c == d)) := by
 cases u <;> cases v <;> first
  | (cases hq; done)
  | skip
 ·obtain ⟨z, _, rfl⟩ := lK hu;obtain ⟨z', _, rfl⟩ := lK hv;rename_i b1 o1 b2 o2 z1 z2;simp only [eqN1] at hq;split at hq
  ·rename_i hb;have := a1v hb;subst this;have : z = z' := by rw [z1] at z2; exact a1L z2
   subst this;refine ⟨_, _, rfl, rfl, .inr (.inr ⟨_, _, rfl, rfl, rfl, ?_⟩)⟩;cases hq;rw [aEj, a0l]; simp
  ·cases hq
 ·obtain ⟨z, _, rfl⟩ := lK hu;cases hv;exact ⟨_, _, rfl, rfl, .inr (.inl ⟨rfl, rfl, by cases hq; rfl⟩)⟩
 ·obtain ⟨z, _, rfl⟩ := lK hv;cases hu;exact ⟨_, _, rfl, rfl, .inl ⟨rfl, rfl, by cases hq; rfl⟩⟩
theorem s_eqN {op : BinOp} {T : Nat} {x y : Operand} {U : Nat} {u v : V} {b : Bool} (ho : o.op = .binOp op T x y U) (hu : tv ρ u = some (a.eval x)) (hv : tv ρ v = some (a.eval y)) (hq : eqN P T u v = some b)
  (R : Rel g ρ h nx w) (q : run (eqK op b kv) h nx lg = some r) : OkV P o a w g ρ r kv := by
 obtain ⟨dd, ED⟩ : ∃ d, ∀ X Y, Op.equal T X Y = Op.equalIn (d + 1) T X Y := ⟨9999, fun _ _ => rfl⟩
 have fin : ∀ {X Y : Value}, a.eval x = X -> a.eval y = Y -> (eqGuard op T x y X Y).run P w = .ok () w -> (∀ z, (Op.equal T X Y).run P z = .ok b z) -> (binOp .eql T X Y = do pure (.bool (<- Op.equal T X Y))) -> (binOp .neq T X Y = do pure (.bool (!(<- Op.equal T X Y)))) -> OkV P o a w g ρ r kv :=
  fun {X Y} hX hY hg he h1 h2 => by
   refine s_eqK ho (by rw [hX, hY]; exact hg) (fun _ => ?_) (fun _ => ?_) R q
   ·rw [hX, hY, h1]; simp [a1O, he, Sem.run, Pure.pure]
   ·rw [hX, hY, h2]; simp [a1O, he, Sem.run, Pure.pure]
 unfold eqN at hq
 split at hq
 ·rename_i el hU;split at hq
  ·rename_i m hs;obtain ⟨p, p', hX, hY, hc⟩ := eqN1_inv hu hv hq;obtain ⟨i, hi, hi2⟩ := sL hs;have hsz : i.size ≠ 0 := by omega
   refine fin hX hY (by cases op <;> simp [eqGuard, Sem.run, Pure.pure]) (fun z => ?_) rfl rfl
   rcases hc with ⟨rfl, h1, rfl⟩ | ⟨h1, rfl, rfl⟩ | ⟨c, d, rfl, rfl, h1, rfl⟩
   ·cases p' with
    | none => cases h1
    | some c => simp [ED, Op.equalIn, a1O, SX.run_underlying (dY hU), Sem.run, Pure.pure]
   ·cases p with
    | none => cases h1
    | some c => simp [ED, Op.equalIn, a1O, SX.run_underlying (dY hU), Sem.run, Pure.pure]
   ·simp [ED, Op.equalIn, a1O, SX.run_underlying (dY hU), SX.run_sizeOf hi, hsz, sameAddr, h1, Sem.run, Pure.pure]
  ·cases hq
 ·rename_i el hU;have key : ∃ p q l1 c1 l2 c2, a.eval x = .slice p l1 c1 /\ a.eval y = .slice q l2 c2 /\ b = false /\ (p = none /\ q.isSome = true \/ p.isSome = true /\ q = none) := by
   generalize a.eval x = X at hu
   generalize a.eval y = Y at hv
   cases u <;> cases v <;> first
    | (cases hq; done)
    | (obtain ⟨z, _, rfl⟩ := nY hu; cases hv; exact ⟨_, _, _, _, _, _, rfl, rfl, by cases hq; rfl, .inr ⟨rfl, rfl⟩⟩)
    | (obtain ⟨z, _, rfl⟩ := nB hu; cases hv; exact ⟨_, _, _, _, _, _, rfl, rfl, by cases hq; rfl, .inr ⟨rfl, rfl⟩⟩)
    | (obtain ⟨z, _, rfl⟩ := nY hv; cases hu; exact ⟨_, _, _, _, _, _, rfl, rfl, by cases hq; rfl, .inl ⟨rfl, rfl⟩⟩)
    | (obtain ⟨z, _, rfl⟩ := nB hv; cases hu; exact ⟨_, _, _, _, _, _, rfl, rfl, by cases hq; rfl, .inl ⟨rfl, rfl⟩⟩)
  obtain ⟨p, p', l1, c1, l2, c2, hX, hY, rfl, hc⟩ := key;refine fin hX hY (by cases op <;> simp [eqGuard, Sem.run, Pure.pure]) (fun z => ?_) rfl rfl
  rcases hc with ⟨rfl, h1⟩ | ⟨h1, rfl⟩
  ·cases p' with
   | none => cases h1
   | some c => simp [ED, Op.equalIn, a1O, SX.run_underlying (dY hU), Sem.run, Pure.pure]
  ·cases p with
   | none => cases h1
   | some c => simp [ED, Op.equalIn, a1O, SX.run_underlying (dY hU), Sem.run, Pure.pure]
 ·rename_i k1 el hU;have key : ∃ p q, a.eval x = .map p /\ a.eval y = .map q /\ b = false /\ (p = none /\ q.isSome = true \/ p.isSome = true /\ q = none) := by
   generalize a.eval x = X at hu
   generalize a.eval y = Y at hv
   cases u <;> cases v <;> first
    | (cases hq; done)
    | (simp only [tv, a1J] at hu; obtain ⟨z, _, rfl⟩ := hu; cases hv; exact ⟨_, _, rfl, rfl, by cases hq; rfl, .inr ⟨rfl, rfl⟩⟩)
    | (simp only [tv, a1J] at hv; obtain ⟨z, _, rfl⟩ := hv; cases hu; exact ⟨_, _, rfl, rfl, by cases hq; rfl, .inl ⟨rfl, rfl⟩⟩)
  obtain ⟨p, p', hX, hY, rfl, hc⟩ := key;refine fin hX hY (by cases op <;> simp [eqGuard, Sem.run, Pure.pure]) (fun z => ?_) rfl rfl
  rcases hc with ⟨rfl, h1⟩ | ⟨h1, rfl⟩
  ·cases p' with
   | none => cases h1
   | some c => simp [ED, Op.equalIn, a1O, SX.run_underlying (dY hU), Sem.run, Pure.pure]
  ·cases p with
   | none => cases h1
   | some c => simp [ED, Op.equalIn, a1O, SX.run_underlying (dY hU), Sem.run, Pure.pure]
 ·rename_i p1 p2 p3 hU;have key : (∃ f c d, a.eval x = .func f c d /\ a.eval y = .nilFunc /\ b = false) \/ (∃ f c d, a.eval y = .func f c d /\ a.eval x = .nilFunc /\ b = false) := by
   generalize a.eval x = X at hu
   generalize a.eval y = Y at hv
   have fn : ∀ {f a c Z}, tv ρ (.fn f a c) = some Z -> ∃ p q, Z = .func (.func f) p q := fun {f a c Z} hz => by
    simp only [tv] at hz;cases ha : tvs ρ a with
    | none => rw [ha] at hz; cases hz
    | some l => rw [ha] at hz; simp only at hz; cases hc : tvs ρ c with
     | none => rw [hc] at hz; cases hz
     | some m => rw [hc] at hz; cases hz; exact ⟨_, _, rfl⟩
   cases u <;> cases v <;> first
    | (cases hq; done)
    | (obtain ⟨p, q, rfl⟩ := fn hu; cases hv; exact .inl ⟨_, _, _, rfl, rfl, by cases hq; rfl⟩)
    | (obtain ⟨p, q, rfl⟩ := fn hv; cases hu; exact .inr ⟨_, _, _, rfl, rfl, by cases hq; rfl⟩)
  rcases key with ⟨f, c, d, hX, hY, rfl⟩ | ⟨f, c, d, hY, hX, rfl⟩
  ·exact fin hX hY (by cases op <;> simp [eqGuard, Sem.run, Pure.pure]) (fun z => by simp [ED, Op.equalIn, a1O, SX.run_underlying (dY hU), Sem.run, Pure.pure]) rfl rfl
  ·exact fin hX hY (by cases op <;> simp [eqGuard, Sem.run, Pure.pure]) (fun z => by simp [ED, Op.equalIn, a1O, SX.run_underlying (dY hU), Sem.run, Pure.pure]) rfl rfl
 ·rename_i ms hU;have key : (∃ t z, a.eval x = .iface t z /\ a.eval y = .nilIface /\ b = false) \/ (∃ t z, a.eval y = .iface t z /\ a.eval x = .nilIface /\ b = false) := by
   generalize a.eval x = X at hu
   generalize a.eval y = Y at hv
   have fn : ∀ {t v Z}, tv ρ (.iface t v) = some Z -> ∃ z, Z = .iface t z := fun {t v Z} hz => by
    simp only [tv] at hz;cases ha : tv ρ v with
    | none => rw [ha] at hz; cases hz
    | some l => rw [ha] at hz; cases hz; exact ⟨_, rfl⟩
   cases u <;> cases v <;> first
    | (cases hq; done)
    | (obtain ⟨p, rfl⟩ := fn hu; cases hv; exact .inl ⟨_, _, rfl, rfl, by cases hq; rfl⟩)
    | (obtain ⟨p, rfl⟩ := fn hv; cases hu; exact .inr ⟨_, _, rfl, rfl, by cases hq; rfl⟩)
  rcases key with ⟨f, c, hX, hY, rfl⟩ | ⟨f, c, hY, hX, rfl⟩
  ·exact fin hX hY (by cases op <;> simp [eqGuard, Sem.run, Pure.pure]) (fun z => by simp [ED, Op.equalIn, a1O, SX.run_underlying (dY hU), Sem.run, Pure.pure]) rfl rfl
  ·exact fin hX hY (by cases op <;> simp [eqGuard, Sem.run, Pure.pure]) (fun z => by simp [ED, Op.equalIn, a1O, SX.run_underlying (dY hU), Sem.run, Pure.pure]) rfl rfl
 ·cases hq
theorem s_binG {op : BinOp} {T : Nat} {x y : Operand} {U : Nat} {u v : V} (ho : o.op = .binOp op T x y U) (hu : tv ρ u = some (a.eval x)) (hv : tv ρ v = some (a.eval y)) (R : Rel g ρ h nx w)
  (q : run (binG P op T x y u v kv) h nx lg = some r) : OkV P o a w g ρ r kv := by
 rcases kR q with ⟨_, q1⟩ | ⟨b, hb, q1⟩
 ·obtain ⟨t, z, g1, g2, q2⟩ := aED (w := w) hu hv q1;refine .pure R ?_ g2 q2;simp only [execOp, ho];rw [a1O, g1]; rfl
 ·exact s_eqN ho hu hv hb R q1
theorem s_bin {op : BinOp} {T : Nat} {x y : Operand} {U : Nat} (ho : o.op = .binOp op T x y U) (he : cC ρ e n a.tmps) (R : Rel g ρ h nx w) (q : run (hBin op T x y P ex e kv kp kd) h nx lg = some r) : OkV P o a w g ρ r kv := by
 obtain ⟨u, v, h1, h2, q1⟩ := rE q
 have hu := dD he h1
 have hv := dD he h2
 have G : run (binG P op T x y u v kv) h nx lg = some r -> OkV P o a w g ρ r kv := fun q => s_binG ho hu hv R q
 rcases aDD q1 with ⟨ku, i, rfl, q2⟩ | q2
 ·rcases aDD q2 with ⟨kv', j, rfl, q3⟩ | q3
  ·rcases gV q3 with ⟨e1, q4⟩ | ⟨_, q4⟩
   ·rcases gV q4 with ⟨e2, q5⟩ | ⟨_, q5⟩
    ·have k1 : ku = .i64 := by cases ku <;> first | rfl | cases e1
     have k2 : kv' = .i64 := by cases kv' <;> first | rfl | cases e2
     subst k1 k2;rcases s_binI ho (oZ hu) (oZ hv) R q5 with h | h
     ·exact h
     ·exact G h
    ·exact G q5
   ·exact G q4
  ·exact G q3
 ·exact G q2
end
end
open RowKit (Below)
noncomputable section
section
variable {P : Program} {o : Oper} {a : Act} {w : World} {g : G} {ρ : Rho} {r : O × S} {kv : KV} {kp : List PE -> AL} {kd : Df -> AL} {e : Tr V} {n : Nat} {h : Tr Blk} {nx : Nat} {lg : List Fp} {ex : Ex}
theorem s_ta {x : Operand} {xt T : Nat} {ok : Bool} (ho : o.op = .typeAssert x xt T ok) (he : cC ρ e n a.tmps) (R : Rel g ρ h nx w) (q : run (hTa x xt T ok P ex e kv kp kd) h nx lg = some r) : OkV P o a w g ρ r kv := by
 obtain ⟨v, h1, q1⟩ := fT q
 obtain ⟨hn, q2⟩ := dU q1
 obtain ⟨d, hd, hni⟩ := aEI hn
 have hU := SX.run_underlying hd w
 have hv := dD he h1
 have miss : ∀ {X : Value}, a.eval x = X -> (X = .nilIface \/ ∃ t z, X = .iface t z /\ t ≠ T) -> run (dH ok (oo (zer P T) fun z => kv (.tup [z, .bool false]))) h nx lg = some r -> OkV P o a w g ρ r kv := by
  intro X hX hc q3;obtain ⟨hok, q4⟩ := dU q3;obtain ⟨z, hz, q5⟩ := bR q4;obtain ⟨zv, h2, h3⟩ := kT (ρ := ρ) hz w;subst hok;refine .pure (x := .tuple #[zv, .bool false]) R ?_ (by simp only [tv, tvs, h3]) q5
  rcases hc with rfl | ⟨t, z', rfl, hne⟩
  ·cases d <;> first
    | exact absurd rfl (hni _)
    | simp [execOp, ho, hX, Instr.typeAssert, a1O, hU, h2, Sem.run, Pure.pure]
  ·cases d <;> first
    | exact absurd rfl (hni _)
    | simp [execOp, ho, hX, Instr.typeAssert, a1O, hU, h2, hne, Sem.run, Pure.pure]
 rcases aBQ q2 with ⟨t, u, rfl, q3⟩ | ⟨rfl, q3⟩
 ·simp only [tv] at hv;cases hu : tv ρ u with
  | none => rw [hu] at hv; cases hv
  | some z =>
   rw [hu] at hv;have hX : a.eval x = .iface t z := (a1L hv).symm;rcases gV q3 with ⟨ht, q4⟩ | ⟨ht, q4⟩
   ·have := a1v ht;subst this;cases ok with
    | true =>
     refine .pure (x := .tuple #[z, .bool true]) R ?_ (by simp only [okT, tv, tvs, hu]) q4
     cases d <;> first
      | exact absurd rfl (hni _)
      | simp [execOp, ho, hX, Instr.typeAssert, a1O, hU, Sem.run, Pure.pure]
    | false =>
     refine .pure (x := z) R ?_ (by simp only [okT, hu]) q4
     cases d <;> first
      | exact absurd rfl (hni _)
      | simp [execOp, ho, hX, Instr.typeAssert, a1O, hU, Sem.run, Pure.pure]
   ·exact miss hX (.inr ⟨t, z, rfl, fun e => by subst e; simp at ht⟩) q4
 ·exact miss (a1L hv).symm (.inl rfl) q3
theorem aB1 {off : Nat} : ∀ (l : List Value) (k : Nat) (c : Array Value), off + k + l.length <= c.size -> (l.zipIdx k).foldl (fun cs (x : Value × Nat) => cs.setIfInBounds (off + x.2) x.1) c = ⟨c.toList.take (off + k) ++ l ++ c.toList.drop (off + k + l.length)⟩
 | [], k, c, _ => by apply Array.ext'; simp
 | v :: l, k, c, hk => by
  rw [List.zipIdx_cons, List.foldl_cons, aB1 l (k + 1) _ (by simp at hk ⊢; omega)];apply Array.ext'
  have h1 : (c.setIfInBounds (off + k) v).toList = c.toList.set (off + k) v := by simp
  simp only [h1];have := aBD (c := c.toList) (l := l) (off := off + k) (v := v) (by simpa using hk)
  rw [show off + (k + 1) = off + k + 1 from by omega];exact this
theorem aFv {pc : Nat -> Option (Nat × Nat)} {i : Nat} {x : Operand} {ps : List (Nat × Operand)} {vs c c' : List V} (hf : rW pc ((i, x) :: ps) vs c = some c') :
  ∃ v us q u c1, vs = v :: us /\ pc i = some q /\ vc v = some u /\ u.length = q.2 /\ pl u q.1 c = some c1 /\ rW pc ps us c1 = some c' := by
 cases vs with
 | nil => cases hf
 | cons v us =>
  have hf' : (Option.rec none (fun q => Option.rec none (fun u => Bool.rec none (Option.rec none (fun c' => rW pc ps us c') (pl u q.1 c)) (Nat.beq (ln u 0) q.2)) (vc v)) (pc i) : Option (List V)) = some c' := hf
  cases h1 : pc i with
  | none => rw [h1] at hf'; cases hf'
  | some q =>
   rw [h1] at hf';cases h2 : vc v with
   | none => simp only [h2] at hf'; cases hf'
   | some u =>
    simp only [h2] at hf';cases h3 : Nat.beq (ln u 0) q.2 with
    | false => simp only [h3] at hf'; cases hf'
    | true =>
     simp only [h3] at hf';cases h4 : pl u q.1 c with
     | none => simp only [h4] at hf'; cases hf'
     | some c1 =>
      simp only [h4] at hf';have h5 := a1v h3;rw [ln0] at h5;exact ⟨v, us, q, u, c1, rfl, rfl, h2, h5, h4, hf'⟩
theorem qH {pc place : Nat -> Option (Nat × Nat)} (hp : ∀ i q, pc i = some q -> place i = some q) : ∀ {ps : List (Nat × Operand)} {vs c c' : List V} {l : List Value}, rW pc ps vs c = some c' -> tvs ρ vs = some ((prt ps).map a.eval) -> cells ρ c l ->
  ∃ l', Instr.fill place ⟨l⟩ (ps.map fun p => (p.1, a.eval p.2)) = some ⟨l'⟩ /\ cells ρ c' l'
 | [], vs, c, c', l, hf, _, hc => by cases hf; exact ⟨l, rfl, hc⟩
 | (i, x) :: ps, vs, c, c', l, hf, hv, hc => by
  obtain ⟨v, us, q, u, c1, rfl, h1, h2, h3, h4, h5⟩ := aFv hf;obtain ⟨y, ys, g1, g2, g3⟩ := eT.1 hv;simp only [prt, a1a, List.cons.injEq] at g3;obtain ⟨rfl, rfl⟩ := g3;obtain ⟨h6, rfl⟩ := (tA u q.1 c c1).1 h4;have hcc := xF h2 g1;have hl1 := hcc.len;have hl2 := hc.len;have hnew : cells ρ (c.take q.1 ++ u ++ c.drop (q.1 + u.length)) (l.take q.1 ++ (a.eval x).cells.toList ++ l.drop (q.1 + (a.eval x).cells.toList.length)) := by
   rw [hl1]; exact ((hc.take _).app hcc).app (hc.drop _)
  obtain ⟨l', h7, h8⟩ := qH hp h5 g2 hnew;refine ⟨l', ?_, h8⟩;have hsz : (a.eval x).cells.size = q.2 := by rw [<- a0g]; omega
  simp only [a1a, Instr.fill, hp i q h1];rw [a1U (by simp [hsz]; omega), <- a0a, Array.toList_zipIdx, aB1 _ 0 ⟨l⟩ (by simp [hsz]; omega)];exact h7
theorem plcOf_eq {t : Nat} {pc : Nat -> Option (Nat × Nat)} (hp : plcOf P t = some pc) : (∃ fs, P.underlying t = some (.struct fs) /\ szs P fs.toList = true /\ pc = plc P fs.toList) \/ (∃ m el es, P.underlying t = some (.array m el) /\ szT P el = some es /\ pc = fun i => some (i * es, es)) := by
 unfold plcOf at hp
 split at hp
 ·rename_i fs hu;split at hp
  ·rename_i hs; cases hp; exact .inl ⟨fs, dY hu, hs, rfl⟩
  ·cases hp
 ·rename_i m el hu;split at hp
  ·rename_i es hs; cases hp; exact .inr ⟨m, el, es, dY hu, hs, rfl⟩
  ·cases hp
 ·cases hp
theorem aB5 : ∀ {fs : List Field}, szs P fs = true -> ∃ l : List (Nat × Nat), (fs.mapM (m := Sem) fun f => do Pure.pure (f.offset, <- sizeOf f.type)).run P w = .ok l w /\ ∀ i, l[i]? = plc P fs i
 | [], _ => ⟨[], by simp [Sem.run, Pure.pure], fun i => by simp [plc, lG]⟩
 | f :: fs, hs => by
  simp only [szs] at hs;cases h1 : szT P f.type with
  | none => rw [h1] at hs; cases hs
  | some m =>
   rw [h1] at hs;obtain ⟨l, h2, h3⟩ := aB5 (fs := fs) hs;refine ⟨(f.offset, m) :: l, ?_, fun i => ?_⟩
   ·simp only [List.mapM_cons, a1O, xI h1 w, a1N];simp only [Pure.pure] at h2;simp [a1O, Sem.run, Pure.pure, h2]
   ·cases i with
    | zero => simp [plc, lG, h1]
    | succ i => rw [a0E, h3 i]; simp [plc, lG]
theorem s_build {t : Nat} {ps : Array (Nat × Operand)} (ho : o.op = .build t ps) (he : cC ρ e n a.tmps) (R : Rel g ρ h nx w) (q : run (wA t ps P ex e kv kp kd) h nx lg = some r) : OkV P o a w g ρ r kv := by
 obtain ⟨vs, h1, q1⟩ := kP q
 obtain ⟨z, hz, q2⟩ := bR q1
 obtain ⟨pc, hp, q3⟩ := bR q2
 obtain ⟨zc, hzc, q4⟩ := bR q3
 obtain ⟨c', hf, q5⟩ := bR q4
 obtain ⟨zv, g1, g2⟩ := kT (ρ := ρ) hz w
 have hvs := jG he h1
 have : z = .agg zc := by
  cases z <;> first
   | (cases hzc; done)
   | (cases hzc; rfl)
 subst this
 obtain ⟨l, hl, rfl⟩ := xZ g2
 have hmap : (ps.map fun (y : Nat × Operand) => (y.1, a.eval y.2)).toList = ps.toList.map fun p => (p.1, a.eval p.2) := by simp
 rcases plcOf_eq hp with ⟨fs, hu, hs, rfl⟩ | ⟨m, el, es, hu, hs, rfl⟩
 ·obtain ⟨pls, k1, k2⟩ := aB5 (w := w) hs;obtain ⟨l', h2, h3⟩ := qH (place := (pls.toArray[·]?)) (fun i q hq => by simp [k2, hq]) hf hvs hl
  refine .pure R ?_ (xY h3) q5;have hm : (fs.mapM (m := Sem) fun f => do Pure.pure (f.offset, <- sizeOf f.type)).run P w = .ok pls.toArray w := by
   rw [<- a0h (xs := fs), List.mapM_toArray];rw [map_eq_pure_bind, a1O, k1]; simp [Sem.run, Pure.pure]
  simp only [execOp, ho, a1O, Instr.build, g1, a1N, SX.run_underlying hu, hm, Value.cells];rw [hmap, h2];simp [Sem.run, Pure.pure]
 ·obtain ⟨l', h2, h3⟩ := qH (place := fun i => some (i * es, es)) (fun i q hq => hq) hf hvs hl
  refine .pure R ?_ (xY h3) q5;simp only [execOp, ho, a1O, Instr.build, g1, a1N, SX.run_underlying hu, xI hs w, Value.cells];rw [hmap, h2];simp [Sem.run, Pure.pure]
end
end
open RowKit (Below)
noncomputable section
section
variable {P : Program} {o : Oper} {a : Act} {w : World} {g : G} {ρ : Rho} {r : O × S} {kv : KV} {kp : List PE -> AL} {kd : Df -> AL} {e : Tr V} {n : Nat} {h : Tr Blk} {nx : Nat} {lg : List Fp} {ex : Ex}
structure RowT (P : Program) (ρ : Rho) (t el es : Nat) (z : List V) (i : TypeInfo) (zv : Value) : Prop where
 und : P.underlying t = some (.slice el)
 info : P.info? el = some i
 zero : i.zero = some zv
 size : i.size = es
 small : es <= 1048576
 bytes : i.bytes <= 1048576
 zc : cells ρ z zv.cells.toList
 zl : z.length = es
theorem and_true {a b : Bool} (h : Bool.and a b = true) : a = true /\ b = true := by cases a <;> cases b <;> first | exact ⟨rfl, rfl⟩ | cases h
theorem zC {t : Nat} {q : Nat × Nat × List V} (ρ : Rho) (hq : rQ P t = some q) : ∃ i zv, RowT P ρ t q.1 q.2.1 q.2.2 i zv := by
 unfold rQ at hq
 split at hq
 ·rename_i el hel;split at hq
  ·rename_i i hi;split at hq
   ·rename_i z hz;split at hq
    ·rename_i c hc;split at hq
     ·rename_i hb;cases hq;obtain ⟨b1, b2⟩ := and_true hb;obtain ⟨b2, b3⟩ := and_true b2;have b1 := a1v b1;rw [ln0] at b1;obtain ⟨i', zv, h1, h2, h3⟩ := zer_tv ρ hz;rw [rF hi] at h1; cases h1
      exact ⟨i, zv, aCh hel, rF hi, h2, rfl, a1x b2, a1x b3, xF hc h3, b1⟩
     ·cases hq
    ·cases hq
   ·cases hq
  ·cases hq
 ·cases hq
theorem zS {z : List V} {zv : Array Value} (hz : cells ρ z zv.toList) : ∀ k, cells ρ (rep z k) (madeCells zv (k * z.length)).toList
 | 0 => by
    rw [Nat.zero_mul]; have : (madeCells zv 0).toList = [] := by simp [madeCells]
    rw [this]; exact cells.nil
 | k + 1 => by
  have hl := hz.len;have e : (madeCells zv ((k + 1) * z.length)).toList = (madeCells zv (k * z.length)).toList ++ zv.toList := by
   rw [<- hl];apply List.ext_getElem
   ·simp [madeCells, a1s]
   ·intro i h1 h2;by_cases hi : i < k * zv.toList.length
    ·rw [List.getElem_append_left (by simpa [madeCells] using hi)];simp [madeCells]
    ·have hlt : i < (k + 1) * zv.toList.length := by simpa [madeCells] using h1
     rw [a1s, Nat.one_mul] at hlt;rw [List.getElem_append_right (by simp [madeCells] at hi ⊢; omega)];have hmod : i % zv.toList.length = i - k * zv.toList.length := by
      have h3 : i = (i - k * zv.toList.length) + zv.toList.length * k := by rw [Nat.mul_comm zv.toList.length k]; omega
      conv => lhs; rw [h3]
      rw [Nat.add_mul_mod_self_left, Nat.mod_eq_of_lt (by omega)]
     have hin : i - k * zv.toList.length < zv.toList.length := by omega
     have hmod' : i % zv.size = i - k * zv.size := by simpa using hmod
     have hin' : i - k * zv.size < zv.size := by simpa using hin
     simp [madeCells, hmod', getElem!_pos zv (i - k * zv.size) hin']
  have e2 : rep z (k + 1) = rep z k ++ z := by rw [aAT, aAT, List.replicate_succ', List.flatten_concat]
  rw [e, e2];exact (zS hz k).app hz
theorem oQ {b off len cap x κ : Nat} (h : ρ b = some (x, κ)) : tv ρ (.sl b off len cap) = some (.slice (some ⟨x, off, none⟩) len cap) := by simp [tv, h]
theorem s_buildS {t len : Nat} {ps : Array (Nat × Operand)} (ho : o.op = .buildSlice t len ps) (he : cC ρ e n a.tmps) (hi : r.2.nx <= g.hi) (R : Rel g ρ h nx w) (q : run (wS t len ps P ex e kv kp kd) h nx lg = some r) : OkV P o a w g ρ r kv := by
 obtain ⟨vs, h1, q1⟩ := kP q
 obtain ⟨p, hp, q2⟩ := bR q1
 obtain ⟨hb, q3⟩ := dU q2
 obtain ⟨c, hf, q4⟩ := bR q3
 obtain ⟨i, zv, RT⟩ := zC ρ hp
 have hb : len * p.2.1 <= 1048576 := a1x hb
 have hz := zS (ρ := ρ) RT.zc len
 rw [RT.zl] at hz
 obtain ⟨l', g1, g2⟩ := qH (place := fun i => some (i * p.2.1, p.2.1)) (fun i q hq => hq) hf (jG he h1) hz
 obtain ⟨b, ρ', h', nx', lg', g3, g4, g5, ⟨κ, g6⟩, q5⟩ := yA (P := P) R g2 hi q4
 refine ⟨.sl b 0 len len, .slice (some ⟨w.heap.size, 0, none⟩) len len, ρ', h', nx', lg', _, .inl ?_, g4, g5, oQ g6, q5⟩
 have hmap : (ps.map fun (y : Nat × Operand) => (y.1, a.eval y.2)).toList = ps.toList.map fun p => (p.1, a.eval p.2) := by simp
 have hr : (Instr.buildSlice t len (ps.map fun (y : Nat × Operand) => (y.1, a.eval y.2))).run P w = .ok (.slice (some ⟨w.heap.size, 0, none⟩) len len) (w.alloc (.cells ⟨l'⟩ p.1)) := by
  by_cases h0 : len * i.size = 0
  ·have e0 : (⟨(madeCells zv.cells (len * p.2.1)).toList⟩ : Array Value) = #[] := by rw [<- RT.size, h0]; simp [madeCells]
   rw [e0] at g1;rw [<- RT.size] at g1;have h7 : ¬ len * i.size > 2 ^ 24 := by rw [RT.size]; omega
   simp only [Instr.buildSlice, a1O, SX.run_underlying RT.und, SX.run_sizeOf RT.info, a1N, a1U h7, h0, if_true];have h8 : Array.range 0 = #[] := rfl;rw [hmap];simp [a1O, Sem.run, Pure.pure, g1, newRow, newObj, h8]
  ·rw [run_buildSlice (P := P) w t p.1 len _ ⟨l'⟩ i zv RT.und RT.info RT.zero (by rw [RT.size]; omega) h0 (by rw [hmap, RT.size]; exact g1)]
 simp only [execOp, ho, a1O]
 rw [hr]; simp [Sem.run, Pure.pure]
theorem s_mks {t : Nat} {x y : Operand} (ho : o.op = .makeSlice t x y) (he : cC ρ e n a.tmps) (hi : r.2.nx <= g.hi) (R : Rel g ρ h nx w) (q : run (hMks t x y P ex e kv kp kd) h nx lg = some r) : OkV P o a w g ρ r kv := by
 obtain ⟨u, v, h1, h2, q1⟩ := rE q
 obtain ⟨p, hp, q2⟩ := bR q1
 obtain ⟨l, hl, q3⟩ := bR q2
 obtain ⟨c, hc, q4⟩ := bR q3
 obtain ⟨hb, q5⟩ := dU q4
 obtain ⟨i, zv, RT⟩ := zC ρ hp
 obtain ⟨b1, b2⟩ := and_true hb
 have b1 : l <= c := a1x b1
 have b2 : c <= 1048576 := a1x b2
 obtain ⟨k1, rfl⟩ := wB hl
 obtain ⟨k2, rfl⟩ := wB hc
 have hx := oZ (dD he h1)
 have hy := oZ (dD he h2)
 have hz := zS (ρ := ρ) RT.zc c
 rw [RT.zl] at hz
 obtain ⟨b, ρ', h', nx', lg', g3, g4, g5, ⟨κ, g6⟩, q6⟩ := yA (P := P) R hz hi q5
 have hby : (i.bytes : Int) * (c : Int) <= 281474976710656 := by
  have h3 : i.bytes * c <= 1048576 * 1048576 := Nat.mul_le_mul RT.bytes b2;have h5 : ((i.bytes * c : Nat) : Int) <= 281474976710656 := by omega
  rwa [Int.natCast_mul] at h5
 have hr := run_make (P := P) w t p.1 i zv RT.und RT.info RT.zero k1 k2 (l : Int) (c : Int) (by omega) (by omega) hby (by omega)
 simp only [a0r, RT.size] at hr
 refine ⟨.sl b 0 l c, .slice (some ⟨w.heap.size, 0, none⟩) l c, ρ', h', nx', lg', _, .inl ?_, g4, g5, oQ g6, q6⟩
 have hx' : a.eval x = .int k1 (l : Int) := hx
 have hy' : a.eval y = .int k2 (c : Int) := hy
 simp [execOp, ho, hx', hy', a1O, hr, Sem.run, Pure.pure]
theorem wC {c : Call} {b : Builtin} {x : Value} {w' : World} (ho : o.op = .call c) (hc : c.callee = .builtin b) (h1 : ∀ (T : Array Bool), (builtin b c.argTypes o.type T (c.args.map a.eval)).run P w = .ok (.value x) w') :
  (execOp a.eval o).run P w = .ok (.value x) w' := by
 unfold execOp resolve
 rw [ho]
 simp only [hc]
 show ((Sem.pure _ : Sem Deferred).bind _).run P w = _
 exact h1 _
theorem argsL {c : Call} {vs : List Value} (h : c.args.toList.map a.eval = vs) : c.args.map a.eval = vs.toArray := by
 rw [<- h]; apply Array.ext'; rw [Array.toList_map]
theorem aGS {v : V} {x : Value} {m : Nat} (hv : tv ρ v = some x) (h : pT v = some m) : ∃ k, x = .int k (m : Int) := by
 obtain ⟨k, rfl⟩ := wB h
 exact ⟨k, oZ hv⟩
theorem s_len {c : Call} (ho : o.op = .call c) (hc : c.callee = .builtin .len) (he : cC ρ e n a.tmps) (R : Rel g ρ h nx w) (q : run (hLen c P ex e kv kp kd) h nx lg = some r) : OkV P o a w g ρ r kv := by
 obtain ⟨vs, h1, q1⟩ := kP q
 have hvs := jG he h1
 split at q1
 ·rename_i T ts v us hT;obtain ⟨x, xs, g1, g2, g3⟩ := eT.1 hvs;have hargs := argsL g3;have hT' : c.argTypes[0]? = some T := by rw [<- a0f, hT]; rfl
  have fin : ∀ {k : Int} {lg'}, (Builtin.len_ c.argTypes o.type (x :: xs).toArray).run P w = .ok (.int .i64 k) w -> run (kv (jD k)) h nx lg' = some r -> OkV P o a w g ρ r kv := fun hr q2 =>
   .pure R (wC ho hc fun _ => by rw [hargs]; simp [builtin, a1O, hr, Sem.run, Pure.pure]) rfl q2
  split at q1
  ·rename_i el hu;have hU := SX.run_underlying (dY hu) w;rcases qW q1 with ⟨b, off, len, cap, rfl, q2⟩ | ⟨b, off, len, es, rfl, q2⟩ | ⟨rfl, q2⟩ | q2
   ·obtain ⟨y, _, rfl⟩ := nY g1;exact fin (by simp [Builtin.len_, hT', a1O, hU, goInt, Sem.run, Pure.pure]) q2
   ·obtain ⟨y, _, rfl⟩ := nB g1;exact fin (by simp [Builtin.len_, hT', a1O, hU, goInt, Sem.run, Pure.pure]) q2
   ·cases g1;exact fin (by simp [Builtin.len_, hT', a1O, hU, goInt, Sem.run, Pure.pure]) q2
   ·cases q2
  ·rename_i hu;have hU := SX.run_underlying (dY hu) w;rcases aBn q1 with ⟨s, rfl, q2⟩ | q2
   ·cases g1;exact fin (by simp [Builtin.len_, hT', a1O, hU, goInt, Sem.run, Pure.pure]) q2
   ·cases q2
  ·rename_i kt el hu;have hU := SX.run_underlying (dY hu) w;rcases aBB q1 with ⟨b, rfl, q2⟩ | ⟨rfl, q2⟩
   ·rw [kY] at q2;obtain ⟨ob, h1', n1, l, e1, q3⟩ := dZ q2;obtain ⟨y, o', k1, k2, k3, _, rfl, rfl⟩ := nH R e1;cases ob with
    | map es ck =>
     cases o' <;> first
      | exact k3.elim
      | skip
     rename_i ms ck';simp only [tv, k1, a1K, a1M] at g1;subst g1;have hlen : ms.size = es.length := by
      have : ∀ {es : List Ent} {ms : List MapEntry}, jU ρ es ms -> ms.length = es.length := fun {es} => by
       induction es with
       | nil => intro ms hm; cases ms with
        | nil => rfl
        | cons => exact hm.elim
       | cons e es ih => intro ms hm; cases ms with
        | nil => exact hm.elim
        | cons m ms => simp [ih hm.2]
      simpa using this k3.2
     have q4 : run (kv (jD (.ofNat (ln es 0)))) h1' n1 (l ++ lg) = some r := q3;rw [ln0] at q4;exact fin (by simp [Builtin.len_, hT', a1O, hU, getObj, k2, hlen, goInt, Sem.run, Pure.pure]) q4
    | loop => cases q3
    | dfr => cases q3
   ·cases g1;exact fin (by simp [Builtin.len_, hT', a1O, hU, goInt, Sem.run, Pure.pure]) q2
  ·rename_i m el hu;have hU := SX.run_underlying (dY hu) w;exact fin (by simp [Builtin.len_, hT', a1O, hU, goInt, Sem.run, Pure.pure]) q1
  ·cases q1
 ·cases q1
theorem s_mm {least : Bool} {c : Call} (ho : o.op = .call c) (hc : c.callee = .builtin (if least then .min else .max)) (he : cC ρ e n a.tmps) (R : Rel g ρ h nx w) (q : run (hMm least c P ex e kv kp kd) h nx lg = some r) : OkV P o a w g ρ r kv := by
 obtain ⟨vs, h1, q1⟩ := kP q
 have hvs := jG he h1
 split at q1
 ·rename_i i j;obtain ⟨x, xs, g1, g2, g3⟩ := eT.1 hvs;obtain ⟨y, ys, g4, g5, rfl⟩ := eT.1 g2;cases rY.1 g5;cases g1; cases g4
  have hargs := argsL g3;cases least with
  | true =>
   rcases gV (b := true) q1 with ⟨_, q2⟩ | ⟨hh, _⟩
   ·rcases gV q2 with ⟨hl, q3⟩ | ⟨hl, q3⟩ <;> rw [tC] at hl <;>
     exact .pure R (wC ho hc fun _ => by rw [hargs]; simp at hl; simp [builtin, Builtin.min_, Builtin.min2, a1O, hl, Int.not_lt.2, Sem.run, Pure.pure]) rfl q3
   ·cases hh
  | false =>
   rcases gV (b := false) q1 with ⟨hh, _⟩ | ⟨_, q2⟩
   ·cases hh
   ·rcases gV q2 with ⟨hl, q3⟩ | ⟨hl, q3⟩ <;> rw [tC] at hl <;>
     exact .pure R (wC ho hc fun _ => by rw [hargs]; simp at hl; simp [builtin, Builtin.max_, Builtin.max2, a1O, hl, Int.not_lt.2, Sem.run, Pure.pure]) rfl q3
 ·cases q1
end
end
end Go.BX
